/- A part of the proof: see the last text. -/
import Derived.Test.YtcckdpimimkejaaG2
open Go Go.Eng Go.Proofs G1 G2
set_option maxRecDepth 100000
namespace G3
def rgE (r : Pts) : SV := .slice 2 r.n fun i => ptL (r.p i)
/-- The point behind. -/
def nxt (r : Pts) (i : Nat) : Pt := r.p ((i + 1) % r.n)
def sumI (f : Nat → Int) : Nat → Int
  | 0 => 0
  | n + 1 => sumI f n + f n
def tw2 (a b : Pt) : Int := a.1 * b.2 - b.1 * a.2
/-- Twice the area. -/
def twV (r : Pts) : Int := sumI (fun i => tw2 (r.p i) (nxt r i)) r.n
def OnR (r : Pts) : Prop := ∀ i, i < r.n → onB (r.p i) = true
def ptsD (s : SV) : Option Pts := match asSlice s with
  | some (_, n, enc) => some ⟨n, fun i => (intAt (nthE (enc i) 0), intAt (nthE (enc i) 1))⟩
  | none => none
/-- (gazetteer/polygon.ring).sides$1 -/
def g72 : List Nat := [6, 8, 5, 0, 4, 3, 1, 23, 7]
def c72 : SCode :=
  .seq (.region g72 [⟨some 5, none, .load 1 false (.s 1), []⟩, ⟨some 6, none, .lenSl (.s 5), []⟩, ⟨some 7, none, .move (.c (.int .i64 0)), []⟩]) (.block 0 (.loop 0 [8, 9, 10, 11, 4, 3, 12, 13, 14, 15, 16, 17, 18, 19, 20, 21, 22, 23, 24, 7] (.seq (.region g72 [⟨some 8, none, .bin (.lss) (.s 7) (.s 6), []⟩]) (.seq (.cond (.s 8) .skip (.exit 0)) (.seq (.block 1 (.seq (.region g72 [⟨some 9, none, .move (.s 7), []⟩, ⟨some 10, none, .idxSl 2 (.s 5) (.s 7), []⟩, ⟨some 11, none, .load 2 true (.s 10), []⟩, ⟨some 4, none, .alloc 24 (.cons (.int .i64 0) (.cons (.int .i64 0) .nil)), []⟩, ⟨some 3, none, .move (.s 9), []⟩, ⟨none, none, .store 2 (.s 4) (.s 11), []⟩]) (.seq (.drawn g72 (.pure 0 ⟨some 12, none, .move (.s 0), []⟩ (.pure 1 ⟨some 13, none, .load 2 true (.s 4), []⟩ (.pure 2 ⟨some 14, none, .load 1 false (.s 1), []⟩ (.pure 3 ⟨some 15, none, .move (.s 3), []⟩ (.pure 4 ⟨some 16, none, .bin (.add) (.s 15) (.c (.int .i64 1)), []⟩ (.pure 5 ⟨some 17, none, .load 1 false (.s 1), []⟩ (.pure 6 ⟨some 18, none, .lenSl (.s 17), []⟩ (.pure 7 ⟨some 19, none, .bin (.rem) (.s 16) (.s 18), []⟩ (.pure 8 ⟨some 20, none, .idxSl 2 (.s 14) (.s 19), []⟩ (.pure 9 ⟨some 21, none, .load 2 true (.s 20), []⟩ (.eff 10 ⟨some 22, none, .call (.s 12) [.s 13, .s 21], []⟩ [] (.pure 11 ⟨some 23, none, .not (.s 22), []⟩ .done) .none)))))))))))) (.cond (.s 23) .ret .skip)))) (.region g72 [⟨some 24, none, .bin (.add) (.s 7) (.c (.int .i64 1)), []⟩, ⟨some 7, none, .move (.s 24), []⟩]))))))
def r72 : List SRes := []
def k72 : List (Nat × Nat × SCode × Nat) := []
theorem e72 : cFunc Try.prog 72 g72 [] [22] k72 = some (c72, r72, 25) := by kernel_rfl
theorem q72 : RgOk Try.prog k72 := RgOk.nil
/-- (gazetteer/polygon.ring).sides -/
def g58 : List Nat := [0, 1, 2]
def c58 : SCode :=
  .seq (.region g58 [⟨some 1, none, .box 47 (.s 0), []⟩, ⟨some 2, none, .move (.c (.nilfn)), []⟩]) (.seq (.region g58 [⟨some 3, none, .mkfn 72 [.s 1], []⟩, ⟨some 2, none, .move (.s 3), []⟩]) .ret)
def r58 : List SRes := [.slot 2]
def k58 : List (Nat × Nat × SCode × Nat) := []
theorem e58 : cFunc Try.prog 58 g58 [] [] k58 = some (c58, r58, 4) := by kernel_rfl
theorem q58 : RgOk Try.prog k58 := RgOk.nil
def sides : Eng.Spec where
  X := Pts
  args := fun r => .cons (rgE r) .nil
  pre := fun _ => True
  res := fun r => .fn 72 (.cons (.cptr (.cons (rgE r) .nil)) .nil)
  inst := fun
    | .cons a .nil => ptsD a
    | _ => none
  fresh := false
theorem sides_ok : sides.Ok Try.prog 58 := by
  refine Eng.Spec.ok_of e58 q58 (fun _ => []) (fun _ _ => TabOk.nil) ?_
  rintro r _
  refine ⟨trivial, ?_⟩
  repeat' (first | refine And.intro ?_ ?_ | exact trivial | exact rfl | exact fun (j : Nat) (hj : j < _) => Or.inl (sub_ptN _ _ _ _))
/-- (gazetteer/polygon.ring).twice -/
def g35 : List Nat := [0, 7, 8, 9, 5, 4, 3, 2]
def c35 : SCode :=
  .seq (.region g35 [⟨some 2, none, .move (.c (.int .i64 0)), []⟩]) (.seq (.region g35 [⟨some 3, none, .alloc 3 (.cons (.int .i64 0) .nil), []⟩, ⟨none, none, .store 1 (.s 3) (.c (.int .i64 0)), []⟩]) (.seq (.seq (.region g35 [⟨some 6, none, .move (.s 0), []⟩, ⟨some 7, none, .call (.c (.fn 58)) [.s 6], []⟩]) (.block 0 (.range 0 (.s 7) 72 (c72) 25 [8, 9] (.seq (.region g35 [⟨some 4, none, .alloc 24 (.cons (.int .i64 0) (.cons (.int .i64 0) .nil)), []⟩, ⟨none, none, .store 2 (.s 4) (.s 8), []⟩]) (.region g35 [⟨some 5, none, .alloc 24 (.cons (.int .i64 0) (.cons (.int .i64 0) .nil)), []⟩, ⟨none, none, .store 2 (.s 5) (.s 9), []⟩])) (.block 1 (.region g35 [⟨some 10, none, .load 1 false (.s 3), []⟩, ⟨some 11, none, .fldA 0 (.s 4), []⟩, ⟨some 12, none, .load 1 false (.s 11), []⟩, ⟨some 13, none, .fldA 1 (.s 5), []⟩, ⟨some 14, none, .load 1 false (.s 13), []⟩, ⟨some 15, none, .bin (.mul) (.s 12) (.s 14), []⟩, ⟨some 16, none, .fldA 0 (.s 5), []⟩, ⟨some 17, none, .load 1 false (.s 16), []⟩, ⟨some 18, none, .fldA 1 (.s 4), []⟩, ⟨some 19, none, .load 1 false (.s 18), []⟩, ⟨some 20, none, .bin (.mul) (.s 17) (.s 19), []⟩, ⟨some 21, none, .bin (.sub) (.s 15) (.s 20), []⟩, ⟨some 22, none, .bin (.add) (.s 10) (.s 21), []⟩, ⟨none, none, .store 1 (.s 3) (.s 22), []⟩]))))) (.seq (.region g35 [⟨some 23, none, .load 1 false (.s 3), []⟩, ⟨some 2, none, .move (.s 23), []⟩]) .ret)))
def r35 : List SRes := [.slot 2]
def k35 : List (Nat × Nat × SCode × Nat) := [(0, 72, c72, 25)]
theorem e35 : cFunc Try.prog 35 g35 [] [] k35 = some (c35, r35, 24) := by kernel_rfl
theorem q35 : RgOk Try.prog k35 := RgOk.cons (RgOk.nil) q72 e72
theorem nxt_on {r : Pts} (h : OnR r) {i : Nat} (hi : i < r.n) : onB (nxt r i) = true := h _ (Nat.mod_lt _ (by omega))
theorem tw2_bd {a b : Pt} (ha : onB a = true) (hb : onB b = true) : (0 ≤ a.1 * b.2 ∧ a.1 * b.2 ≤ 1073741824) ∧ (0 ≤ b.1 * a.2 ∧ b.1 * a.2 ≤ 1073741824) := by
  have h1 := onB_iff.1 ha
  have h2 := onB_iff.1 hb
  have k1 := mul_bd (a := a.1) (b := b.2) (B := 32768) (by omega) (by omega) (by omega) (by omega)
  have k2 := mul_bd (a := b.1) (b := a.2) (B := 32768) (by omega) (by omega) (by omega) (by omega)
  have k3 := Int.mul_nonneg h1.1 h2.2.2.1
  have k4 := Int.mul_nonneg h2.1 h1.2.2.1
  omega
theorem sum_bd {f : Nat → Int} {B : Int} : ∀ {n : Nat}, (∀ i, i < n → -B ≤ f i ∧ f i ≤ B) → -(n * B) ≤ sumI f n ∧ sumI f n ≤ n * B := by
  intro n
  induction n with
  | zero => intro _; simp [sumI]
  | succ n ih =>
    intro h
    have h1 := ih fun i hi => h i (by omega)
    have h2 := h n (by omega)
    have e : ((n + 1 : Nat) : Int) * B = n * B + B := by rw [Int.natCast_succ, Int.add_mul, Int.one_mul]
    rw [e]
    simp only [sumI]
    omega
theorem tmod_nx {i n : Nat} (_ : 0 < n) : ((i : Int) + 1).tmod (n : Int) = (((i + 1) % n : Nat) : Int) := by
  rw [Int.tmod_eq_emod_of_nonneg (by omega)]
  rfl
def twice : Eng.Spec where
  X := Pts
  args := fun r => .cons (rgE r) .nil
  pre := fun r => r.n ≤ 50 ∧ OnR r
  res := fun r => .int .i64 (twV r)
  inst := fun
    | .cons a .nil => ptsD a
    | _ => none
theorem twice_ok : twice.Ok Try.prog 35 := by
  refine Eng.Spec.ok_of e35 q35 (fun _ => [(58, .p sides)]) (fun _ _ => TabOk.p sides_ok TabOk.nil) ?_
  rintro r ⟨hn, hr⟩
  replace hn : r.n ≤ 50 := hn
  replace hr : OnR r := hr
  refine ⟨trivial, ?_⟩
  repeat' (first | refine And.intro ?_ ?_ | exact trivial | exact rfl | exact fun (j : Nat) (hj : j < _) => Or.inl (sub_ptN _ _ _ _))
  refine ⟨⟨Nat, fun i => i ≤ r.n, fun i => [(7, .int .i64 (i : Int))], fun i => [(0, .cells 3 (.cons (.int .i64 (sumI (fun i => tw2 (r.p i) (nxt r i)) i)) .nil))], fun i => r.n - i⟩, 0, Nat.zero_le _, ?_, ?_⟩
  · repeat' (first | refine And.intro ?_ ?_ | exact trivial | exact rfl | exact fun (j : Nat) (hj : j < _) => Or.inl (sub_ptN _ _ _ _))
  rintro (i : Nat) (hi : i ≤ r.n)
  repeat' (first | refine And.intro ?_ ?_ | exact trivial | exact rfl | exact fun (j : Nat) (hj : j < _) => Or.inl (sub_ptN _ _ _ _))
  · refine fun (h : decide ((i : Int) < (r.n : Int)) = true) => ?_
    have hi1 : (i : Int) < (r.n : Int) := of_decide_eq_true h
    have hil : i < r.n := by omega
    have hi0 : (0 : Int) ≤ (i : Int) := by omega
    have b1 : -9223372036854775808 ≤ (i : Int) + 1 := by omega
    have b2 : (i : Int) + 1 ≤ 9223372036854775807 := by omega
    have hnz : (r.n : Int) ≠ 0 := by omega
    have hm := tmod_nx (i := i) (n := r.n) (by omega)
    have hq : r.p (((i : Int) + 1).tmod (r.n : Int)).toNat = nxt r i := by rw [hm]; rfl
    have hk := tw2_bd (hr i hil) (nxt_on hr hil)
    have hs := sum_bd (f := fun i => tw2 (r.p i) (nxt r i)) (B := 1073741824) (n := i) fun j hj => by
      have := tw2_bd (hr j (by omega)) (nxt_on hr (by omega : j < r.n))
      unfold tw2
      omega
    rw [← hq] at hk
    have hm1 : 0 ≤ ((i : Int) + 1).tmod (r.n : Int) := by rw [hm]; omega
    have hm2 : ((i : Int) + 1).tmod (r.n : Int) < (r.n : Int) := by rw [hm]; have := Nat.mod_lt (i + 1) (show 0 < r.n by omega); omega
    have hs2 : -53687091200 ≤ sumI (fun i => tw2 (r.p i) (nxt r i)) i ∧ sumI (fun i => tw2 (r.p i) (nxt r i)) i ≤ 53687091200 := by
      have := Int.mul_le_mul_of_nonneg_right (show (i : Int) ≤ 50 by omega) (show (0 : Int) ≤ 1073741824 by omega)
      omega
    have w1 : -9223372036854775808 ≤ (r.p i).1 * (r.p (((i : Int) + 1).tmod (r.n : Int)).toNat).2 := by omega
    have w2 : (r.p i).1 * (r.p (((i : Int) + 1).tmod (r.n : Int)).toNat).2 ≤ 9223372036854775807 := by omega
    have w3 : -9223372036854775808 ≤ (r.p (((i : Int) + 1).tmod (r.n : Int)).toNat).1 * (r.p i).2 := by omega
    have w4 : (r.p (((i : Int) + 1).tmod (r.n : Int)).toNat).1 * (r.p i).2 ≤ 9223372036854775807 := by omega
    have w5 : -9223372036854775808 ≤ (r.p i).1 * (r.p (((i : Int) + 1).tmod (r.n : Int)).toNat).2 - (r.p (((i : Int) + 1).tmod (r.n : Int)).toNat).1 * (r.p i).2 := by omega
    have w6 : (r.p i).1 * (r.p (((i : Int) + 1).tmod (r.n : Int)).toNat).2 - (r.p (((i : Int) + 1).tmod (r.n : Int)).toNat).1 * (r.p i).2 ≤ 9223372036854775807 := by omega
    have w7 : -9223372036854775808 ≤ sumI (fun i => tw2 (r.p i) (nxt r i)) i + ((r.p i).1 * (r.p (((i : Int) + 1).tmod (r.n : Int)).toNat).2 - (r.p (((i : Int) + 1).tmod (r.n : Int)).toNat).1 * (r.p i).2) := by omega
    have w8 : sumI (fun i => tw2 (r.p i) (nxt r i)) i + ((r.p i).1 * (r.p (((i : Int) + 1).tmod (r.n : Int)).toNat).2 - (r.p (((i : Int) + 1).tmod (r.n : Int)).toNat).1 * (r.p i).2) ≤ 9223372036854775807 := by omega
    have e : sumI (fun i => tw2 (r.p i) (nxt r i)) i + ((r.p i).1 * (r.p (((i : Int) + 1).tmod (r.n : Int)).toNat).2 - (r.p (((i : Int) + 1).tmod (r.n : Int)).toNat).1 * (r.p i).2) = sumI (fun i => tw2 (r.p i) (nxt r i)) (i + 1) := by rw [hq]; rfl
    repeat' (first | with_reducible exact hi1 | with_reducible exact hi0 | with_reducible exact b1 | with_reducible exact b2 | with_reducible exact hnz | exact hm1 | exact hm2 | refine And.intro ?_ ?_ | exact trivial | exact rfl | exact fun (j : Nat) (hj : j < _) => Or.inl (sub_ptN _ _ _ _) | exact fun (h : (!true) = true) => Bool.noConfusion h | (refine fun (_ : (!true) = false) => ?_))
    · exact w1
    · exact w2
    · exact w3
    · exact w4
    · exact w5
    · exact w6
    · exact w7
    · exact w8
    refine Exists.intro (i + 1) (And.intro hil ?_)
    repeat' (first | exact e | refine And.intro ?_ ?_ | exact trivial | exact rfl | exact fun (j : Nat) (hj : j < _) => Or.inl (sub_ptN _ _ _ _))
    show r.n - (i + 1) < r.n - i
    omega
  · refine fun (h : decide ((i : Int) < (r.n : Int)) = false) => ?_
    have hi1 : ¬ (i : Int) < (r.n : Int) := of_decide_eq_false h
    have e : i = r.n := by omega
    subst e
    repeat' (first | refine And.intro ?_ ?_ | exact trivial | exact rfl | exact fun (j : Nat) (hj : j < _) => Or.inl (sub_ptN _ _ _ _))
end G3
