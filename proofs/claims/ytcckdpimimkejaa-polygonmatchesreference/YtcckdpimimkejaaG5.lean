/- A part of the proof: see the last text. -/
import Derived.Test.YtcckdpimimkejaaG4
open Go Go.Eng Go.Proofs G1 G2 G3 G4
set_option maxRecDepth 100000
namespace G5
/-- Inside, and outside, of a ring. -/
def insV (r : Pts) (p : Pt) : Bool := !decide (wdV r p = 0) && !onV r p
def outV (r : Pts) (p : Pt) : Bool := decide (wdV r p = 0) && !onV r p
def inside : Eng.Spec where
  X := Pts × Pt
  args := fun x => .cons (rgE x.1) (.cons (ptE x.2) .nil)
  pre := fun x => (x.1.n ≤ 50 ∧ OnR x.1) ∧ OnH x.2
  res := fun x => .bool (insV x.1 x.2)
  inst := ptsPt
/-- (gazetteer/polygon.ring).inside -/
def g43 : List Nat := [1, 0, 3, 5, 6, 4]
def c43 : SCode :=
  .seq (.region g43 [⟨some 3, none, .box 24 (.s 1), []⟩, ⟨some 4, none, .move (.c (.bool false)), []⟩]) (.seq (.region g43 [⟨some 8, none, .move (.s 0), []⟩, ⟨some 9, none, .load 2 true (.s 3), []⟩, ⟨some 10, none, .call (.c (.fn 64)) [.s 8, .s 9], []⟩, ⟨some 7, none, .move (.s 10), []⟩, ⟨some 11, none, .extract 0 (.s 7), []⟩, ⟨some 12, none, .extract 1 (.s 7), []⟩, ⟨some 5, none, .move (.s 11), []⟩, ⟨some 6, none, .move (.s 12), []⟩]) (.seq (.region g43 [⟨some 13, none, .move (.s 5), []⟩, ⟨some 14, none, .bin (.neq) (.s 13) (.c (.int .i64 0)), []⟩, ⟨some 15, none, .move (.s 14), []⟩, ⟨some 16, some (15, true), .move (.s 6), []⟩, ⟨some 17, some (15, true), .not (.s 16), []⟩, ⟨some 18, none, .pick (.s 15) (.s 17) (.c (.bool false)), []⟩, ⟨some 4, none, .move (.s 18), []⟩]) .ret))
def r43 : List SRes := [.slot 4]
def k43 : List (Nat × Nat × SCode × Nat) := []
theorem e43 : cFunc Try.prog 43 g43 [] [] k43 = some (c43, r43, 19) := by kernel_rfl
theorem q43 : RgOk Try.prog k43 := RgOk.nil
theorem inside_ok : inside.Ok Try.prog 43 := by
  refine Eng.Spec.ok_of e43 q43 (fun _ => [(64, .p half)]) (fun _ _ => TabOk.p half_ok TabOk.nil) ?_
  rintro ⟨r, p⟩ h
  have e : ∀ i j, pickB (!decide (wdV r p = 0)) (.s i) (.c (.bool false)) (!onV r p) j = insV r p := fun i j => pickB_and _ _ _ _
  refine ⟨trivial, ?_⟩
  repeat' (first | exact h | exact e _ _ | refine And.intro ?_ ?_ | exact trivial | exact rfl | exact fun (j : Nat) (hj : j < _) => Or.inl (sub_ptN _ _ _ _))
def outside : Eng.Spec where
  X := Pts × Pt
  args := fun x => .cons (rgE x.1) (.cons (ptE x.2) .nil)
  pre := fun x => (x.1.n ≤ 50 ∧ OnR x.1) ∧ OnH x.2
  res := fun x => .bool (outV x.1 x.2)
  inst := ptsPt
/-- (gazetteer/polygon.ring).outside -/
def g42 : List Nat := [1, 0, 3, 5, 6, 4]
def c42 : SCode :=
  .seq (.region g42 [⟨some 3, none, .box 24 (.s 1), []⟩, ⟨some 4, none, .move (.c (.bool false)), []⟩]) (.seq (.region g42 [⟨some 8, none, .move (.s 0), []⟩, ⟨some 9, none, .load 2 true (.s 3), []⟩, ⟨some 10, none, .call (.c (.fn 64)) [.s 8, .s 9], []⟩, ⟨some 7, none, .move (.s 10), []⟩, ⟨some 11, none, .extract 0 (.s 7), []⟩, ⟨some 12, none, .extract 1 (.s 7), []⟩, ⟨some 5, none, .move (.s 11), []⟩, ⟨some 6, none, .move (.s 12), []⟩]) (.seq (.region g42 [⟨some 13, none, .move (.s 5), []⟩, ⟨some 14, none, .bin (.eql) (.s 13) (.c (.int .i64 0)), []⟩, ⟨some 15, none, .move (.s 14), []⟩, ⟨some 16, some (15, true), .move (.s 6), []⟩, ⟨some 17, some (15, true), .not (.s 16), []⟩, ⟨some 18, none, .pick (.s 15) (.s 17) (.c (.bool false)), []⟩, ⟨some 4, none, .move (.s 18), []⟩]) .ret))
def r42 : List SRes := [.slot 4]
def k42 : List (Nat × Nat × SCode × Nat) := []
theorem e42 : cFunc Try.prog 42 g42 [] [] k42 = some (c42, r42, 19) := by kernel_rfl
theorem q42 : RgOk Try.prog k42 := RgOk.nil
theorem outside_ok : outside.Ok Try.prog 42 := by
  refine Eng.Spec.ok_of e42 q42 (fun _ => [(64, .p half)]) (fun _ _ => TabOk.p half_ok TabOk.nil) ?_
  rintro ⟨r, p⟩ h
  have e : ∀ i j, pickB (decide (wdV r p = 0)) (.s i) (.c (.bool false)) (!onV r p) j = outV r p := fun i j => pickB_and _ _ _ _
  refine ⟨trivial, ?_⟩
  repeat' (first | exact h | exact e _ _ | refine And.intro ?_ ?_ | exact trivial | exact rfl | exact fun (j : Nat) (hj : j < _) => Or.inl (sub_ptN _ _ _ _))
/-! ### Crossing -/
def crI (r s : Pts) (i k : Nat) : Bool := decide (crV (r.p i) (nxt r i) (s.p k) (nxt s k) = 2)
def crR (r s : Pts) (i : Nat) : Bool := orB (crI r s i) s.n
def crossB (r s : Pts) : Bool := orB (crR r s) r.n
theorem orB_true {f : Nat → Bool} : ∀ {n : Nat}, orB f n = true ↔ ∃ i, i < n ∧ f i = true := by
  intro n
  induction n with
  | zero => simp [orB]
  | succ n ih =>
    simp only [orB, Bool.or_eq_true, ih]
    constructor
    · rintro (⟨i, h1, h2⟩ | h)
      · exact ⟨i, by omega, h2⟩
      · exact ⟨n, by omega, h⟩
    · rintro ⟨i, h1, h2⟩
      by_cases e : i = n
      · subst e; exact .inr h2
      · exact .inl ⟨i, by omega, h2⟩
theorem orB_false {f : Nat → Bool} {n : Nat} : orB f n = false ↔ ∀ i, i < n → f i = false := by
  constructor
  · intro h i hi
    cases hf : f i with
    | false => rfl
    | true => rw [orB_true.2 ⟨i, hi, hf⟩] at h; cases h
  · intro h
    cases hf : orB f n with
    | false => rfl
    | true => obtain ⟨i, h1, h2⟩ := orB_true.1 hf; rw [h i h1] at h2; cases h2
def twoR : SV → Option (Pts × Pts)
  | .cons a (.cons b .nil) => match ptsD a, ptsD b with
    | some r, some p => some (r, p)
    | _, _ => none
  | _ => none
def crosses : Eng.Spec where
  X := Pts × Pts
  args := fun x => .cons (rgE x.1) (.cons (rgE x.2) .nil)
  pre := fun x => (x.1.n ≤ 50 ∧ OnR x.1) ∧ (x.2.n ≤ 50 ∧ OnR x.2)
  res := fun x => .bool (crossB x.1 x.2)
  inst := twoR
/-- (gazetteer/polygon.ring).sides$1 -/
def g72 : List Nat := [6, 8, 5, 0, 4, 3, 1, 23, 7]
def c72 : SCode :=
  .seq (.region g72 [⟨some 5, none, .load 1 false (.s 1), []⟩, ⟨some 6, none, .lenSl (.s 5), []⟩, ⟨some 7, none, .move (.c (.int .i64 0)), []⟩]) (.block 0 (.loop 0 [8, 9, 10, 11, 4, 3, 12, 13, 14, 15, 16, 17, 18, 19, 20, 21, 22, 23, 24, 7] (.seq (.region g72 [⟨some 8, none, .bin (.lss) (.s 7) (.s 6), []⟩]) (.seq (.cond (.s 8) .skip (.exit 0)) (.seq (.block 1 (.seq (.region g72 [⟨some 9, none, .move (.s 7), []⟩, ⟨some 10, none, .idxSl 2 (.s 5) (.s 7), []⟩, ⟨some 11, none, .load 2 true (.s 10), []⟩, ⟨some 4, none, .alloc 24 (.cons (.int .i64 0) (.cons (.int .i64 0) .nil)), []⟩, ⟨some 3, none, .move (.s 9), []⟩, ⟨none, none, .store 2 (.s 4) (.s 11), []⟩]) (.seq (.drawn g72 (.pure 0 ⟨some 12, none, .move (.s 0), []⟩ (.pure 1 ⟨some 13, none, .load 2 true (.s 4), []⟩ (.pure 2 ⟨some 14, none, .load 1 false (.s 1), []⟩ (.pure 3 ⟨some 15, none, .move (.s 3), []⟩ (.pure 4 ⟨some 16, none, .bin (.add) (.s 15) (.c (.int .i64 1)), []⟩ (.pure 5 ⟨some 17, none, .load 1 false (.s 1), []⟩ (.pure 6 ⟨some 18, none, .lenSl (.s 17), []⟩ (.pure 7 ⟨some 19, none, .bin (.rem) (.s 16) (.s 18), []⟩ (.pure 8 ⟨some 20, none, .idxSl 2 (.s 14) (.s 19), []⟩ (.pure 9 ⟨some 21, none, .load 2 true (.s 20), []⟩ (.eff 10 ⟨some 22, none, .call (.s 12) [.s 13, .s 21], []⟩ [] (.pure 11 ⟨some 23, none, .not (.s 22), []⟩ .done) .none)))))))))))) (.cond (.s 23) .ret .skip)))) (.region g72 [⟨some 24, none, .bin (.add) (.s 7) (.c (.int .i64 1)), []⟩, ⟨some 7, none, .move (.s 24), []⟩]))))))
def r72 : List SRes := []
def k72 : List (Nat × Nat × SCode × Nat) := []
theorem e72 : cFunc Try.prog 72 g72 [] [22] k72 = some (c72, r72, 25) := by kernel_rfl
theorem q72 : RgOk Try.prog k72 := RgOk.nil
/-- (gazetteer/polygon.ring).crosses -/
def g47 : List Nat := [1, 0, 10, 11, 12, 3, 14, 15, 16, 5, 6, 7, 8, 22, 4]
def c47 : SCode :=
  .seq (.region g47 [⟨some 3, none, .box 47 (.s 1), []⟩, ⟨some 4, none, .alloc 4 (.cons (.bool false) .nil), []⟩]) (.seq (.seq (.region g47 [⟨some 9, none, .move (.s 0), []⟩, ⟨some 10, none, .call (.c (.fn 58)) [.s 9], []⟩]) (.block 0 (.range 0 (.s 10) 72 (c72) 25 [11, 12] (.seq (.region g47 [⟨some 5, none, .alloc 24 (.cons (.int .i64 0) (.cons (.int .i64 0) .nil)), []⟩, ⟨none, none, .store 2 (.s 5) (.s 11), []⟩]) (.region g47 [⟨some 6, none, .alloc 24 (.cons (.int .i64 0) (.cons (.int .i64 0) .nil)), []⟩, ⟨none, none, .store 2 (.s 6) (.s 12), []⟩])) (.block 1 (.seq (.region g47 [⟨some 13, none, .load 1 false (.s 3), []⟩, ⟨some 14, none, .call (.c (.fn 58)) [.s 13], []⟩]) (.block 2 (.range 2 (.s 14) 72 (c72) 25 [15, 16] (.seq (.region g47 [⟨some 7, none, .alloc 24 (.cons (.int .i64 0) (.cons (.int .i64 0) .nil)), []⟩, ⟨none, none, .store 2 (.s 7) (.s 15), []⟩]) (.region g47 [⟨some 8, none, .alloc 24 (.cons (.int .i64 0) (.cons (.int .i64 0) .nil)), []⟩, ⟨none, none, .store 2 (.s 8) (.s 16), []⟩])) (.block 3 (.seq (.region g47 [⟨some 17, none, .load 2 true (.s 5), []⟩, ⟨some 18, none, .load 2 true (.s 6), []⟩, ⟨some 19, none, .load 2 true (.s 7), []⟩, ⟨some 20, none, .load 2 true (.s 8), []⟩, ⟨some 21, none, .call (.c (.fn 60)) [.s 17, .s 18, .s 19, .s 20], []⟩, ⟨some 22, none, .bin (.eql) (.s 21) (.c (.int .i64 2)), []⟩]) (.cond (.s 22) (.seq (.region g47 [⟨none, none, .store 1 (.s 4) (.c (.bool true)), []⟩]) .ret) .skip)))))))))) (.seq (.region g47 [⟨none, none, .store 1 (.s 4) (.c (.bool false)), []⟩]) .ret))
def r47 : List SRes := [.cell 4 1 false]
def k47 : List (Nat × Nat × SCode × Nat) := [(0, 72, c72, 25), (2, 72, c72, 25)]
theorem e47 : cFunc Try.prog 47 g47 [] [] k47 = some (c47, r47, 23) := by kernel_rfl
theorem q47 : RgOk Try.prog k47 := RgOk.cons (RgOk.cons (RgOk.nil) q72 e72) q72 e72
set_option maxHeartbeats 4000000 in
theorem crosses_ok : crosses.Ok Try.prog 47 := by
  refine Eng.Spec.ok_of e47 q47 (fun _ => [(58, .p sides), (60, .p Cross)]) (fun _ _ => TabOk.p sides_ok (TabOk.p Cross_ok TabOk.nil)) ?_
  rintro ⟨r, s⟩ ⟨⟨hn, hr⟩, hm, hs⟩
  replace hn : r.n ≤ 50 := hn
  replace hr : OnR r := hr
  replace hm : s.n ≤ 50 := hm
  replace hs : OnR s := hs
  refine ⟨trivial, ?_⟩
  repeat' (first | refine And.intro ?_ ?_ | exact trivial | exact rfl | exact fun (j : Nat) (hj : j < _) => Or.inl (sub_ptN _ _ _ _))
  refine ⟨⟨Nat, fun i => i ≤ r.n ∧ orB (crR r s) i = false, fun i => [(7, .int .i64 (i : Int))], fun i => [], fun i => r.n - i⟩, 0, ⟨Nat.zero_le _, rfl⟩, ?_, ?_⟩
  · repeat' (first | refine And.intro ?_ ?_ | exact trivial | exact rfl | exact fun (j : Nat) (hj : j < _) => Or.inl (sub_ptN _ _ _ _))
  rintro (i : Nat) ⟨(hi : i ≤ r.n), (hf : orB (crR r s) i = false)⟩
  repeat' (first | refine And.intro ?_ ?_ | exact trivial | exact rfl | exact fun (j : Nat) (hj : j < _) => Or.inl (sub_ptN _ _ _ _))
  · refine fun (h : decide ((i : Int) < (r.n : Int)) = true) => ?_
    have hi1 : (i : Int) < (r.n : Int) := of_decide_eq_true h
    have hil : i < r.n := by omega
    have hi0 : (0 : Int) ≤ (i : Int) := by omega
    have b1 : -9223372036854775808 ≤ (i : Int) + 1 := by omega
    have b2 : (i : Int) + 1 ≤ 9223372036854775807 := by omega
    have hnz : (r.n : Int) ≠ 0 := by omega
    have hm := tmod_nx (i := i) (n := r.n) (by omega)
    have hq : r.p (((i : Int) + 1).tmod (r.n : Int)).toNat = nxt r i := by rw [hm]; rfl
    have hm1 : 0 ≤ ((i : Int) + 1).tmod (r.n : Int) := by rw [hm]; omega
    have hm2 : ((i : Int) + 1).tmod (r.n : Int) < (r.n : Int) := by rw [hm]; have := Nat.mod_lt (i + 1) (show 0 < r.n by omega); omega
    repeat' (first | with_reducible exact hi1 | with_reducible exact hi0 | with_reducible exact b1 | with_reducible exact b2 | with_reducible exact hnz | exact hm1 | exact hm2 | refine And.intro ?_ ?_ | exact trivial | exact rfl | exact fun (j : Nat) (hj : j < _) => Or.inl (sub_ptN _ _ _ _) | exact fun (h : (!true) = true) => Bool.noConfusion h | (refine fun (_ : (!true) = false) => ?_))
    refine ⟨⟨Nat, fun k => k ≤ s.n ∧ orB (crI r s i) k = false, fun k => [(7, .int .i64 (k : Int))], fun k => [], fun k => s.n - k⟩, 0, ⟨Nat.zero_le _, rfl⟩, ?_, ?_⟩
    · repeat' (first | refine And.intro ?_ ?_ | exact trivial | exact rfl | exact fun (j : Nat) (hj : j < _) => Or.inl (sub_ptN _ _ _ _))
    rintro (k : Nat) ⟨(hk : k ≤ s.n), (hfk : orB (crI r s i) k = false)⟩
    repeat' (first | refine And.intro ?_ ?_ | exact trivial | exact rfl | exact fun (j : Nat) (hj : j < _) => Or.inl (sub_ptN _ _ _ _))
    · refine fun (h : decide ((k : Int) < (s.n : Int)) = true) => ?_
      have ki1 : (k : Int) < (s.n : Int) := of_decide_eq_true h
      have kil : k < s.n := by omega
      have ki0 : (0 : Int) ≤ (k : Int) := by omega
      have c1 : -9223372036854775808 ≤ (k : Int) + 1 := by omega
      have c2 : (k : Int) + 1 ≤ 9223372036854775807 := by omega
      have knz : (s.n : Int) ≠ 0 := by omega
      have km := tmod_nx (i := k) (n := s.n) (by omega)
      have kq : s.p (((k : Int) + 1).tmod (s.n : Int)).toNat = nxt s k := by rw [km]; rfl
      have km1 : 0 ≤ ((k : Int) + 1).tmod (s.n : Int) := by rw [km]; omega
      have km2 : ((k : Int) + 1).tmod (s.n : Int) < (s.n : Int) := by rw [km]; have := Nat.mod_lt (k + 1) (show 0 < s.n by omega); omega
      have h1 := hr i hil
      have h2 : onB (r.p (((i : Int) + 1).tmod (r.n : Int)).toNat) = true := by rw [hq]; exact nxt_on hr hil
      have h3 := hs k kil
      have h4 : onB (s.p (((k : Int) + 1).tmod (s.n : Int)).toNat) = true := by rw [kq]; exact nxt_on hs kil
      have ec : crI r s i k = decide (crV (r.p i) (r.p (((i : Int) + 1).tmod (r.n : Int)).toNat) (s.p k) (s.p (((k : Int) + 1).tmod (s.n : Int)).toNat) = 2) := by rw [hq, kq]; rfl
      repeat' (first | with_reducible exact ki1 | with_reducible exact ki0 | with_reducible exact c1 | with_reducible exact c2 | with_reducible exact knz | exact km1 | exact km2 | exact h1 | exact h2 | exact h3 | exact h4 | refine And.intro ?_ ?_ | exact trivial | exact rfl | exact fun (j : Nat) (hj : j < _) => Or.inl (sub_ptN _ _ _ _) | exact fun (h : (!true) = true) => Bool.noConfusion h | (refine fun (_ : (!true) = false) => ?_))
      · refine fun (hc : decide (crV (r.p i) (r.p (((i : Int) + 1).tmod (r.n : Int)).toNat) (s.p k) (s.p (((k : Int) + 1).tmod (s.n : Int)).toNat) = 2) = true) => ?_
        have er : crR r s i = true := (orB_true (f := crI r s i) (n := s.n)).2 ⟨k, kil, ec.trans hc⟩
        have et : true = crossB r s := ((orB_true (f := crR r s) (n := r.n)).2 ⟨i, hil, er⟩).symm
        repeat' (first | exact et | refine And.intro ?_ ?_ | exact trivial | exact rfl | exact fun (j : Nat) (hj : j < _) => Or.inl (sub_ptN _ _ _ _) | exact fun (h : (!true) = true) => Bool.noConfusion h | (refine fun (_ : (!true) = false) => ?_) | exact fun (h : (!false) = false) => Bool.noConfusion h | (refine fun (_ : (!false) = true) => ?_))
      refine fun (hc : decide (crV (r.p i) (r.p (((i : Int) + 1).tmod (r.n : Int)).toNat) (s.p k) (s.p (((k : Int) + 1).tmod (s.n : Int)).toNat) = 2) = false) => ?_
      have hfk1 : orB (crI r s i) (k + 1) = false := by
        simp only [orB]
        rw [hfk, ec, hc]
        rfl
      repeat' (first | with_reducible exact c1 | with_reducible exact c2 | refine And.intro ?_ ?_ | exact trivial | exact rfl | exact fun (j : Nat) (hj : j < _) => Or.inl (sub_ptN _ _ _ _) | exact fun (h : (!true) = true) => Bool.noConfusion h | (refine fun (_ : (!true) = false) => ?_))
      refine Exists.intro (k + 1) ?_
      refine And.intro (And.intro kil hfk1) ?_
      repeat' (first | refine And.intro ?_ ?_ | exact trivial | exact rfl | exact fun (j : Nat) (hj : j < _) => Or.inl (sub_ptN _ _ _ _))
      show s.n - (k + 1) < s.n - k
      omega
    · refine fun (h : decide ((k : Int) < (s.n : Int)) = false) => ?_
      have ki1 : ¬ (k : Int) < (s.n : Int) := of_decide_eq_false h
      have ek : k = s.n := by omega
      have hfi : orB (crR r s) (i + 1) = false := by
        simp only [orB]
        rw [hf]
        show orB (crI r s i) s.n = false
        rw [← ek]
        exact hfk
      repeat' (first | with_reducible exact b1 | with_reducible exact b2 | refine And.intro ?_ ?_ | exact trivial | exact rfl | exact fun (j : Nat) (hj : j < _) => Or.inl (sub_ptN _ _ _ _) | exact fun (h : (!true) = true) => Bool.noConfusion h | (refine fun (_ : (!true) = false) => ?_))
      refine Exists.intro (i + 1) ?_
      refine And.intro (And.intro hil hfi) ?_
      repeat' (first | refine And.intro ?_ ?_ | exact trivial | exact rfl | exact fun (j : Nat) (hj : j < _) => Or.inl (sub_ptN _ _ _ _))
      show r.n - (i + 1) < r.n - i
      omega
  · refine fun (h : decide ((i : Int) < (r.n : Int)) = false) => ?_
    have hi1 : ¬ (i : Int) < (r.n : Int) := of_decide_eq_false h
    have e : i = r.n := by omega
    have ef : false = crossB r s := by
      unfold crossB
      rw [← e]
      exact hf.symm
    repeat' (first | exact ef | refine And.intro ?_ ?_ | exact trivial | exact rfl | exact fun (j : Nat) (hj : j < _) => Or.inl (sub_ptN _ _ _ _))
end G5
