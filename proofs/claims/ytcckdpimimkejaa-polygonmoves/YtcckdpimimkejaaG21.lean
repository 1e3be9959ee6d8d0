/- A part of the proof: see the last text. -/
import Derived.Test.YtcckdpimimkejaaG20
import Derived.Test.YtcckdpimimkejaaG15
open Go Go.Eng Go.Proofs G1 G2 G3 G4 G5 G6 G7 G8 G9 G10 G11 G12 G13 G14 G15 G16 G18 G19 G20
set_option maxRecDepth 100000
namespace G21
def onAl : Eng.Spec where
  X := Pts
  args := fun r => .cons (rgE r) .nil
  pre := fun r => r.n ≤ 50
  res := fun r => .bool (!orB (offI r) r.n)
  inst := ptsS
/-- gazetteer/gazetteerlaw08.on -/
def g31 : List Nat := [7, 0, 15, 3, 2]
def c31 : SCode :=
  .seq (.region g31 [⟨some 2, none, .move (.c (.bool false)), []⟩]) (.seq (.seq (.region g31 [⟨some 3, none, .move (.c (.int .i64 0)), []⟩]) (.block 0 (.loop 0 [4, 5, 6, 7, 10, 11, 12, 13, 14, 15, 2, 8, 9, 3] (.seq (.seq (.region g31 [⟨some 4, none, .move (.s 3), []⟩, ⟨some 5, none, .move (.s 0), []⟩, ⟨some 6, none, .lenSl (.s 5), []⟩, ⟨some 7, none, .bin (.lss) (.s 4) (.s 6), []⟩]) (.cond (.s 7) .skip (.exit 0))) (.seq (.block 1 (.seq (.region g31 [⟨some 10, none, .move (.s 0), []⟩, ⟨some 11, none, .move (.s 3), []⟩, ⟨some 12, none, .idxSl 2 (.s 10) (.s 11), []⟩, ⟨some 13, none, .load 2 true (.s 12), []⟩, ⟨some 14, none, .call (.c (.fn 29)) [.s 13], []⟩, ⟨some 15, none, .not (.s 14), []⟩]) (.cond (.s 15) (.seq (.region g31 [⟨some 2, none, .move (.c (.bool false)), []⟩]) .ret) .skip))) (.region g31 [⟨some 8, none, .move (.s 3), []⟩, ⟨some 9, none, .bin (.add) (.s 8) (.c (.int .i64 1)), []⟩, ⟨some 3, none, .move (.s 9), []⟩])))))) (.seq (.region g31 [⟨some 2, none, .move (.c (.bool true)), []⟩]) .ret))
def r31 : List SRes := [.slot 2]
def k31 : List (Nat × Nat × SCode × Nat) := []
theorem e31 : cFunc Try.prog 31 g31 [] [] k31 = some (c31, r31, 16) := by kernel_rfl
theorem q31 : RgOk Try.prog k31 := RgOk.nil
theorem onAl_ok : onAl.Ok Try.prog 31 := by
  refine Eng.Spec.ok_of e31 q31 (fun _ => [(29, .p On)]) (fun _ _ => TabOk.p On_ok TabOk.nil) ?_
  rintro r hn
  replace hn : r.n ≤ 50 := hn
  refine ⟨trivial, ?_⟩
  repeat' (first | refine And.intro ?_ ?_ | exact trivial | exact rfl | exact fun (j : Nat) (hj : j < _) => Or.inl (sub_ptN _ _ _ _))
  refine ⟨⟨Nat, fun i => i ≤ r.n ∧ orB (offI r) i = false, fun i => [(3, .int .i64 (i : Int))], fun _ => [], fun i => r.n - i⟩, 0, ⟨Nat.zero_le _, rfl⟩, ?_, ?_⟩
  · repeat' (first | refine And.intro ?_ ?_ | exact trivial | exact rfl | exact fun (j : Nat) (hj : j < _) => Or.inl (sub_ptN _ _ _ _))
  rintro (i : Nat) ⟨(hi : i ≤ r.n), (hf : orB (offI r) i = false)⟩
  repeat' (first | refine And.intro ?_ ?_ | exact trivial | exact rfl | exact fun (j : Nat) (hj : j < _) => Or.inl (sub_ptN _ _ _ _))
  · refine fun (h : decide ((i : Int) < (r.n : Int)) = true) => ?_
    have hi1 : (i : Int) < (r.n : Int) := of_decide_eq_true h
    have hil : i < r.n := by omega
    have hi0 : (0 : Int) ≤ (i : Int) := by omega
    have b1 : -9223372036854775808 ≤ (i : Int) + 1 := by omega
    have b2 : (i : Int) + 1 ≤ 9223372036854775807 := by omega
    repeat' (first | with_reducible exact hi1 | with_reducible exact hi0 | refine And.intro ?_ ?_ | exact trivial | exact rfl | exact fun (j : Nat) (hj : j < _) => Or.inl (sub_ptN _ _ _ _))
    · refine fun (hc : (!onB (r.p i)) = true) => ?_
      have e : false = !orB (offI r) r.n := by rw [orB_true.2 ⟨i, hil, hc⟩]; rfl
      repeat' (first | exact e | refine And.intro ?_ ?_ | exact trivial | exact rfl | exact fun (j : Nat) (hj : j < _) => Or.inl (sub_ptN _ _ _ _))
    · refine fun (hc : (!onB (r.p i)) = false) => ?_
      have hf1 : orB (offI r) (i + 1) = false := by
        simp only [orB]
        rw [hf]
        exact hc
      repeat' (first | with_reducible exact b1 | with_reducible exact b2 | refine And.intro ?_ ?_ | exact trivial | exact rfl | exact fun (j : Nat) (hj : j < _) => Or.inl (sub_ptN _ _ _ _))
      refine Exists.intro (i + 1) ?_
      refine And.intro (And.intro hil hf1) ?_
      repeat' (first | refine And.intro ?_ ?_ | exact trivial | exact rfl | exact fun (j : Nat) (hj : j < _) => Or.inl (sub_ptN _ _ _ _))
      show r.n - (i + 1) < r.n - i
      omega
  · refine fun (h : decide ((i : Int) < (r.n : Int)) = false) => ?_
    have hi1 : ¬ (i : Int) < (r.n : Int) := of_decide_eq_false h
    have e : i = r.n := by omega
    have ef : true = !orB (offI r) r.n := by rw [← e, hf]; rfl
    repeat' (first | exact ef | refine And.intro ?_ ?_ | exact trivial | exact rfl | exact fun (j : Nat) (hj : j < _) => Or.inl (sub_ptN _ _ _ _))
def movR (r : Pts) (t : Pt) : Bool → Pts
  | true => swR r
  | false => mvR t r
theorem movR_n (r : Pts) (t : Pt) (b : Bool) : (movR r t b).n = r.n := by cases b <;> rfl
structure XM where
  r : Pts
  t : Pt
  b : Bool
def movedS : Eng.Spec where
  X := XM
  args := fun x => .cons (rgE x.r) (.cons (.int .i64 x.t.1) (.cons (.int .i64 x.t.2) (.cons (.bool x.b) .nil)))
  pre := fun x => (x.r.n ≤ 50 ∧ OnR x.r) ∧ bd 32768 x.t
  res := fun x => rgE (movR x.r x.t x.b)
  inst := fun
    | .cons a (.cons (.int _ x) (.cons (.int _ y) (.cons (.bool b) .nil))) => match ptsD a with
      | some r => some ⟨r, (x, y), b⟩
      | none => none
    | _ => none
/-- gazetteer/gazetteerlaw08.moved -/
def g30 : List Nat := [15, 3, 18, 11, 1, 0, 2, 10, 9, 8]
def c30 : SCode :=
  .seq (.region g30 [⟨some 8, none, .move (.c (.nilsl)), []⟩]) (.seq (.region g30 [⟨some 9, none, .move (.c (.nilsl)), []⟩]) (.seq (.seq (.region g30 [⟨some 10, none, .move (.c (.int .i64 0)), []⟩]) (.block 0 (.loop 0 [12, 13, 14, 15, 18, 19, 20, 21, 22, 23, 24, 25, 26, 11, 27, 28, 29, 30, 31, 32, 33, 34, 35, 36, 37, 38, 39, 40, 41, 42, 43, 44, 45, 46, 47, 48, 49, 50, 51, 52, 9, 16, 17, 10] (.seq (.seq (.region g30 [⟨some 12, none, .move (.s 10), []⟩, ⟨some 13, none, .move (.s 0), []⟩, ⟨some 14, none, .lenSl (.s 13), []⟩, ⟨some 15, none, .bin (.lss) (.s 12) (.s 14), []⟩]) (.cond (.s 15) .skip (.exit 0))) (.seq (.block 1 (.seq (.region g30 [⟨some 18, none, .move (.s 3), []⟩]) (.cond (.s 18) (.seq (.region g30 [⟨some 19, none, .move (.s 0), []⟩, ⟨some 20, none, .move (.s 0), []⟩, ⟨some 21, none, .lenSl (.s 20), []⟩, ⟨some 22, none, .bin (.sub) (.s 21) (.c (.int .i64 1)), []⟩, ⟨some 23, none, .move (.s 10), []⟩, ⟨some 24, none, .bin (.sub) (.s 22) (.s 23), []⟩, ⟨some 25, none, .idxSl 2 (.s 19) (.s 24), []⟩, ⟨some 26, none, .load 2 true (.s 25), []⟩, ⟨some 11, none, .alloc 24 (.cons (.int .i64 0) (.cons (.int .i64 0) .nil)), []⟩, ⟨none, none, .store 2 (.s 11) (.s 26), []⟩]) (.region g30 [⟨some 27, none, .move (.s 9), []⟩, ⟨some 28, none, .fldA 1 (.s 11), []⟩, ⟨some 29, none, .load 1 false (.s 28), []⟩, ⟨some 30, none, .fldA 0 (.s 11), []⟩, ⟨some 31, none, .load 1 false (.s 30), []⟩, ⟨some 32, none, .build (.cons (.int .i64 0) (.cons (.int .i64 0) .nil)) [(0, 1, .s 29), (1, 1, .s 31)], []⟩, ⟨some 33, none, .buildSl 24 2 1 (.cons (.int .i64 0) (.cons (.int .i64 0) .nil)) [(0, 2, .s 32)], []⟩, ⟨some 34, none, .app 24 2 16 (.s 27) (.s 33), []⟩, ⟨some 9, none, .move (.s 34), []⟩])) (.seq (.drawn [15, 3, 18, 11, 1, 0, 2, 10, 9, 8, 52] (.pure 0 ⟨some 35, none, .move (.s 9), []⟩ (.pure 1 ⟨some 36, none, .move (.s 0), []⟩ (.pure 2 ⟨some 37, none, .move (.s 10), []⟩ (.pure 3 ⟨some 38, none, .idxSl 2 (.s 36) (.s 37), []⟩ (.pure 4 ⟨some 39, none, .fldA 0 (.s 38), []⟩ (.pure 5 ⟨some 40, none, .load 1 false (.s 39), []⟩ (.pure 6 ⟨some 41, none, .move (.s 1), []⟩ (.pure 7 ⟨some 42, none, .bin (.add) (.s 40) (.s 41), []⟩ (.pure 8 ⟨some 43, none, .move (.s 0), []⟩ (.pure 9 ⟨some 44, none, .move (.s 10), []⟩ (.pure 10 ⟨some 45, none, .idxSl 2 (.s 43) (.s 44), []⟩ (.pure 11 ⟨some 46, none, .fldA 1 (.s 45), []⟩ (.pure 12 ⟨some 47, none, .load 1 false (.s 46), []⟩ (.pure 13 ⟨some 48, none, .move (.s 2), []⟩ (.pure 14 ⟨some 49, none, .bin (.add) (.s 47) (.s 48), []⟩ (.pure 15 ⟨some 50, none, .build (.cons (.int .i64 0) (.cons (.int .i64 0) .nil)) [(0, 1, .s 42), (1, 1, .s 49)], []⟩ (.pure 16 ⟨some 51, none, .buildSl 24 2 1 (.cons (.int .i64 0) (.cons (.int .i64 0) .nil)) [(0, 2, .s 50)], []⟩ (.eff 17 ⟨some 52, none, .app 24 2 16 (.s 35) (.s 51), []⟩ [] .done .none))))))))))))))))))) (.region g30 [⟨some 9, none, .move (.s 52), []⟩]))))) (.region g30 [⟨some 16, none, .move (.s 10), []⟩, ⟨some 17, none, .bin (.add) (.s 16) (.c (.int .i64 1)), []⟩, ⟨some 10, none, .move (.s 17), []⟩])))))) (.seq (.region g30 [⟨some 53, none, .move (.s 9), []⟩, ⟨some 8, none, .move (.s 53), []⟩]) .ret)))
def r30 : List SRes := [.slot 8]
def k30 : List (Nat × Nat × SCode × Nat) := []
theorem e30 : cFunc Try.prog 30 g30 [] [] k30 = some (c30, r30, 54) := by kernel_rfl
theorem q30 : RgOk Try.prog k30 := RgOk.nil
theorem sub_apF {k : Keep} {hp : List (Nat × HObj)} {m n : Nat} {f : Nat → Pt} {e : Nat → SV} (he : e 0 = ptL (f n)) : ∀ j, j < n + 1 → SubC k (sub k hp (m + 4)) (appE n (fun j => ptL (f j)) e j) (ptL (f j)) := by
  intro j hj
  have : appE n (fun j => ptL (f j)) e j = ptL (f j) := by
    unfold appE
    by_cases hl : j < n
    · have hb : Nat.blt j n = true := by rw [Nat.blt_eq]; exact hl
      rw [hb, cond_true]
    · have hb : Nat.blt j n = false := by
        cases h : Nat.blt j n with
        | false => rfl
        | true => rw [Nat.blt_eq] at h; exact absurd h hl
      have e2 : j = n := by omega
      rw [hb, cond_false, e2, Nat.sub_self, he]
  rw [this]
  exact Or.inl (sub_ptN _ _ _ _)
theorem sub_0 {k : Keep} {hp : List (Nat × HObj)} {m n : Nat} {f : Nat → Pt} : ∀ j, j < n → SubC k (sub k hp (m + 4)) (ptL (f (0 + j))) (ptL (f j)) := by
  intro j _
  rw [Nat.zero_add]
  exact Or.inl (sub_ptN _ _ _ _)
theorem movedS_ok : movedS.Ok Try.prog 30 := by
  refine Eng.Spec.ok_of e30 q30 (fun _ => []) (fun _ _ => TabOk.nil) ?_
  rintro ⟨r, t, b⟩ ⟨⟨hn, hr⟩, ht⟩
  replace hn : r.n ≤ 50 := hn
  replace hr : OnR r := hr
  obtain ⟨⟨t1, t2⟩, ⟨t3, t4⟩⟩ := ht
  dsimp only at t1 t2 t3 t4
  cases b with
  | true =>
    refine ⟨trivial, ?_⟩
    repeat' (first | refine And.intro ?_ ?_ | exact trivial | exact rfl | exact fun (j : Nat) (hj : j < _) => Or.inl (sub_ptN _ _ _ _))
    refine ⟨⟨Nat, fun i => i ≤ r.n, fun i => [(10, .int .i64 (i : Int)), (9, .lsl 30 2 i)], fun i => [(30, .arr 24 2 i fun j => ptL ((swR r).p j))], fun i => r.n - i⟩, 0, Nat.zero_le _, ?_, ?_⟩
    · repeat' (first | refine And.intro ?_ ?_ | exact trivial | exact rfl | exact fun (j : Nat) (hj : j < _) => Or.inl (sub_ptN _ _ _ _))
    rintro (i : Nat) (hi : i ≤ r.n)
    repeat' (first | refine And.intro ?_ ?_ | exact trivial | exact rfl | exact fun (j : Nat) (hj : j < _) => Or.inl (sub_ptN _ _ _ _))
    · refine fun (h : decide ((i : Int) < (r.n : Int)) = true) => ?_
      have hi1 : (i : Int) < (r.n : Int) := of_decide_eq_true h
      have hil : i < r.n := by omega
      have b1 : -9223372036854775808 ≤ (i : Int) + 1 := by omega
      have b2 : (i : Int) + 1 ≤ 9223372036854775807 := by omega
      have b3 : -9223372036854775808 ≤ (r.n : Int) - 1 := by omega
      have b4 : (r.n : Int) - 1 ≤ 9223372036854775807 := by omega
      have b5 : -9223372036854775808 ≤ (r.n : Int) - 1 - (i : Int) := by omega
      have b6 : (r.n : Int) - 1 - (i : Int) ≤ 9223372036854775807 := by omega
      have b7 : 0 ≤ (r.n : Int) - 1 - (i : Int) := by omega
      have b8 : (r.n : Int) - 1 - (i : Int) < (r.n : Int) := by omega
      have f1 : i + 1 ≤ 9223372036854775807 := by omega
      have f2 : (i + 1) * 16 ≤ 140737488355328 := by omega
      have ei : ((r.n : Int) - 1 - (i : Int)).toNat = r.n - 1 - i := by omega
      have ep : ptL ((r.p ((r.n : Int) - 1 - (i : Int)).toNat).2, (r.p ((r.n : Int) - 1 - (i : Int)).toNat).1) = ptL ((swR r).p i) := by rw [ei]; rfl
      repeat' (first | (refine fun (_ : true = true) => ?_) | exact fun (h : true = false) => Bool.noConfusion h | with_reducible exact b1 | with_reducible exact b2 | with_reducible exact b3 | with_reducible exact b4 | with_reducible exact b5 | with_reducible exact b6 | with_reducible exact b7 | with_reducible exact b8 | with_reducible exact f1 | with_reducible exact f2 | refine And.intro ?_ ?_ | exact trivial | exact rfl | exact fun (j : Nat) (hj : j < _) => Or.inl (sub_ptN _ _ _ _))
      refine Exists.intro (i + 1) ?_
      refine And.intro (show i + 1 ≤ r.n from hil) ?_
      repeat' (first | exact sub_apF (f := (swR r).p) ep | refine And.intro ?_ ?_ | exact trivial | exact rfl | exact fun (j : Nat) (hj : j < _) => Or.inl (sub_ptN _ _ _ _))
      show r.n - (i + 1) < r.n - i
      omega
    · refine fun (h : decide ((i : Int) < (r.n : Int)) = false) => ?_
      have hi1 : ¬ (i : Int) < (r.n : Int) := of_decide_eq_false h
      have e : i = r.n := by omega
      have e2 : 0 + i ≤ i := by omega
      repeat' (first | exact e | with_reducible exact e2 | exact sub_0 (f := (swR r).p) | refine And.intro ?_ ?_ | exact trivial | exact rfl | exact fun (j : Nat) (hj : j < _) => Or.inl (sub_ptN _ _ _ _))
  | false =>
    refine ⟨trivial, ?_⟩
    repeat' (first | refine And.intro ?_ ?_ | exact trivial | exact rfl | exact fun (j : Nat) (hj : j < _) => Or.inl (sub_ptN _ _ _ _))
    refine ⟨⟨Nat, fun i => i ≤ r.n, fun i => [(10, .int .i64 (i : Int)), (9, .lsl 30 2 i)], fun i => [(30, .arr 24 2 i fun j => ptL ((mvR t r).p j))], fun i => r.n - i⟩, 0, Nat.zero_le _, ?_, ?_⟩
    · repeat' (first | refine And.intro ?_ ?_ | exact trivial | exact rfl | exact fun (j : Nat) (hj : j < _) => Or.inl (sub_ptN _ _ _ _))
    rintro (i : Nat) (hi : i ≤ r.n)
    repeat' (first | refine And.intro ?_ ?_ | exact trivial | exact rfl | exact fun (j : Nat) (hj : j < _) => Or.inl (sub_ptN _ _ _ _))
    · refine fun (h : decide ((i : Int) < (r.n : Int)) = true) => ?_
      have hi1 : (i : Int) < (r.n : Int) := of_decide_eq_true h
      have hil : i < r.n := by omega
      have hi0 : (0 : Int) ≤ (i : Int) := by omega
      have hon := onB_iff.1 (hr i hil)
      have b1 : -9223372036854775808 ≤ (i : Int) + 1 := by omega
      have b2 : (i : Int) + 1 ≤ 9223372036854775807 := by omega
      have b3 : -9223372036854775808 ≤ (r.p i).1 + t.1 := by omega
      have b4 : (r.p i).1 + t.1 ≤ 9223372036854775807 := by omega
      have b5 : -9223372036854775808 ≤ (r.p i).2 + t.2 := by omega
      have b6 : (r.p i).2 + t.2 ≤ 9223372036854775807 := by omega
      have f1 : i + 1 ≤ 9223372036854775807 := by omega
      have f2 : (i + 1) * 16 ≤ 140737488355328 := by omega
      repeat' (first | (refine fun (_ : false = false) => ?_) | exact fun (h : false = true) => Bool.noConfusion h | with_reducible exact hi1 | with_reducible exact hi0 | with_reducible exact b1 | with_reducible exact b2 | with_reducible exact f1 | with_reducible exact f2 | exact b3 | exact b4 | exact b5 | exact b6 | refine And.intro ?_ ?_ | exact trivial | exact rfl | exact fun (j : Nat) (hj : j < _) => Or.inl (sub_ptN _ _ _ _))
      refine Exists.intro (i + 1) ?_
      refine And.intro (show i + 1 ≤ r.n from hil) ?_
      repeat' (first | exact sub_apF (f := (mvR t r).p) rfl | refine And.intro ?_ ?_ | exact trivial | exact rfl | exact fun (j : Nat) (hj : j < _) => Or.inl (sub_ptN _ _ _ _))
      show r.n - (i + 1) < r.n - i
      omega
    · refine fun (h : decide ((i : Int) < (r.n : Int)) = false) => ?_
      have hi1 : ¬ (i : Int) < (r.n : Int) := of_decide_eq_false h
      have e : i = r.n := by omega
      have e2 : 0 + i ≤ i := by omega
      repeat' (first | exact e | with_reducible exact e2 | exact sub_0 (f := (mvR t r).p) | refine And.intro ?_ ?_ | exact trivial | exact rfl | exact fun (j : Nat) (hj : j < _) => Or.inl (sub_ptN _ _ _ _))
end G21
