/- A part of the proof: see the last text. -/
import Derived.Test.YtnkkbbjljmbjbaaA24
import Derived.Test.YtnkkbbjljmbjbaaA23
import Derived.Test.YtnkkbbjljmbjbaaA21
open Go Go.Eng Go.Proofs A0 A1 A2 A3 A4 A5 A6 A7 A8 A9 A10 A11 A12 A13 A14 A20 A21 A23 A24
set_option maxRecDepth 100000
namespace A25
def small : Eng.MSpec where
  X := Plan
  Y := Bool
  args := fun p => .cons (.agg (planU p)) .nil
  pre := fun p => PlanB p
  h0 := fun _ => []
  nx0 := 0
  post := fun p b => b = true → PlanOk 60 p
  res := fun _ b => .bool b
  h1 := fun _ _ => []
  nx1 := 0
/-- gazetteer/gazetteerref38.Small -/
def g12 : List Nat := [0, 1, 2]
def c12 : SCode :=
  .seq (.region g12 [⟨some 1, none, .box 28 (.s 0), []⟩, ⟨some 2, none, .move (.c (.bool false)), []⟩]) (.seq (.region g12 [⟨some 3, none, .load 4 true (.s 1), []⟩, ⟨some 4, none, .call (.c (.fn 21)) [.s 3, .c (.int .i64 60)], []⟩, ⟨some 5, none, .bin (.leq) (.s 4) (.c (.int .i64 60)), []⟩, ⟨some 2, none, .move (.s 5), []⟩]) .ret)
def r12 : List SRes := [.slot 2]
def k12 : List (Nat × Nat × SCode × Nat) := []
theorem e12 : cFunc Try.prog 12 g12 [] [] k12 = some (c12, r12, 6) := by kernel_rfl
theorem q12 : RgOk Try.prog k12 := RgOk.nil
theorem or_f {a b : Bool} {i : Nat} (h : pickB a (.c (.bool true)) (.s i) true b = false) : a = false ∧ b = false := by
  rw [pickB_or] at h
  simpa using h
theorem small_ok : small.Ok Try.prog 12 := by
  refine Eng.MSpec.ok_of e12 q12 (fun _ => [(21, .m (sizeS 61))]) (fun _ _ => TabOk.m (size_ok 61 (by omega)) TabOk.nil) ?_
  rintro p hp
  replace hp : PlanB p := hp
  refine ⟨trivial, ?_⟩
  repeat' (first | refine And.intro ?_ ?_ | exact trivial | exact rfl | exact sub_lc (fun a => sub_strN _ _ _ a) | exact sub_lc0 (fun a => sub_strN _ _ _ a) | exact fun (j : Nat) (hj : j < _) => Or.inl (sub_strN _ _ _ _) | exact sub_lc (fun a => sub_natN _ _ _ a) | exact fun (j : Nat) (hj : j < _) => Or.inl (sub_fx _ _ _ _ rfl hj) | exact sub_pTT rfl | exact sub_pCT rfl | exact sub_pTC rfl | exact sub_pCC rfl | exact sub_pRC rfl | exact sub_pRT rfl)
  refine Exists.intro (XS.mk p 60) (Exists.intro [] ?_)
  refine And.intro (And.intro hp (show 60 < 61 by omega)) ?_
  repeat' (first | refine And.intro ?_ ?_ | exact trivial | exact rfl | exact sub_lc (fun a => sub_strN _ _ _ a) | exact sub_lc0 (fun a => sub_strN _ _ _ a) | exact fun (j : Nat) (hj : j < _) => Or.inl (sub_strN _ _ _ _) | exact sub_lc (fun a => sub_natN _ _ _ a) | exact fun (j : Nat) (hj : j < _) => Or.inl (sub_fx _ _ _ _ rfl hj) | exact sub_pTT rfl | exact sub_pCT rfl | exact sub_pTC rfl | exact sub_pCC rfl | exact sub_pRC rfl | exact sub_pRT rfl)
  refine fun (y : Nat) (hy : 1 ≤ y ∧ y ≤ 60 + 1 ∧ (y ≤ 60 → PlanOk y p)) => ?_
  have hpost : decide ((y : Int) ≤ 60) = true → PlanOk 60 p := fun h => by
    have h1 : (y : Int) ≤ 60 := of_decide_eq_true h
    have h2 : y ≤ 60 := by omega
    exact plan_le h2 (hy.2.2 h2)
  repeat' (first | refine And.intro ?_ ?_ | exact trivial | exact rfl | exact sub_lc (fun a => sub_strN _ _ _ a) | exact sub_lc0 (fun a => sub_strN _ _ _ a) | exact fun (j : Nat) (hj : j < _) => Or.inl (sub_strN _ _ _ _) | exact sub_lc (fun a => sub_natN _ _ _ a) | exact fun (j : Nat) (hj : j < _) => Or.inl (sub_fx _ _ _ _ rfl hj) | exact sub_pTT rfl | exact sub_pCT rfl | exact sub_pTC rfl | exact sub_pCC rfl | exact sub_pRC rfl | exact sub_pRT rfl)
  refine Exists.intro (decide ((y : Int) ≤ 60)) ?_
  refine And.intro hpost ?_
  repeat' (first | refine And.intro ?_ ?_ | exact trivial | exact rfl | exact sub_lc (fun a => sub_strN _ _ _ a) | exact sub_lc0 (fun a => sub_strN _ _ _ a) | exact fun (j : Nat) (hj : j < _) => Or.inl (sub_strN _ _ _ _) | exact sub_lc (fun a => sub_natN _ _ _ a) | exact fun (j : Nat) (hj : j < _) => Or.inl (sub_fx _ _ _ _ rfl hj) | exact sub_pTT rfl | exact sub_pCT rfl | exact sub_pTC rfl | exact sub_pCC rfl | exact sub_pRC rfl | exact sub_pRT rfl)
structure X4 where
  F : Fx
  p : Plan
/-- gazetteer/gazetteerlaw38.AskLeast -/
def g4 : List Nat := [1, 19, 3, 7, 28, 0, 5, 10, 9, 6, 4]
def c4 : SCode :=
  .seq (.region g4 [⟨some 3, none, .box 28 (.s 1), []⟩, ⟨some 4, none, .move (.c (.bool false)), []⟩]) (.seq (.region g4 [⟨some 11, none, .call (.c (.fn 7)) [], []⟩, ⟨some 5, none, .move (.s 11), []⟩]) (.seq (.seq (.region g4 [⟨some 12, none, .move (.s 0), []⟩, ⟨some 13, none, .call (.c (.fn 8)) [.s 12], []⟩, ⟨some 14, none, .not (.s 13), []⟩, ⟨some 15, none, .move (.s 14), []⟩, ⟨some 16, some (15, false), .load 4 true (.s 3), []⟩, ⟨some 17, some (15, false), .call (.c (.fn 12)) [.s 16], []⟩, ⟨some 18, some (15, false), .not (.s 17), []⟩, ⟨some 19, none, .pick (.s 15) (.c (.bool true)) (.s 18), []⟩]) (.cond (.s 19) (.seq (.region g4 [⟨some 20, none, .move (.s 5), []⟩, ⟨some 4, none, .move (.s 20), []⟩]) .ret) .skip)) (.seq (.region g4 [⟨some 22, none, .move (.s 0), []⟩, ⟨some 23, none, .load 4 true (.s 3), []⟩, ⟨some 24, none, .call (.c (.fn 11)) [.s 22, .s 23], []⟩, ⟨some 21, none, .move (.s 24), []⟩, ⟨some 25, none, .extract 0 (.s 21), []⟩, ⟨some 26, none, .extract 1 (.s 21), []⟩, ⟨some 6, none, .move (.s 25), []⟩, ⟨some 7, none, .move (.s 26), []⟩]) (.seq (.seq (.region g4 [⟨some 27, none, .move (.s 7), []⟩, ⟨some 28, none, .not (.s 27), []⟩]) (.cond (.s 28) (.seq (.region g4 [⟨some 29, none, .move (.s 5), []⟩, ⟨some 30, none, .move (.s 29), []⟩, ⟨some 31, some (30, true), .move (.s 6), []⟩, ⟨some 32, some (30, true), .bin (.eql) (.s 31) (.c (.int .i64 0)), []⟩, ⟨some 33, none, .pick (.s 30) (.s 32) (.c (.bool false)), []⟩, ⟨some 4, none, .move (.s 33), []⟩]) .ret) .skip)) (.seq (.region g4 [⟨some 35, none, .move (.s 0), []⟩, ⟨some 36, none, .call (.c (.fn 9)) [.s 35], []⟩, ⟨some 34, none, .move (.s 36), []⟩, ⟨some 37, none, .extract 0 (.s 34), []⟩, ⟨some 38, none, .extract 1 (.s 34), []⟩, ⟨some 39, none, .extract 2 (.s 34), []⟩, ⟨some 8, none, .alloc 28 (.cons (.int .i64 0) (.cons (.int .i64 0) (.cons (.nilsl) (.cons (.nilsl) .nil)))), []⟩, ⟨none, none, .store 4 (.s 8) (.s 37), []⟩, ⟨some 9, none, .move (.s 38), []⟩, ⟨some 10, none, .move (.s 39), []⟩]) (.seq (.region g4 [⟨some 40, none, .move (.s 5), []⟩, ⟨some 41, none, .move (.s 40), []⟩, ⟨some 42, some (41, true), .move (.s 10), []⟩, ⟨some 43, some (41, true), .bin (.eql) (.s 42) (.c (.int .i64 0)), []⟩, ⟨some 44, none, .pick (.s 41) (.s 43) (.c (.bool false)), []⟩, ⟨some 45, none, .move (.s 44), []⟩, ⟨some 46, some (45, true), .move (.s 9), []⟩, ⟨some 47, some (45, true), .move (.s 6), []⟩, ⟨some 48, some (45, true), .bin (.leq) (.s 46) (.s 47), []⟩, ⟨some 49, none, .pick (.s 45) (.s 48) (.c (.bool false)), []⟩, ⟨some 4, none, .move (.s 49), []⟩]) .ret))))))
def r4 : List SRes := [.slot 4]
def k4 : List (Nat × Nat × SCode × Nat) := []
theorem e4 : cFunc Try.prog 4 g4 [] [] k4 = some (c4, r4, 50) := by kernel_rfl
theorem q4 : RgOk Try.prog k4 := RgOk.nil
def law4 : Eng.Spec where
  X := X4
  args := fun x => .cons (fxE x.F) (.cons (.agg (planU x.p)) .nil)
  pre := fun x => ((x.F.n : Int) ≤ 9223372036854775806 ∧ ∀ i, i < x.F.n → (x.F.k i : Int) ≤ 9223372036854775806) ∧ PlanB x.p
  res := fun _ => .bool true
  inst := fun _ => none
set_option maxHeartbeats 8000000 in
theorem law4_ok : law4.Ok Try.prog 4 := by
  refine Eng.Spec.ok_of e4 q4 (fun _ => [(7, .p headS), (8, .m Few), (12, .m small), (9, .m makeH), (11, .m checkH)]) (fun _ _ => TabOk.p head_ok (TabOk.m Few_ok (TabOk.m small_ok (TabOk.m makeH_ok (TabOk.m checkH_ok TabOk.nil))))) ?_
  rintro ⟨F, p⟩ ⟨⟨hn, hk⟩, hp⟩
  replace hn : (F.n : Int) ≤ 9223372036854775806 := hn
  replace hk : ∀ i, i < F.n → (F.k i : Int) ≤ 9223372036854775806 := hk
  replace hp : PlanB p := hp
  refine ⟨trivial, ?_⟩
  repeat' (first | refine And.intro ?_ ?_ | exact trivial | exact rfl | exact sub_lc (fun a => sub_strN _ _ _ a) | exact sub_lc0 (fun a => sub_strN _ _ _ a) | exact fun (j : Nat) (hj : j < _) => Or.inl (sub_strN _ _ _ _) | exact sub_lc (fun a => sub_natN _ _ _ a) | exact fun (j : Nat) (hj : j < _) => Or.inl (sub_fx _ _ _ _ rfl hj) | exact sub_pTT rfl | exact sub_pCT rfl | exact sub_pTC rfl | exact sub_pCC rfl | exact sub_pRC rfl | exact sub_pRT rfl)
  refine Exists.intro F (Exists.intro [] ?_)
  refine And.intro (And.intro hn hk) ?_
  repeat' (first | refine And.intro ?_ ?_ | exact trivial | exact rfl | exact sub_lc (fun a => sub_strN _ _ _ a) | exact sub_lc0 (fun a => sub_strN _ _ _ a) | exact fun (j : Nat) (hj : j < _) => Or.inl (sub_strN _ _ _ _) | exact sub_lc (fun a => sub_natN _ _ _ a) | exact fun (j : Nat) (hj : j < _) => Or.inl (sub_fx _ _ _ _ rfl hj) | exact sub_pTT rfl | exact sub_pCT rfl | exact sub_pTC rfl | exact sub_pCC rfl | exact sub_pRC rfl | exact sub_pRT rfl)
  refine fun (b : Bool) (_ : True) => ?_
  repeat' (first | refine And.intro ?_ ?_ | exact trivial | exact rfl | exact sub_lc (fun a => sub_strN _ _ _ a) | exact sub_lc0 (fun a => sub_strN _ _ _ a) | exact fun (j : Nat) (hj : j < _) => Or.inl (sub_strN _ _ _ _) | exact sub_lc (fun a => sub_natN _ _ _ a) | exact fun (j : Nat) (hj : j < _) => Or.inl (sub_fx _ _ _ _ rfl hj) | exact sub_pTT rfl | exact sub_pCT rfl | exact sub_pTC rfl | exact sub_pCC rfl | exact sub_pRC rfl | exact sub_pRT rfl)
  · refine fun (_ : (!b) = false) => ?_
    repeat' (first | refine And.intro ?_ ?_ | exact trivial | exact rfl | exact sub_lc (fun a => sub_strN _ _ _ a) | exact sub_lc0 (fun a => sub_strN _ _ _ a) | exact fun (j : Nat) (hj : j < _) => Or.inl (sub_strN _ _ _ _) | exact sub_lc (fun a => sub_natN _ _ _ a) | exact fun (j : Nat) (hj : j < _) => Or.inl (sub_fx _ _ _ _ rfl hj) | exact sub_pTT rfl | exact sub_pCT rfl | exact sub_pTC rfl | exact sub_pCC rfl | exact sub_pRC rfl | exact sub_pRT rfl)
    refine Exists.intro p (Exists.intro [] ?_)
    refine And.intro hp ?_
    repeat' (first | refine And.intro ?_ ?_ | exact trivial | exact rfl | exact sub_lc (fun a => sub_strN _ _ _ a) | exact sub_lc0 (fun a => sub_strN _ _ _ a) | exact fun (j : Nat) (hj : j < _) => Or.inl (sub_strN _ _ _ _) | exact sub_lc (fun a => sub_natN _ _ _ a) | exact fun (j : Nat) (hj : j < _) => Or.inl (sub_fx _ _ _ _ rfl hj) | exact sub_pTT rfl | exact sub_pCT rfl | exact sub_pTC rfl | exact sub_pCC rfl | exact sub_pRC rfl | exact sub_pRT rfl)
    refine fun (y : Bool) (hy : y = true → PlanOk 60 p) => ?_
    repeat' (first | refine And.intro ?_ ?_ | exact trivial | exact rfl | exact sub_lc (fun a => sub_strN _ _ _ a) | exact sub_lc0 (fun a => sub_strN _ _ _ a) | exact fun (j : Nat) (hj : j < _) => Or.inl (sub_strN _ _ _ _) | exact sub_lc (fun a => sub_natN _ _ _ a) | exact fun (j : Nat) (hj : j < _) => Or.inl (sub_fx _ _ _ _ rfl hj) | exact sub_pTT rfl | exact sub_pCT rfl | exact sub_pTC rfl | exact sub_pCC rfl | exact sub_pRC rfl | exact sub_pRT rfl)
    · refine fun (_ : pickB _ _ _ _ _ = true) => ?_
      repeat' (first | refine And.intro ?_ ?_ | exact trivial | exact rfl | exact sub_lc (fun a => sub_strN _ _ _ a) | exact sub_lc0 (fun a => sub_strN _ _ _ a) | exact fun (j : Nat) (hj : j < _) => Or.inl (sub_strN _ _ _ _) | exact sub_lc (fun a => sub_natN _ _ _ a) | exact fun (j : Nat) (hj : j < _) => Or.inl (sub_fx _ _ _ _ rfl hj) | exact sub_pTT rfl | exact sub_pCT rfl | exact sub_pTC rfl | exact sub_pCC rfl | exact sub_pRC rfl | exact sub_pRT rfl)
    refine fun (h : pickB _ _ _ _ _ = false) => ?_
    have hy1 : y = true := by have := (or_f h).2; simpa using this
    have hp6 : PlanOk 60 p := hy hy1
    have hp10 : PlanOk 1000 p := plan_le (by omega) hp6
    repeat' (first | refine And.intro ?_ ?_ | exact trivial | exact rfl | exact sub_lc (fun a => sub_strN _ _ _ a) | exact sub_lc0 (fun a => sub_strN _ _ _ a) | exact fun (j : Nat) (hj : j < _) => Or.inl (sub_strN _ _ _ _) | exact sub_lc (fun a => sub_natN _ _ _ a) | exact fun (j : Nat) (hj : j < _) => Or.inl (sub_fx _ _ _ _ rfl hj) | exact sub_pTT rfl | exact sub_pCT rfl | exact sub_pTC rfl | exact sub_pCC rfl | exact sub_pRC rfl | exact sub_pRT rfl)
    refine Exists.intro (XE.mk F p) (Exists.intro [] ?_)
    refine And.intro (And.intro hn hp10) ?_
    repeat' (first | refine And.intro ?_ ?_ | exact trivial | exact rfl | exact sub_lc (fun a => sub_strN _ _ _ a) | exact sub_lc0 (fun a => sub_strN _ _ _ a) | exact fun (j : Nat) (hj : j < _) => Or.inl (sub_strN _ _ _ _) | exact sub_lc (fun a => sub_natN _ _ _ a) | exact fun (j : Nat) (hj : j < _) => Or.inl (sub_fx _ _ _ _ rfl hj) | exact sub_pTT rfl | exact sub_pCT rfl | exact sub_pTC rfl | exact sub_pCC rfl | exact sub_pRC rfl | exact sub_pRT rfl)
    refine fun (z : Int × Bool) (hz : z = checkV F p) => ?_
    repeat' (first | refine And.intro ?_ ?_ | exact trivial | exact rfl | exact sub_lc (fun a => sub_strN _ _ _ a) | exact sub_lc0 (fun a => sub_strN _ _ _ a) | exact fun (j : Nat) (hj : j < _) => Or.inl (sub_strN _ _ _ _) | exact sub_lc (fun a => sub_natN _ _ _ a) | exact fun (j : Nat) (hj : j < _) => Or.inl (sub_fx _ _ _ _ rfl hj) | exact sub_pTT rfl | exact sub_pCT rfl | exact sub_pTC rfl | exact sub_pCC rfl | exact sub_pRC rfl | exact sub_pRT rfl)
    · refine fun (hz2 : (!z.2) = true) => ?_
      have hd : decide (z.1 = 0) = true := decide_eq_true (by
        have h2 : z.2 = false := by simpa using hz2
        rw [hz] at h2 ⊢
        exact check_f h2)
      repeat' (first | exact pand rfl hd | refine And.intro ?_ ?_ | exact trivial | exact rfl | exact sub_lc (fun a => sub_strN _ _ _ a) | exact sub_lc0 (fun a => sub_strN _ _ _ a) | exact fun (j : Nat) (hj : j < _) => Or.inl (sub_strN _ _ _ _) | exact sub_lc (fun a => sub_natN _ _ _ a) | exact fun (j : Nat) (hj : j < _) => Or.inl (sub_fx _ _ _ _ rfl hj) | exact sub_pTT rfl | exact sub_pCT rfl | exact sub_pTC rfl | exact sub_pCC rfl | exact sub_pRC rfl | exact sub_pRT rfl)
    refine fun (hz2 : (!z.2) = false) => ?_
    have hmk : (makeV F).2 = 0 ∧ (makeV F).1.d ≤ z.1 := by
      have h2 : z.2 = true := by simpa using hz2
      rw [hz] at h2 ⊢
      exact check_make h2
    repeat' (first | refine And.intro ?_ ?_ | exact trivial | exact rfl | exact sub_lc (fun a => sub_strN _ _ _ a) | exact sub_lc0 (fun a => sub_strN _ _ _ a) | exact fun (j : Nat) (hj : j < _) => Or.inl (sub_strN _ _ _ _) | exact sub_lc (fun a => sub_natN _ _ _ a) | exact fun (j : Nat) (hj : j < _) => Or.inl (sub_fx _ _ _ _ rfl hj) | exact sub_pTT rfl | exact sub_pCT rfl | exact sub_pTC rfl | exact sub_pCC rfl | exact sub_pRC rfl | exact sub_pRT rfl)
    refine Exists.intro F (Exists.intro [] ?_)
    refine And.intro hn ?_
    repeat' (first | refine And.intro ?_ ?_ | exact trivial | exact rfl | exact sub_lc (fun a => sub_strN _ _ _ a) | exact sub_lc0 (fun a => sub_strN _ _ _ a) | exact fun (j : Nat) (hj : j < _) => Or.inl (sub_strN _ _ _ _) | exact sub_lc (fun a => sub_natN _ _ _ a) | exact fun (j : Nat) (hj : j < _) => Or.inl (sub_fx _ _ _ _ rfl hj) | exact sub_pTT rfl | exact sub_pCT rfl | exact sub_pTC rfl | exact sub_pCC rfl | exact sub_pRC rfl | exact sub_pRT rfl)
    refine fun (u : Known × Int) (hu : u = makeV F) => ?_
    have e1 : decide (u.2 = 0) = true := decide_eq_true (by rw [hu]; exact hmk.1)
    have e2 : decide (u.1.d ≤ z.1) = true := decide_eq_true (by rw [hu]; exact hmk.2)
    repeat' (first | exact pand (pand rfl e1) e2 | refine And.intro ?_ ?_ | exact trivial | exact rfl | exact sub_lc (fun a => sub_strN _ _ _ a) | exact sub_lc0 (fun a => sub_strN _ _ _ a) | exact fun (j : Nat) (hj : j < _) => Or.inl (sub_strN _ _ _ _) | exact sub_lc (fun a => sub_natN _ _ _ a) | exact fun (j : Nat) (hj : j < _) => Or.inl (sub_fx _ _ _ _ rfl hj) | exact sub_pTT rfl | exact sub_pCT rfl | exact sub_pTC rfl | exact sub_pCC rfl | exact sub_pRC rfl | exact sub_pRT rfl)
  refine fun (hb : (!b) = !false) => ?_
  have hb' : (!b) = true := hb
  repeat' (first | exact hb' | exact fun (h : guardP _ _ _ _) => no_tf (b := !b) h hb' | exact fun (h : true = false) => Bool.noConfusion h | (refine fun (_ : true = true) => ?_) | refine And.intro ?_ ?_ | exact trivial | exact rfl | exact sub_lc (fun a => sub_strN _ _ _ a) | exact sub_lc0 (fun a => sub_strN _ _ _ a) | exact fun (j : Nat) (hj : j < _) => Or.inl (sub_strN _ _ _ _) | exact sub_lc (fun a => sub_natN _ _ _ a) | exact fun (j : Nat) (hj : j < _) => Or.inl (sub_fx _ _ _ _ rfl hj) | exact sub_pTT rfl | exact sub_pCT rfl | exact sub_pTC rfl | exact sub_pCC rfl | exact sub_pRC rfl | exact sub_pRT rfl)
end A25
