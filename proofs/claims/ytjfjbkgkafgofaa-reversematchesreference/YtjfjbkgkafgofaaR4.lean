/- A part of the proof: see the last text. -/
import Derived.Test.YtjfjbkgkafgofaaR3
open Go Go.Eng Go.Proofs R2 R3
set_option maxRecDepth 100000
namespace R4
structure Adr where
  door : List UInt8
  street : List UInt8
  code : List UInt8
  district : List UInt8
  city : List UInt8
  n : Int
  letter : List UInt8
  num : Int
  den : Int
  p : Int × Int
def adL (a : Adr) : SV := .cons (.str a.door) (.cons (.str a.street) (.cons (.str a.code) (.cons (.str a.district) (.cons (.str a.city) (.cons (.int .i64 a.n) (.cons (.str a.letter) (.cons (.int .i64 a.num) (.cons (.int .i64 a.den) (ptL a.p)))))))))
def adE (a : Adr) : SV := .agg (adL a)
def adOf (l : SV) : Adr := ⟨strAt (nthE l 0), strAt (nthE l 1), strAt (nthE l 2), strAt (nthE l 3), strAt (nthE l 4), intAt (nthE l 5), strAt (nthE l 6), intAt (nthE l 7), intAt (nthE l 8), (intAt (nthE l 9), intAt (nthE l 10))⟩
def adD : SV → Option Adr
  | .agg l => some (adOf l)
  | _ => none
/-- gazetteer/gazetteerlaw39.at -/
def g23 : List Nat := [0, 1, 2, 6]
def c23 : SCode :=
  .seq (.region g23 [⟨some 6, none, .alloc 40 (.cons (.str []) (.cons (.str []) (.cons (.str []) (.cons (.str []) (.cons (.str []) (.cons (.int .i64 0) (.cons (.str []) (.cons (.int .i64 0) (.cons (.int .i64 0) (.cons (.int .i64 0) (.cons (.int .i64 0) .nil))))))))))), []⟩]) (.seq (.region g23 [⟨some 7, none, .move (.s 0), []⟩, ⟨some 8, none, .move (.s 1), []⟩, ⟨some 9, none, .move (.s 2), []⟩, ⟨some 10, none, .build (.cons (.int .i64 0) (.cons (.int .i64 0) .nil)) [(0, 1, .s 8), (1, 1, .s 9)], []⟩, ⟨some 11, none, .build (.cons (.str []) (.cons (.str []) (.cons (.str []) (.cons (.str []) (.cons (.str []) (.cons (.int .i64 0) (.cons (.str []) (.cons (.int .i64 0) (.cons (.int .i64 0) (.cons (.int .i64 0) (.cons (.int .i64 0) .nil))))))))))) [(0, 1, .s 7), (9, 2, .s 10)], []⟩, ⟨none, none, .store 11 (.s 6) (.s 11), []⟩]) .ret)
def r23 : List SRes := [.cell 6 11 true]
def k23 : List (Nat × Nat × SCode × Nat) := []
theorem e23 : cFunc Try.prog 23 g23 [] [] k23 = some (c23, r23, 12) := by kernel_rfl
theorem q23 : RgOk Try.prog k23 := RgOk.nil
def at_ : Eng.Spec where
  X := List UInt8 × (Int × Int)
  args := fun x => .cons (.str x.1) (.cons (.int .i64 x.2.1) (.cons (.int .i64 x.2.2) .nil))
  pre := fun _ => True
  res := fun x => adE ⟨x.1, [], [], [], [], 0, [], 0, 0, x.2⟩
  inst := fun
    | .cons (.str s) (.cons (.int _ a) (.cons (.int _ b) .nil)) => some (s, (a, b))
    | _ => none
theorem at_ok : at_.Ok Try.prog 23 := by
  refine Eng.Spec.ok_of e23 q23 (fun _ => []) (fun _ _ => TabOk.nil) ?_
  intro (x : List UInt8 × (Int × Int)) _
  refine ⟨trivial, ?_⟩
  repeat' (first | exact trivial | refine And.intro ?_ ?_ | exact rfl)
/-- cmp.Or[int] -/
def g33 : List Nat := [0, 7, 9, 6, 14, 5, 8, 3, 2]
def c33 : SCode :=
  .seq (.region g33 [⟨some 2, none, .move (.c (.int .i64 0)), []⟩]) (.seq (.region g33 [⟨some 3, none, .move (.c (.int .i64 0)), []⟩]) (.seq (.seq (.region g33 [⟨some 6, none, .move (.s 0), []⟩, ⟨some 7, none, .lenSl (.s 6), []⟩, ⟨some 8, none, .move (.c (.int .i64 0)), []⟩]) (.block 0 (.loop 0 [9, 10, 11, 5, 12, 13, 14, 15, 2, 16, 8] (.seq (.region g33 [⟨some 9, none, .bin (.lss) (.s 8) (.s 7), []⟩]) (.seq (.cond (.s 9) .skip (.exit 0)) (.seq (.block 1 (.seq (.region g33 [⟨some 10, none, .idxSl 1 (.s 6) (.s 8), []⟩, ⟨some 11, none, .load 1 false (.s 10), []⟩, ⟨some 5, none, .move (.s 11), []⟩]) (.seq (.region g33 [⟨some 12, none, .move (.s 5), []⟩, ⟨some 13, none, .move (.s 3), []⟩, ⟨some 14, none, .bin (.neq) (.s 12) (.s 13), []⟩]) (.cond (.s 14) (.seq (.region g33 [⟨some 15, none, .move (.s 5), []⟩, ⟨some 2, none, .move (.s 15), []⟩]) .ret) .skip)))) (.region g33 [⟨some 16, none, .bin (.add) (.s 8) (.c (.int .i64 1)), []⟩, ⟨some 8, none, .move (.s 16), []⟩]))))))) (.seq (.region g33 [⟨some 17, none, .move (.s 3), []⟩, ⟨some 2, none, .move (.s 17), []⟩]) .ret)))
def r33 : List SRes := [.slot 2]
def k33 : List (Nat × Nat × SCode × Nat) := []
theorem e33 : cFunc Try.prog 33 g33 [] [] k33 = some (c33, r33, 18) := by kernel_rfl
theorem q33 : RgOk Try.prog k33 := RgOk.nil
def pr (x : Int × Int) : Nat → Int
  | 0 => x.1
  | _ => x.2
def or2 (a b : Int) : Int := if a = 0 then b else a
def Or2 : Eng.Spec where
  X := Int × Int
  args := fun x => .cons (.slice 1 2 fun i => .cons (.int .i64 (pr x i)) .nil) .nil
  pre := fun _ => True
  res := fun x => .int .i64 (or2 x.1 x.2)
  inst := fun
    | .cons (.slit _ (.cons (.cons (.int _ a) .nil) (.cons (.cons (.int _ b) .nil) .nil))) .nil => some (a, b)
    | _ => none
theorem Or2_ok : Or2.Ok Try.prog 33 := by
  refine Eng.Spec.ok_of e33 q33 (fun _ => []) (fun _ _ => TabOk.nil) ?_
  intro (x : Int × Int) _
  refine ⟨trivial, ?_⟩
  refine ⟨⟨Nat, fun i => i ≤ 2 ∧ (0 < i → x.1 = 0) ∧ (1 < i → x.2 = 0), fun i => [(8, .int .i64 (i : Int))], fun _ => [], fun i => 2 - i⟩, 0, ⟨Nat.zero_le 2, (fun h => by cases h), (fun h => by cases h)⟩, ?_, ?_⟩
  · repeat' (first | exact trivial | refine And.intro ?_ ?_ | refine fun h => ?_ | exact rfl)
  rintro (i : Nat) ⟨hi, h0, h1⟩
  replace hi : i ≤ 2 := hi
  replace h0 : 0 < i → x.1 = 0 := h0
  replace h1 : 1 < i → x.2 = 0 := h1
  match i, hi, h0, h1 with
  | 0, _, _, _ =>
    refine ⟨fun hlt => ?_, (fun hge => by cases hge)⟩
    repeat' (first | exact trivial | refine And.intro ?_ ?_ | exact rfl | omega | intro hb)
    · have hb' : x.1 ≠ 0 := by simpa [pr] using hb
      have e : or2 x.1 x.2 = x.1 := if_neg hb'
      show _ = _
      exact e.symm
    · have hb' : x.1 = 0 := by simpa [pr] using hb
      refine ⟨1, ⟨Nat.le_succ 1, (fun _ => hb'), (fun h => absurd h (Nat.lt_irrefl 1))⟩, ?_, ?_⟩
      · repeat' (first | exact trivial | refine And.intro ?_ ?_ | refine fun h => ?_ | exact rfl)
      · show 2 - 1 < 2 - 0
        decide
  | 1, _, h0, _ =>
    have hx := h0 (by decide)
    refine ⟨fun hlt => ?_, (fun hge => by cases hge)⟩
    repeat' (first | exact trivial | refine And.intro ?_ ?_ | exact rfl | omega | intro hb)
    · have e : or2 x.1 x.2 = x.2 := if_pos hx
      show _ = _
      exact e.symm
    · have hb' : x.2 = 0 := by simpa [pr] using hb
      refine ⟨2, ⟨Nat.le_refl 2, (fun _ => hx), (fun h => hb')⟩, ?_, ?_⟩
      · repeat' (first | exact trivial | refine And.intro ?_ ?_ | refine fun h => ?_ | exact rfl)
      · show 2 - 2 < 2 - 1
        decide
  | 2, _, h0, h1 =>
    refine ⟨(fun hlt => by cases hlt), fun hge => ?_⟩
    have e : or2 x.1 x.2 = 0 := (if_pos (h0 (by decide))).trans (h1 (by decide))
    exact ⟨rfl, e.symm⟩
/-- (*gazetteer/reverse.Grid).Near$1 -/
def g32 : List Nat := [0, 1, 2, 3, 4]
def c32 : SCode :=
  .seq (.region g32 [⟨some 2, none, .box 50 (.s 0), []⟩, ⟨some 3, none, .box 50 (.s 1), []⟩, ⟨some 4, none, .move (.c (.int .i64 0)), []⟩]) (.seq (.drawn g32 (.pure 0 ⟨some 5, none, .fldA 1 (.s 2), []⟩ (.pure 1 ⟨some 6, none, .load 1 false (.s 5), []⟩ (.pure 2 ⟨some 7, none, .fldA 1 (.s 3), []⟩ (.pure 3 ⟨some 8, none, .load 1 false (.s 7), []⟩ (.pure 4 ⟨some 9, none, .bin (.sub) (.s 6) (.s 8), []⟩ (.pure 5 ⟨some 10, none, .fldA 0 (.s 2), []⟩ (.pure 6 ⟨some 11, none, .load 1 false (.s 10), []⟩ (.pure 7 ⟨some 12, none, .fldA 0 (.s 3), []⟩ (.pure 8 ⟨some 13, none, .load 1 false (.s 12), []⟩ (.pure 9 ⟨some 14, none, .call (.c (.fn 34)) [.s 11, .s 13], []⟩ (.pure 10 ⟨some 15, none, .buildSl 3 1 2 (.cons (.int .i64 0) .nil) [(0, 1, .s 9), (1, 1, .s 14)], []⟩ (.pure 11 ⟨some 16, none, .call (.c (.fn 33)) [.s 15], []⟩ (.pure 12 ⟨some 4, none, .move (.s 16), []⟩ .done)))))))))))))) .ret)
def r32 : List SRes := [.slot 4]
def k32 : List (Nat × Nat × SCode × Nat) := []
theorem e32 : cFunc Try.prog 32 g32 [] [] k32 = some (c32, r32, 17) := by kernel_rfl
theorem q32 : RgOk Try.prog k32 := RgOk.nil
def cmpF (p q : Fnd) : Int := or2 (p.2 - q.2) (cmpB p.1 q.1)
def near1 : Eng.Spec where
  X := Fnd × Fnd
  args := fun x => .cons (fnE x.1) (.cons (fnE x.2) .nil)
  pre := fun x => (0 ≤ x.1.2 ∧ x.1.2 ≤ 4294967296) ∧ (0 ≤ x.2.2 ∧ x.2.2 ≤ 4294967296)
  res := fun x => .int .i64 (cmpF x.1 x.2)
  inst := fun
    | .cons a (.cons b .nil) => match fnD a, fnD b with
      | some p, some q => some (p, q)
      | _, _ => none
    | _ => none
theorem near1_ok : near1.Ok Try.prog 32 := by
  refine Eng.Spec.ok_of e32 q32 (fun _ => [(34, .p Compare), (33, .p Or2)]) (fun _ _ => TabOk.p Compare_ok (TabOk.p Or2_ok TabOk.nil)) ?_
  intro (x : Fnd × Fnd) ⟨h1, h2⟩
  refine ⟨trivial, ?_⟩
  repeat' (first | exact trivial | refine And.intro ?_ ?_ | exact rfl | omega | (dsimp only; omega) | intro hb)
/-- gazetteer/gazetteerref04.Name -/
def g26 : List Nat := [7, 14, 3, 0, 2]
def c26 : SCode :=
  .seq (.region g26 [⟨some 2, none, .move (.c (.bool false)), []⟩]) (.seq (.seq (.region g26 [⟨some 3, none, .move (.c (.int .i64 0)), []⟩]) (.block 0 (.loop 0 [4, 5, 6, 7, 10, 11, 12, 13, 14, 2, 8, 9, 3] (.seq (.seq (.region g26 [⟨some 4, none, .move (.s 3), []⟩, ⟨some 5, none, .move (.s 0), []⟩, ⟨some 6, none, .lenStr (.s 5), []⟩, ⟨some 7, none, .bin (.lss) (.s 4) (.s 6), []⟩]) (.cond (.s 7) .skip (.exit 0))) (.seq (.block 1 (.seq (.region g26 [⟨some 10, none, .move (.s 0), []⟩, ⟨some 11, none, .move (.s 3), []⟩, ⟨some 12, none, .idxStr (.s 10) (.s 11), []⟩, ⟨some 13, none, .call (.c (.fn 41)) [.s 12], []⟩, ⟨some 14, none, .not (.s 13), []⟩]) (.cond (.s 14) (.seq (.region g26 [⟨some 2, none, .move (.c (.bool false)), []⟩]) .ret) .skip))) (.region g26 [⟨some 8, none, .move (.s 3), []⟩, ⟨some 9, none, .bin (.add) (.s 8) (.c (.int .i64 1)), []⟩, ⟨some 3, none, .move (.s 9), []⟩])))))) (.seq (.region g26 [⟨some 15, none, .move (.s 0), []⟩, ⟨some 16, none, .lenStr (.s 15), []⟩, ⟨some 17, none, .bin (.gtr) (.s 16) (.c (.int .i64 0)), []⟩, ⟨some 18, none, .move (.s 17), []⟩, ⟨some 19, some (18, true), .move (.s 0), []⟩, ⟨some 20, some (18, true), .lenStr (.s 19), []⟩, ⟨some 21, some (18, true), .bin (.leq) (.s 20) (.c (.int .i64 24)), []⟩, ⟨some 22, none, .pick (.s 18) (.s 21) (.c (.bool false)), []⟩, ⟨some 23, none, .move (.s 22), []⟩, ⟨some 24, some (23, true), .move (.s 0), []⟩, ⟨some 25, some (23, true), .idxStr (.s 24) (.c (.int .i64 0)), []⟩, ⟨some 26, some (23, true), .call (.c (.fn 42)) [.s 25], []⟩, ⟨some 27, none, .pick (.s 23) (.s 26) (.c (.bool false)), []⟩, ⟨some 2, none, .move (.s 27), []⟩]) .ret))
def r26 : List SRes := [.slot 2]
def k26 : List (Nat × Nat × SCode × Nat) := []
theorem e26 : cFunc Try.prog 26 g26 [] [] k26 = some (c26, r26, 28) := by kernel_rfl
theorem q26 : RgOk Try.prog k26 := RgOk.nil
def nameB (s : List UInt8) : Bool := decide (∀ i, i < s.length → wordB ((s.getD i 0).toNat : Int) = true) && (decide (0 < (s.length : Int)) && decide ((s.length : Int) ≤ 24) && letterB ((s.getD 0 0).toNat : Int))
def Name : Eng.Spec where
  X := List UInt8
  args := fun x => .cons (.str x) .nil
  pre := fun x => (x.length : Int) ≤ 9223372036854775807
  res := fun x => .bool (nameB x)
  inst := strD
theorem Name_ok : Name.Ok Try.prog 26 := by
  refine Eng.Spec.ok_of e26 q26 (fun _ => [(41, .p word), (42, .p letter)]) (fun _ _ => TabOk.p word_ok (TabOk.p letter_ok TabOk.nil)) ?_
  intro (s : List UInt8) hs
  replace hs : (s.length : Int) ≤ 9223372036854775807 := hs
  refine ⟨trivial, ?_⟩
  refine ⟨⟨Nat, fun i => i ≤ s.length ∧ ∀ j, j < i → wordB ((s.getD j 0).toNat : Int) = true, fun i => [(3, .int .i64 (i : Int))], fun _ => [], fun i => s.length - i⟩, 0, ⟨Nat.zero_le _, fun j hj => by omega⟩, ?_, ?_⟩
  · repeat' (first | exact trivial | refine And.intro ?_ ?_ | refine fun h => ?_ | exact rfl)
  rintro (i : Nat) ⟨hi, hall⟩
  replace hi : i ≤ s.length := hi
  replace hall : ∀ j, j < i → wordB ((s.getD j 0).toNat : Int) = true := hall
  refine ⟨fun hlt => ?_, fun hge => ?_⟩
  · have hlt' : i < s.length := by simpa using hlt
    repeat' (first | exact trivial | refine And.intro ?_ ?_ | exact rfl | omega | intro hb)
    · have hno : wordB ((s.getD i 0).toNat : Int) = false := by simpa using hb
      have e : nameB s = false := by
        unfold nameB
        rw [decide_eq_false (fun h => by rw [h i hlt'] at hno; cases hno)]
        rfl
      show _ = _
      exact e.symm
    · have hno : wordB ((s.getD i 0).toNat : Int) = true := by simpa using hb
      refine ⟨i + 1, ⟨by omega, fun j hj => ?_⟩, ?_, ?_⟩
      · by_cases e : j = i
        · subst e; exact hno
        · exact hall j (by omega)
      · repeat' (first | exact trivial | refine And.intro ?_ ?_ | refine fun h => ?_ | exact rfl)
      · show s.length - (i + 1) < s.length - i
        omega
  · have hge' : ¬ i < s.length := by simpa using hge
    have sl : pickB (decide (0 < (s.length : Int))) (.s 21) (.c (.bool false)) (decide ((s.length : Int) ≤ 24)) false = true → (0 : Int) < s.length := by
      intro hb
      rw [pickB_and] at hb
      simp only [Bool.and_eq_true, decide_eq_true_eq] at hb
      exact hb.1
    repeat' (first | exact trivial | refine And.intro ?_ ?_ | exact rfl | omega | refine fun hb => ?_ | exact sl hb)
    have e : nameB s = (decide (0 < (s.length : Int)) && decide ((s.length : Int) ≤ 24) && letterB ((s.getD 0 0).toNat : Int)) := by
      unfold nameB
      rw [decide_eq_true (fun j hj => hall j (by omega))]
      simp only [Bool.true_and]
    show _ = _
    exact ((pickB_and _ _ _ _).trans (congrArg (· && _) (pickB_and _ _ _ _))).trans e.symm
/-- gazetteer/gazetteerref39.Same -/
def g18 : List Nat := [10, 14, 0, 1, 25, 5, 4]
def c18 : SCode :=
  .seq (.region g18 [⟨some 4, none, .move (.c (.bool false)), []⟩]) (.seq (.seq (.region g18 [⟨some 6, none, .move (.s 0), []⟩, ⟨some 7, none, .lenSl (.s 6), []⟩, ⟨some 8, none, .move (.s 1), []⟩, ⟨some 9, none, .lenSl (.s 8), []⟩, ⟨some 10, none, .bin (.neq) (.s 7) (.s 9), []⟩]) (.cond (.s 10) (.seq (.region g18 [⟨some 4, none, .move (.c (.bool false)), []⟩]) .ret) .skip)) (.seq (.seq (.region g18 [⟨some 5, none, .move (.c (.int .i64 0)), []⟩]) (.block 0 (.loop 0 [11, 12, 13, 14, 17, 18, 19, 20, 21, 22, 23, 24, 25, 4, 15, 16, 5] (.seq (.seq (.region g18 [⟨some 11, none, .move (.s 5), []⟩, ⟨some 12, none, .move (.s 0), []⟩, ⟨some 13, none, .lenSl (.s 12), []⟩, ⟨some 14, none, .bin (.lss) (.s 11) (.s 13), []⟩]) (.cond (.s 14) .skip (.exit 0))) (.seq (.block 1 (.seq (.drawn g18 (.pure 0 ⟨some 17, none, .move (.s 0), []⟩ (.pure 1 ⟨some 18, none, .move (.s 5), []⟩ (.pure 2 ⟨some 19, none, .idxSl 2 (.s 17) (.s 18), []⟩ (.pure 3 ⟨some 20, none, .load 2 true (.s 19), []⟩ (.pure 4 ⟨some 21, none, .move (.s 1), []⟩ (.pure 5 ⟨some 22, none, .move (.s 5), []⟩ (.pure 6 ⟨some 23, none, .idxSl 2 (.s 21) (.s 22), []⟩ (.pure 7 ⟨some 24, none, .load 2 true (.s 23), []⟩ (.pure 8 ⟨some 25, none, .eqS true [(0, 2), (1, 1)] (.s 20) (.s 24), []⟩ .done)))))))))) (.cond (.s 25) (.seq (.region g18 [⟨some 4, none, .move (.c (.bool false)), []⟩]) .ret) .skip))) (.region g18 [⟨some 15, none, .move (.s 5), []⟩, ⟨some 16, none, .bin (.add) (.s 15) (.c (.int .i64 1)), []⟩, ⟨some 5, none, .move (.s 16), []⟩])))))) (.seq (.region g18 [⟨some 4, none, .move (.c (.bool true)), []⟩]) .ret)))
def r18 : List SRes := [.slot 4]
def k18 : List (Nat × Nat × SCode × Nat) := []
theorem e18 : cFunc Try.prog 18 g18 [] [] k18 = some (c18, r18, 26) := by kernel_rfl
theorem q18 : RgOk Try.prog k18 := RgOk.nil
structure Two where
  n : Nat
  m : Nat
  p : Nat → Fnd
  q : Nat → Fnd
def sameB (x : Two) : Bool := decide (x.n = x.m) && decide (∀ i, i < x.n → x.p i = x.q i)
def fnOf (l : SV) : Fnd := (strAt (nthE l 0), intAt (nthE l 1))
def Same : Eng.Spec where
  X := Two
  args := fun x => .cons (.slice 2 x.n fun i => fnL (x.p i)) (.cons (.slice 2 x.m fun i => fnL (x.q i)) .nil)
  pre := fun x => (x.n : Int) ≤ 9223372036854775806 ∧ (x.m : Int) ≤ 9223372036854775806
  res := fun x => .bool (sameB x)
  inst := fun
    | .cons a (.cons b .nil) => match asSlice a, asSlice b with
      | some (_, n, p), some (_, m, q) => some ⟨n, m, fun i => fnOf (p i), fun i => fnOf (q i)⟩
      | _, _ => none
    | _ => none
theorem Same_ok : Same.Ok Try.prog 18 := by
  refine Eng.Spec.ok_of e18 q18 (fun _ => []) (fun _ _ => TabOk.nil) ?_
  intro (x : Two) ⟨hn, hm⟩
  refine ⟨trivial, ?_⟩
  refine ⟨fun hb => ?_, fun hb => ?_⟩
  · have hb' : x.n ≠ x.m := by
      have hb' : (x.n : Int) ≠ x.m := by simpa using hb
      omega
    have e : sameB x = false := by
      unfold sameB
      rw [decide_eq_false hb']
      rfl
    show _ = _
    exact e.symm
  have hnm : x.n = x.m := by
    have hb' : (x.n : Int) = x.m := by simpa using hb
    omega
  refine ⟨⟨Nat, fun i => i ≤ x.n ∧ x.n = x.m ∧ ∀ j, j < i → x.p j = x.q j, fun i => [(5, .int .i64 (i : Int))], fun _ => [], fun i => x.n - i⟩, 0, ⟨Nat.zero_le _, hnm, fun j hj => by omega⟩, ?_, ?_⟩
  · repeat' (first | exact trivial | refine And.intro ?_ ?_ | refine fun h => ?_ | exact rfl)
  rintro (i : Nat) ⟨hi, _, hall⟩
  replace hi : i ≤ x.n := hi
  replace hall : ∀ j, j < i → x.p j = x.q j := hall
  refine ⟨fun hlt => ?_, fun hge => ?_⟩
  · have hlt' : i < x.n := by simpa using hlt
    repeat' (first | exact trivial | refine And.intro ?_ ?_ | exact rfl | omega | intro hb)
    · have hne : ¬ x.p i = x.q i := by
        intro h
        replace hb : (!(decide ((x.p i).1 = (x.q i).1) && (decide ((x.p i).2 = (x.q i).2) && true))) = true := hb
        rw [h] at hb
        simp at hb
      have e : sameB x = false := by
        unfold sameB
        rw [decide_eq_false (fun h : ∀ i, i < x.n → x.p i = x.q i => hne (h i hlt'))]
        exact Bool.and_false _
      show _ = _
      exact e.symm
    · have he : x.p i = x.q i := by
        replace hb : (!(decide ((x.p i).1 = (x.q i).1) && (decide ((x.p i).2 = (x.q i).2) && true))) = false := hb
        simp at hb
        exact Prod.ext hb.1 hb.2
      refine ⟨i + 1, ⟨by omega, hnm, fun j hj => ?_⟩, ?_, ?_⟩
      · by_cases e : j = i
        · subst e; exact he
        · exact hall j (by omega)
      · repeat' (first | exact trivial | refine And.intro ?_ ?_ | refine fun h => ?_ | exact rfl)
      · show x.n - (i + 1) < x.n - i
        omega
  · have hge' : ¬ i < x.n := by simpa using hge
    have e : sameB x = true := by
      unfold sameB
      rw [decide_eq_true hnm, decide_eq_true (fun j hj => hall j (by omega))]
      rfl
    show _ = _
    exact e.symm
/-- gazetteer/gazetteerref39.Few -/
def g9 : List Nat := [11, 20, 3, 0, 2]
def c9 : SCode :=
  .seq (.region g9 [⟨some 2, none, .move (.c (.bool false)), []⟩]) (.seq (.seq (.region g9 [⟨some 3, none, .move (.c (.int .i64 0)), []⟩]) (.block 0 (.loop 0 [4, 5, 6, 7, 8, 9, 10, 11, 14, 15, 16, 17, 18, 19, 20, 2, 12, 13, 3] (.seq (.seq (.region g9 [⟨some 4, none, .move (.s 3), []⟩, ⟨some 5, none, .move (.s 0), []⟩, ⟨some 6, none, .lenSl (.s 5), []⟩, ⟨some 7, none, .bin (.lss) (.s 4) (.s 6), []⟩, ⟨some 8, none, .move (.s 7), []⟩, ⟨some 9, some (8, true), .move (.s 3), []⟩, ⟨some 10, some (8, true), .bin (.lss) (.s 9) (.c (.int .i64 30)), []⟩, ⟨some 11, none, .pick (.s 8) (.s 10) (.c (.bool false)), []⟩]) (.cond (.s 11) .skip (.exit 0))) (.seq (.block 1 (.seq (.region g9 [⟨some 14, none, .move (.s 0), []⟩, ⟨some 15, none, .move (.s 3), []⟩, ⟨some 16, none, .idxSl 11 (.s 14) (.s 15), []⟩, ⟨some 17, none, .fldA 0 (.s 16), []⟩, ⟨some 18, none, .load 1 false (.s 17), []⟩, ⟨some 19, none, .lenStr (.s 18), []⟩, ⟨some 20, none, .bin (.gtr) (.s 19) (.c (.int .i64 60)), []⟩]) (.cond (.s 20) (.seq (.region g9 [⟨some 2, none, .move (.c (.bool false)), []⟩]) .ret) .skip))) (.region g9 [⟨some 12, none, .move (.s 3), []⟩, ⟨some 13, none, .bin (.add) (.s 12) (.c (.int .i64 1)), []⟩, ⟨some 3, none, .move (.s 13), []⟩])))))) (.seq (.region g9 [⟨some 21, none, .move (.s 0), []⟩, ⟨some 22, none, .lenSl (.s 21), []⟩, ⟨some 23, none, .bin (.leq) (.s 22) (.c (.int .i64 30)), []⟩, ⟨some 2, none, .move (.s 23), []⟩]) .ret))
def r9 : List SRes := [.slot 2]
def k9 : List (Nat × Nat × SCode × Nat) := []
theorem e9 : cFunc Try.prog 9 g9 [] [] k9 = some (c9, r9, 24) := by kernel_rfl
theorem q9 : RgOk Try.prog k9 := RgOk.nil
structure Adrs where
  n : Nat
  a : Nat → Adr
def fewB (x : Adrs) : Bool := decide (x.n ≤ 30) && decide (∀ i, i < x.n → (x.a i).door.length ≤ 60)
def Few : Eng.Spec where
  X := Adrs
  args := fun x => .cons (.slice 11 x.n fun i => adL (x.a i)) .nil
  pre := fun x => (x.n : Int) ≤ 9223372036854775806
  res := fun x => .bool (fewB x)
  inst := fun
    | .cons a .nil => match asSlice a with
      | some (_, n, p) => some ⟨n, fun i => adOf (p i)⟩
      | _ => none
    | _ => none
theorem Few_ok : Few.Ok Try.prog 9 := by
  refine Eng.Spec.ok_of e9 q9 (fun _ => []) (fun _ _ => TabOk.nil) ?_
  intro (x : Adrs) hn
  replace hn : (x.n : Int) ≤ 9223372036854775806 := hn
  refine ⟨trivial, ?_⟩
  refine ⟨⟨Nat, fun i => i ≤ x.n ∧ i ≤ 30 ∧ ∀ j, j < i → (x.a j).door.length ≤ 60, fun i => [(3, .int .i64 (i : Int))], fun _ => [], fun i => 30 - i⟩, 0, ⟨Nat.zero_le _, Nat.zero_le 30, fun j hj => by omega⟩, ?_, ?_⟩
  · repeat' (first | exact trivial | refine And.intro ?_ ?_ | refine fun h => ?_ | exact rfl)
  rintro (i : Nat) ⟨hi, hi30, hall⟩
  replace hi : i ≤ x.n := hi
  replace hi30 : i ≤ 30 := hi30
  replace hall : ∀ j, j < i → (x.a j).door.length ≤ 60 := hall
  refine ⟨fun hlt => ?_, fun hge => ?_⟩
  · simp only [pickB_and] at hlt
    have hlt' : i < x.n ∧ i < 30 := by
      simp only [Bool.and_eq_true, decide_eq_true_eq] at hlt
      omega
    repeat' (first | exact trivial | refine And.intro ?_ ?_ | exact rfl | omega | intro hb)
    · have hb' : 60 < (x.a i).door.length := by
        replace hb : decide ((60 : Int) < ((x.a i).door.length : Int)) = true := hb
        have := of_decide_eq_true hb
        omega
      have e : fewB x = false := by
        unfold fewB
        rw [decide_eq_false (fun h : ∀ i, i < x.n → (x.a i).door.length ≤ 60 => by have := h i hlt'.1; omega)]
        exact Bool.and_false _
      show _ = _
      exact e.symm
    · have hb' : ¬ 60 < (x.a i).door.length := by
        replace hb : decide ((60 : Int) < ((x.a i).door.length : Int)) = false := hb
        have := of_decide_eq_false hb
        omega
      refine ⟨i + 1, ⟨by omega, by omega, fun j hj => ?_⟩, ?_, ?_⟩
      · by_cases e : j = i
        · subst e; omega
        · exact hall j (by omega)
      · repeat' (first | exact trivial | refine And.intro ?_ ?_ | refine fun h => ?_ | exact rfl)
      · show 30 - (i + 1) < 30 - i
        omega
  · simp only [pickB_and] at hge
    have hge' : ¬ (i < x.n ∧ i < 30) := by
      simp only [Bool.and_eq_false_iff, decide_eq_false_iff_not] at hge
      omega
    have e : fewB x = decide ((x.n : Int) ≤ 30) := by
      unfold fewB
      by_cases h : x.n ≤ 30
      · rw [decide_eq_true h, decide_eq_true (fun j hj => hall j (by omega)), decide_eq_true (by omega)]
        rfl
      · rw [decide_eq_false h, decide_eq_false (p := (x.n : Int) ≤ 30) (by omega)]
        rfl
    show _ = _
    exact e.symm
end R4
