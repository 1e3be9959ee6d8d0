/- A part of the proof: see the last text. -/
import Derived.Test.YtjfjbkgkafgofaaProg
import Derived.KernelRfl
import Derived.Test.YtjfjbkgkafgofaaEngN
open Go Go.Eng Go.Proofs
set_option maxRecDepth 100000
namespace R2
def intAt : SV → Int
  | .int _ n => n
  | _ => 0
def strAt : SV → List UInt8
  | .str s => s
  | _ => []
def ptL (q : Int × Int) : SV := .cons (.int .i64 q.1) (.cons (.int .i64 q.2) .nil)
def ptE (q : Int × Int) : SV := .agg (ptL q)
def ptD : SV → Option (Int × Int)
  | .agg (.cons (.int _ a) (.cons (.int _ b) .nil)) => some (a, b)
  | _ => none
theorem mul_bd {a b B : Int} (h1 : -B ≤ a) (h2 : a ≤ B) (h3 : -B ≤ b) (h4 : b ≤ B) : -(B * B) ≤ a * b ∧ a * b ≤ B * B := by
  have hB : 0 ≤ B := by omega
  have k1 : 0 ≤ (B - a) * (B + b) := Int.mul_nonneg (by omega) (by omega)
  have k2 : 0 ≤ (B + a) * (B - b) := Int.mul_nonneg (by omega) (by omega)
  have k3 : 0 ≤ (B - a) * (B - b) := Int.mul_nonneg (by omega) (by omega)
  have k4 : 0 ≤ (B + a) * (B + b) := Int.mul_nonneg (by omega) (by omega)
  simp only [Int.mul_add, Int.add_mul, Int.sub_mul, Int.mul_sub] at k1 k2 k3 k4
  have e1 : b * B = B * b := Int.mul_comm _ _
  have e2 : a * B = B * a := Int.mul_comm _ _
  constructor <;> omega
/-- gazetteer/geom.On -/
def g19 : List Nat := [0, 1, 2]
def c19 : SCode :=
  .seq (.region g19 [⟨some 1, none, .box 38 (.s 0), []⟩, ⟨some 2, none, .move (.c (.bool false)), []⟩]) (.seq (.region g19 [⟨some 3, none, .fldA 0 (.s 1), []⟩, ⟨some 4, none, .load 1 false (.s 3), []⟩, ⟨some 5, none, .fldA 1 (.s 1), []⟩, ⟨some 6, none, .load 1 false (.s 5), []⟩, ⟨some 7, none, .mm false (.s 4) (.s 6), []⟩, ⟨some 8, none, .bin (.geq) (.s 7) (.c (.int .i64 0)), []⟩, ⟨some 9, none, .move (.s 8), []⟩, ⟨some 10, some (9, true), .fldA 0 (.s 1), []⟩, ⟨some 11, some (9, true), .load 1 false (.s 10), []⟩, ⟨some 12, some (9, true), .fldA 1 (.s 1), []⟩, ⟨some 13, some (9, true), .load 1 false (.s 12), []⟩, ⟨some 14, some (9, true), .mm true (.s 11) (.s 13), []⟩, ⟨some 15, some (9, true), .bin (.leq) (.s 14) (.c (.int .i64 32767)), []⟩, ⟨some 16, none, .pick (.s 9) (.s 15) (.c (.bool false)), []⟩, ⟨some 2, none, .move (.s 16), []⟩]) .ret)
def r19 : List SRes := [.slot 2]
def k19 : List (Nat × Nat × SCode × Nat) := []
theorem e19 : cFunc Try.prog 19 g19 [] [] k19 = some (c19, r19, 17) := by kernel_rfl
theorem q19 : RgOk Try.prog k19 := RgOk.nil
def onB (q : Int × Int) : Bool := decide (0 ≤ min q.1 q.2) && decide (max q.1 q.2 ≤ 32767)
theorem onB_iff {q : Int × Int} : onB q = true ↔ 0 ≤ q.1 ∧ q.1 ≤ 32767 ∧ 0 ≤ q.2 ∧ q.2 ≤ 32767 := by
  unfold onB
  simp only [Bool.and_eq_true, decide_eq_true_eq]
  omega
def On : Eng.Spec where
  X := Int × Int
  args := fun x => .cons (ptE x) .nil
  pre := fun _ => True
  res := fun x => .bool (onB x)
  inst := fun
    | .cons a .nil => ptD a
    | _ => none
theorem On_ok : On.Ok Try.prog 19 := by
  refine Eng.Spec.ok_of e19 q19 (fun _ => []) (fun _ _ => TabOk.nil) ?_
  rintro ⟨x, y⟩ _
  refine ⟨trivial, ?_⟩
  exact rfl
/-- gazetteer/geom.on -/
def g38 : List Nat := [0, 6, 8, 5, 4, 13, 7, 2]
def c38 : SCode :=
  .seq (.region g38 [⟨some 2, none, .move (.c (.bool false)), []⟩]) (.seq (.seq (.region g38 [⟨some 5, none, .move (.s 0), []⟩, ⟨some 6, none, .lenSl (.s 5), []⟩, ⟨some 7, none, .move (.c (.int .i64 0)), []⟩]) (.block 0 (.loop 0 [8, 9, 10, 4, 11, 12, 13, 2, 14, 7] (.seq (.region g38 [⟨some 8, none, .bin (.lss) (.s 7) (.s 6), []⟩]) (.seq (.cond (.s 8) .skip (.exit 0)) (.seq (.block 1 (.seq (.region g38 [⟨some 9, none, .idxSl 2 (.s 5) (.s 7), []⟩, ⟨some 10, none, .load 2 true (.s 9), []⟩, ⟨some 4, none, .alloc 38 (.cons (.int .i64 0) (.cons (.int .i64 0) .nil)), []⟩, ⟨none, none, .store 2 (.s 4) (.s 10), []⟩]) (.seq (.region g38 [⟨some 11, none, .load 2 true (.s 4), []⟩, ⟨some 12, none, .call (.c (.fn 19)) [.s 11], []⟩, ⟨some 13, none, .not (.s 12), []⟩]) (.cond (.s 13) (.seq (.region g38 [⟨some 2, none, .move (.c (.bool false)), []⟩]) .ret) .skip)))) (.region g38 [⟨some 14, none, .bin (.add) (.s 7) (.c (.int .i64 1)), []⟩, ⟨some 7, none, .move (.s 14), []⟩]))))))) (.seq (.region g38 [⟨some 2, none, .move (.c (.bool true)), []⟩]) .ret))
def r38 : List SRes := [.slot 2]
def k38 : List (Nat × Nat × SCode × Nat) := []
theorem e38 : cFunc Try.prog 38 g38 [] [] k38 = some (c38, r38, 15) := by kernel_rfl
theorem q38 : RgOk Try.prog k38 := RgOk.nil
structure Pts where
  n : Nat
  p : Nat → Int × Int
def onAll (x : Pts) : Bool := decide (∀ i, i < x.n → onB (x.p i) = true)
def on_ : Eng.Spec where
  X := Pts
  args := fun x => .cons (.slice 2 x.n fun i => ptL (x.p i)) .nil
  pre := fun x => (x.n : Int) ≤ 9223372036854775806
  res := fun x => .bool (onAll x)
  inst := fun
    | .cons s .nil => match asSlice s with
      | some (_, n, enc) => some ⟨n, fun i => (intAt (nthE (enc i) 0), intAt (nthE (enc i) 1))⟩
      | none => none
    | _ => none
theorem on_ok : on_.Ok Try.prog 38 := by
  refine Eng.Spec.ok_of e38 q38 (fun _ => [(19, .p On)]) (fun _ _ => TabOk.p On_ok TabOk.nil) ?_
  intro (x : Pts) hn
  replace hn : (x.n : Int) ≤ 9223372036854775806 := hn
  refine ⟨trivial, ?_⟩
  refine ⟨⟨Nat, fun i => i ≤ x.n ∧ ∀ j, j < i → onB (x.p j) = true, fun i => [(7, .int .i64 (i : Int))], fun _ => [], fun i => x.n - i⟩, 0, ⟨Nat.zero_le _, fun j hj => by omega⟩, ?_, ?_⟩
  · repeat' (first | exact trivial | refine And.intro ?_ ?_ | refine fun h => ?_ | exact rfl)
  rintro (i : Nat) ⟨hi, hall⟩
  replace hi : i ≤ x.n := hi
  replace hall : ∀ j, j < i → onB (x.p j) = true := hall
  refine ⟨fun hlt => ?_, fun hge => ?_⟩
  · have hlt' : i < x.n := by simpa using hlt
    repeat' (first | exact trivial | refine And.intro ?_ ?_ | exact rfl | omega | intro hb)
    · have hb' : onB (x.p i) = false := by simpa using hb
      have e : onAll x = false := decide_eq_false fun h => by rw [h i hlt'] at hb'; cases hb'
      show _ = _
      exact e.symm
    · have hb' : onB (x.p i) = true := by simpa using hb
      refine ⟨i + 1, ⟨by omega, fun j hj => ?_⟩, ?_, ?_⟩
      · by_cases e : j = i
        · subst e; exact hb'
        · exact hall j (by omega)
      · repeat' (first | exact trivial | refine And.intro ?_ ?_ | refine fun h => ?_ | exact rfl)
      · show x.n - (i + 1) < x.n - i
        omega
  · have hge' : ¬ i < x.n := by simpa using hge
    have e : onAll x = true := decide_eq_true fun j hj => hall j (by omega)
    show _ = _
    exact e.symm
/-- gazetteer/geom.from -/
def g39 : List Nat := [0, 1, 3, 2, 4]
def c39 : SCode :=
  .seq (.region g39 [⟨some 2, none, .box 38 (.s 0), []⟩, ⟨some 3, none, .box 38 (.s 1), []⟩, ⟨some 4, none, .alloc 80 (.cons (.int .i64 0) (.cons (.int .i64 0) .nil)), []⟩]) (.seq (.region g39 [⟨some 5, none, .fldA 0 (.s 3), []⟩, ⟨some 6, none, .load 1 false (.s 5), []⟩, ⟨some 7, none, .fldA 0 (.s 2), []⟩, ⟨some 8, none, .load 1 false (.s 7), []⟩, ⟨some 9, none, .bin (.sub) (.s 6) (.s 8), []⟩, ⟨some 10, none, .fldA 1 (.s 3), []⟩, ⟨some 11, none, .load 1 false (.s 10), []⟩, ⟨some 12, none, .fldA 1 (.s 2), []⟩, ⟨some 13, none, .load 1 false (.s 12), []⟩, ⟨some 14, none, .bin (.sub) (.s 11) (.s 13), []⟩, ⟨some 15, none, .build (.cons (.int .i64 0) (.cons (.int .i64 0) .nil)) [(0, 1, .s 9), (1, 1, .s 14)], []⟩, ⟨none, none, .store 2 (.s 4) (.s 15), []⟩]) .ret)
def r39 : List SRes := [.cell 4 2 true]
def k39 : List (Nat × Nat × SCode × Nat) := []
theorem e39 : cFunc Try.prog 39 g39 [] [] k39 = some (c39, r39, 16) := by kernel_rfl
theorem q39 : RgOk Try.prog k39 := RgOk.nil
def from_ : Eng.Spec where
  X := (Int × Int) × (Int × Int)
  args := fun x => .cons (ptE x.1) (.cons (ptE x.2) .nil)
  pre := fun x => onB x.1 = true ∧ onB x.2 = true
  res := fun x => ptE (x.2.1 - x.1.1, x.2.2 - x.1.2)
  inst := fun
    | .cons a (.cons b .nil) => match ptD a, ptD b with
      | some p, some q => some (p, q)
      | _, _ => none
    | _ => none
theorem from_ok : from_.Ok Try.prog 39 := by
  refine Eng.Spec.ok_of e39 q39 (fun _ => []) (fun _ _ => TabOk.nil) ?_
  intro (x : (Int × Int) × (Int × Int)) ⟨h1, h2⟩
  replace h1 := onB_iff.1 h1
  replace h2 := onB_iff.1 h2
  refine ⟨trivial, ?_⟩
  repeat' (first | exact trivial | refine And.intro ?_ ?_ | exact rfl | omega | (dsimp only; omega))
/-- (gazetteer/geom.vector).along -/
def g40 : List Nat := [0, 1, 2, 3, 4]
def c40 : SCode :=
  .seq (.region g40 [⟨some 2, none, .box 80 (.s 0), []⟩, ⟨some 3, none, .box 80 (.s 1), []⟩, ⟨some 4, none, .move (.c (.int .i64 0)), []⟩]) (.seq (.region g40 [⟨some 5, none, .fldA 0 (.s 2), []⟩, ⟨some 6, none, .load 1 false (.s 5), []⟩, ⟨some 7, none, .fldA 0 (.s 3), []⟩, ⟨some 8, none, .load 1 false (.s 7), []⟩, ⟨some 9, none, .bin (.mul) (.s 6) (.s 8), []⟩, ⟨some 10, none, .fldA 1 (.s 2), []⟩, ⟨some 11, none, .load 1 false (.s 10), []⟩, ⟨some 12, none, .fldA 1 (.s 3), []⟩, ⟨some 13, none, .load 1 false (.s 12), []⟩, ⟨some 14, none, .bin (.mul) (.s 11) (.s 13), []⟩, ⟨some 15, none, .bin (.add) (.s 9) (.s 14), []⟩, ⟨some 4, none, .move (.s 15), []⟩]) .ret)
def r40 : List SRes := [.slot 4]
def k40 : List (Nat × Nat × SCode × Nat) := []
theorem e40 : cFunc Try.prog 40 g40 [] [] k40 = some (c40, r40, 16) := by kernel_rfl
theorem q40 : RgOk Try.prog k40 := RgOk.nil
def along : Eng.Spec where
  X := (Int × Int) × (Int × Int)
  args := fun x => .cons (ptE x.1) (.cons (ptE x.2) .nil)
  pre := fun x => (-32767 ≤ x.1.1 ∧ x.1.1 ≤ 32767) ∧ (-32767 ≤ x.1.2 ∧ x.1.2 ≤ 32767) ∧ (-32767 ≤ x.2.1 ∧ x.2.1 ≤ 32767) ∧ (-32767 ≤ x.2.2 ∧ x.2.2 ≤ 32767)
  res := fun x => .int .i64 (x.1.1 * x.2.1 + x.1.2 * x.2.2)
  inst := fun
    | .cons a (.cons b .nil) => match ptD a, ptD b with
      | some p, some q => some (p, q)
      | _, _ => none
    | _ => none
theorem along_ok : along.Ok Try.prog 40 := by
  refine Eng.Spec.ok_of e40 q40 (fun _ => []) (fun _ _ => TabOk.nil) ?_
  intro (x : (Int × Int) × (Int × Int)) ⟨h1, h2, h3, h4⟩
  have k1 := mul_bd h1.1 h1.2 h3.1 h3.2
  have k2 := mul_bd h2.1 h2.2 h4.1 h4.2
  refine ⟨trivial, ?_⟩
  repeat' (first | exact trivial | refine And.intro ?_ ?_ | exact rfl | omega | (dsimp only; omega))
/-- gazetteer/geom.Dist -/
def g21 : List Nat := [0, 1, 10, 2, 3, 5, 4]
def c21 : SCode :=
  .seq (.region g21 [⟨some 2, none, .box 38 (.s 0), []⟩, ⟨some 3, none, .box 38 (.s 1), []⟩, ⟨some 4, none, .move (.c (.int .i64 0)), []⟩]) (.seq (.seq (.region g21 [⟨some 6, none, .load 2 true (.s 2), []⟩, ⟨some 7, none, .load 2 true (.s 3), []⟩, ⟨some 8, none, .buildSl 38 2 2 (.cons (.int .i64 0) (.cons (.int .i64 0) .nil)) [(0, 2, .s 6), (2, 2, .s 7)], []⟩, ⟨some 9, none, .call (.c (.fn 38)) [.s 8], []⟩, ⟨some 10, none, .not (.s 9), []⟩]) (.cond (.s 10) (.seq (.region g21 [⟨some 4, none, .move (.c (.int .i64 0)), []⟩]) .ret) .skip)) (.seq (.region g21 [⟨some 11, none, .load 2 true (.s 2), []⟩, ⟨some 12, none, .load 2 true (.s 3), []⟩, ⟨some 13, none, .call (.c (.fn 39)) [.s 11, .s 12], []⟩, ⟨some 5, none, .alloc 80 (.cons (.int .i64 0) (.cons (.int .i64 0) .nil)), []⟩, ⟨none, none, .store 2 (.s 5) (.s 13), []⟩]) (.seq (.region g21 [⟨some 14, none, .load 2 true (.s 5), []⟩, ⟨some 15, none, .load 2 true (.s 5), []⟩, ⟨some 16, none, .call (.c (.fn 40)) [.s 14, .s 15], []⟩, ⟨some 4, none, .move (.s 16), []⟩]) .ret)))
def r21 : List SRes := [.slot 4]
def k21 : List (Nat × Nat × SCode × Nat) := []
theorem e21 : cFunc Try.prog 21 g21 [] [] k21 = some (c21, r21, 17) := by kernel_rfl
theorem q21 : RgOk Try.prog k21 := RgOk.nil
def sqd (p q : Int × Int) : Int := (q.1 - p.1) * (q.1 - p.1) + (q.2 - p.2) * (q.2 - p.2)
def distV (p q : Int × Int) : Int := if onB p = true ∧ onB q = true then sqd p q else 0
def Dist : Eng.Spec where
  X := (Int × Int) × (Int × Int)
  args := fun x => .cons (ptE x.1) (.cons (ptE x.2) .nil)
  pre := fun _ => True
  res := fun x => .int .i64 (distV x.1 x.2)
  inst := fun
    | .cons a (.cons b .nil) => match ptD a, ptD b with
      | some p, some q => some (p, q)
      | _, _ => none
    | _ => none
theorem onAll2 (p q : Int × Int) : onAll ⟨2, fun i => (intAt (nthE (nthE (.cons (ptL p) (.cons (ptL q) .nil)) i) 0), intAt (nthE (nthE (.cons (ptL p) (.cons (ptL q) .nil)) i) 1))⟩ = (onB p && onB q) := by
  unfold onAll
  rw [Bool.eq_iff_iff]
  simp only [decide_eq_true_eq, Bool.and_eq_true]
  constructor
  · exact fun h => ⟨h 0 (by decide), h 1 (by decide)⟩
  · rintro ⟨h1, h2⟩ i hi
    match i, hi with
    | 0, _ => exact h1
    | 1, _ => exact h2
theorem Dist_ok : Dist.Ok Try.prog 21 := by
  refine Eng.Spec.ok_of e21 q21 (fun _ => [(38, .p on_), (39, .p from_), (40, .p along)]) (fun _ _ => TabOk.p on_ok (TabOk.p from_ok (TabOk.p along_ok TabOk.nil))) ?_
  intro (x : (Int × Int) × (Int × Int)) _
  refine ⟨trivial, ?_⟩
  repeat' (first | exact trivial | refine And.intro ?_ ?_ | exact rfl | omega | intro hb)
  · show (2 : Int) ≤ _
    omega
  · have hb' : (!(onB x.1 && onB x.2)) = true := (congrArg (!·) (onAll2 x.1 x.2)).symm.trans hb
    have e : distV x.1 x.2 = 0 := by
      unfold distV
      rw [if_neg]
      intro ⟨h1, h2⟩
      rw [h1, h2] at hb'
      cases hb'
    show _ = _
    exact e.symm
  all_goals
    have hb' : (!(onB x.1 && onB x.2)) = false := (congrArg (!·) (onAll2 x.1 x.2)).symm.trans hb
    simp only [Bool.not_eq_false', Bool.and_eq_true] at hb'
    have h1 := onB_iff.1 hb'.1
    have h2 := onB_iff.1 hb'.2
    first
    | exact hb'.1
    | exact hb'.2
    | (dsimp only; omega)
    | (have e : distV x.1 x.2 = sqd x.1 x.2 := if_pos hb'
       show _ = _
       exact e.symm)
/-- gazetteer/reverse.of -/
def g25 : List Nat := [0, 1, 2]
def c25 : SCode :=
  .seq (.region g25 [⟨some 1, none, .box 38 (.s 0), []⟩, ⟨some 2, none, .alloc 65 (.cons (.int .i64 0) (.cons (.int .i64 0) .nil)), []⟩]) (.seq (.region g25 [⟨some 3, none, .fldA 0 (.s 1), []⟩, ⟨some 4, none, .load 1 false (.s 3), []⟩, ⟨some 5, none, .bin (.quo) (.s 4) (.c (.int .i64 1024)), []⟩, ⟨some 6, none, .fldA 1 (.s 1), []⟩, ⟨some 7, none, .load 1 false (.s 6), []⟩, ⟨some 8, none, .bin (.quo) (.s 7) (.c (.int .i64 1024)), []⟩, ⟨some 9, none, .build (.cons (.int .i64 0) (.cons (.int .i64 0) .nil)) [(0, 1, .s 5), (1, 1, .s 8)], []⟩, ⟨none, none, .store 2 (.s 2) (.s 9), []⟩]) .ret)
def r25 : List SRes := [.cell 2 2 true]
def k25 : List (Nat × Nat × SCode × Nat) := []
theorem e25 : cFunc Try.prog 25 g25 [] [] k25 = some (c25, r25, 10) := by kernel_rfl
theorem q25 : RgOk Try.prog k25 := RgOk.nil
def ofP : Eng.Spec where
  X := Int × Int
  args := fun x => .cons (ptE x) .nil
  pre := fun x => onB x = true
  res := fun x => ptE (x.1 / 1024, x.2 / 1024)
  inst := fun
    | .cons a .nil => ptD a
    | _ => none
theorem ofP_ok : ofP.Ok Try.prog 25 := by
  refine Eng.Spec.ok_of e25 q25 (fun _ => []) (fun _ _ => TabOk.nil) ?_
  intro (x : Int × Int) h1
  replace h1 := onB_iff.1 h1
  have e1 : x.1.tdiv 1024 = x.1 / 1024 := Int.tdiv_eq_ediv_of_nonneg h1.1
  have e2 : x.2.tdiv 1024 = x.2 / 1024 := Int.tdiv_eq_ediv_of_nonneg h1.2.2.1
  refine ⟨trivial, ?_⟩
  repeat' (first | exact trivial | refine And.intro ?_ ?_ | exact rfl | exact congrArg _ e1 | exact congrArg _ e2 | omega | (dsimp only; omega))
end R2
