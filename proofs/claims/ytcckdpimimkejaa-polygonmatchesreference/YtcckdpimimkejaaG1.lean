/- A part of the proof: see the last text. -/
import Derived.Test.YtcckdpimimkejaaProg
import Derived.KernelRfl
import Derived.Test.YtcckdpimimkejaaEngN
open Go Go.Eng Go.Proofs
set_option maxRecDepth 100000
namespace G1
abbrev Pt := Int × Int
theorem sub_ptN (k : Keep) (hp : List (Nat × HObj)) (m : Nat) (p : Int × Int) : sub k hp (m + 4) (.cons (.int .i64 p.1) (.cons (.int .i64 p.2) .nil)) (.cons (.int .i64 p.1) (.cons (.int .i64 p.2) .nil)) := ⟨⟨rfl, rfl⟩, ⟨rfl, rfl⟩, trivial⟩
theorem no_tf {b : Bool} {P : Prop} (h : b = false) (h2 : b = true) : P := by rw [h] at h2; cases h2
def intAt : SV → Int
  | .int _ n => n
  | _ => 0
def ptL (q : Pt) : SV := .cons (.int .i64 q.1) (.cons (.int .i64 q.2) .nil)
def ptE (q : Pt) : SV := .agg (ptL q)
def ptD : SV → Option Pt
  | .agg (.cons (.int _ a) (.cons (.int _ b) .nil)) => some (a, b)
  | _ => none
theorem mul_bd {a b B : Int} (h1 : -B ≤ a) (h2 : a ≤ B) (h3 : -B ≤ b) (h4 : b ≤ B) : -(B * B) ≤ a * b ∧ a * b ≤ B * B := by
  have hB : 0 ≤ B := by omega
  have k1 : 0 ≤ (B - a) * (B + b) := Int.mul_nonneg (by omega) (by omega)
  have k2 : 0 ≤ (B + a) * (B - b) := Int.mul_nonneg (by omega) (by omega)
  have k3 : 0 ≤ (B - a) * (B - b) := Int.mul_nonneg (by omega) (by omega)
  have k4 : 0 ≤ (B + a) * (B + b) := Int.mul_nonneg (by omega) (by omega)
  simp only [Int.mul_add, Int.add_mul, Int.sub_mul, Int.mul_sub] at k1 k2 k3 k4
  have e1 : b * B = B * b := Int.mul_comm _ _
  have e2 : a * B = B * a := Int.mul_comm _ _
  constructor <;> omega
def bd (B : Int) (q : Pt) : Prop := (-B ≤ q.1 ∧ q.1 ≤ B) ∧ (-B ≤ q.2 ∧ q.2 ≤ B)
def onB (q : Pt) : Bool := decide (0 ≤ min q.1 q.2) && decide (max q.1 q.2 ≤ 32767)
theorem onB_iff {q : Pt} : onB q = true ↔ 0 ≤ q.1 ∧ q.1 ≤ 32767 ∧ 0 ≤ q.2 ∧ q.2 ≤ 32767 := by
  unfold onB
  simp only [Bool.and_eq_true, decide_eq_true_eq]
  omega
def vec (a b : Pt) : Pt := (b.1 - a.1, b.2 - a.2)
def crs (u v : Pt) : Int := u.1 * v.2 - u.2 * v.1
def dot (u v : Pt) : Int := u.1 * v.1 + u.2 * v.2
def sgn (n : Int) : Int := if 0 < n then 1 else if n < 0 then -1 else 0
def ar (a b c : Pt) : Int := crs (vec a b) (vec a c)
theorem bd_vec {a b : Pt} (ha : onB a = true) (hb : onB b = true) : bd 32767 (vec a b) := by
  have h1 := onB_iff.1 ha
  have h2 := onB_iff.1 hb
  unfold bd vec
  dsimp only
  omega
theorem crs_bd {u v : Pt} {B : Int} (hu : bd B u) (hv : bd B v) : (-(B * B) ≤ u.1 * v.2 ∧ u.1 * v.2 ≤ B * B) ∧ (-(B * B) ≤ u.2 * v.1 ∧ u.2 * v.1 ≤ B * B) := ⟨mul_bd hu.1.1 hu.1.2 hv.2.1 hv.2.2, mul_bd hu.2.1 hu.2.2 hv.1.1 hv.1.2⟩
theorem dot_bd {u v : Pt} {B : Int} (hu : bd B u) (hv : bd B v) : (-(B * B) ≤ u.1 * v.1 ∧ u.1 * v.1 ≤ B * B) ∧ (-(B * B) ≤ u.2 * v.2 ∧ u.2 * v.2 ≤ B * B) := ⟨mul_bd hu.1.1 hu.1.2 hv.1.1 hv.1.2, mul_bd hu.2.1 hu.2.2 hv.2.1 hv.2.2⟩
def one (f : SV → Option Pt) : SV → Option Pt
  | .cons a .nil => f a
  | _ => none
def two : SV → Option (Pt × Pt)
  | .cons a (.cons b .nil) => match ptD a, ptD b with
    | some p, some q => some (p, q)
    | _, _ => none
  | _ => none
/-- gazetteer/geom.On -/
def g29 : List Nat := [0, 1, 2]
def c29 : SCode :=
  .seq (.region g29 [⟨some 1, none, .box 24 (.s 0), []⟩, ⟨some 2, none, .move (.c (.bool false)), []⟩]) (.seq (.region g29 [⟨some 3, none, .fldA 0 (.s 1), []⟩, ⟨some 4, none, .load 1 false (.s 3), []⟩, ⟨some 5, none, .fldA 1 (.s 1), []⟩, ⟨some 6, none, .load 1 false (.s 5), []⟩, ⟨some 7, none, .mm false (.s 4) (.s 6), []⟩, ⟨some 8, none, .bin (.geq) (.s 7) (.c (.int .i64 0)), []⟩, ⟨some 9, none, .move (.s 8), []⟩, ⟨some 10, some (9, true), .fldA 0 (.s 1), []⟩, ⟨some 11, some (9, true), .load 1 false (.s 10), []⟩, ⟨some 12, some (9, true), .fldA 1 (.s 1), []⟩, ⟨some 13, some (9, true), .load 1 false (.s 12), []⟩, ⟨some 14, some (9, true), .mm true (.s 11) (.s 13), []⟩, ⟨some 15, some (9, true), .bin (.leq) (.s 14) (.c (.int .i64 32767)), []⟩, ⟨some 16, none, .pick (.s 9) (.s 15) (.c (.bool false)), []⟩, ⟨some 2, none, .move (.s 16), []⟩]) .ret)
def r29 : List SRes := [.slot 2]
def k29 : List (Nat × Nat × SCode × Nat) := []
theorem e29 : cFunc Try.prog 29 g29 [] [] k29 = some (c29, r29, 17) := by kernel_rfl
theorem q29 : RgOk Try.prog k29 := RgOk.nil
def On : Eng.Spec where
  X := Pt
  args := fun x => .cons (ptE x) .nil
  pre := fun _ => True
  res := fun x => .bool (onB x)
  inst := fun
    | .cons a .nil => ptD a
    | _ => none
theorem On_ok : On.Ok Try.prog 29 := by
  refine Eng.Spec.ok_of e29 q29 (fun _ => []) (fun _ _ => TabOk.nil) ?_
  rintro ⟨x, y⟩ _
  refine ⟨trivial, ?_⟩
  exact rfl
/-- gazetteer/polygon.off -/
def g34 : List Nat := [0, 1, 2]
def c34 : SCode :=
  .seq (.region g34 [⟨some 1, none, .box 24 (.s 0), []⟩, ⟨some 2, none, .move (.c (.bool false)), []⟩]) (.seq (.region g34 [⟨some 3, none, .load 2 true (.s 1), []⟩, ⟨some 4, none, .call (.c (.fn 29)) [.s 3], []⟩, ⟨some 5, none, .not (.s 4), []⟩, ⟨some 2, none, .move (.s 5), []⟩]) .ret)
def r34 : List SRes := [.slot 2]
def k34 : List (Nat × Nat × SCode × Nat) := []
theorem e34 : cFunc Try.prog 34 g34 [] [] k34 = some (c34, r34, 6) := by kernel_rfl
theorem q34 : RgOk Try.prog k34 := RgOk.nil
def offS : Eng.Spec where
  X := Pt
  args := fun x => .cons (ptE x) .nil
  pre := fun _ => True
  res := fun x => .bool (!onB x)
  inst := fun
    | .cons a .nil => ptD a
    | _ => none
theorem off_ok : offS.Ok Try.prog 34 := by
  refine Eng.Spec.ok_of e34 q34 (fun _ => [(29, .p On)]) (fun _ _ => TabOk.p On_ok TabOk.nil) ?_
  rintro ⟨x, y⟩ _
  refine ⟨trivial, ?_⟩
  repeat' (first | refine And.intro ?_ ?_ | exact trivial | exact rfl)
/-- gazetteer/geom.on -/
def g52 : List Nat := [0, 6, 8, 5, 4, 13, 7, 2]
def c52 : SCode :=
  .seq (.region g52 [⟨some 2, none, .move (.c (.bool false)), []⟩]) (.seq (.seq (.region g52 [⟨some 5, none, .move (.s 0), []⟩, ⟨some 6, none, .lenSl (.s 5), []⟩, ⟨some 7, none, .move (.c (.int .i64 0)), []⟩]) (.block 0 (.loop 0 [8, 9, 10, 4, 11, 12, 13, 2, 14, 7] (.seq (.region g52 [⟨some 8, none, .bin (.lss) (.s 7) (.s 6), []⟩]) (.seq (.cond (.s 8) .skip (.exit 0)) (.seq (.block 1 (.seq (.region g52 [⟨some 9, none, .idxSl 2 (.s 5) (.s 7), []⟩, ⟨some 10, none, .load 2 true (.s 9), []⟩, ⟨some 4, none, .alloc 24 (.cons (.int .i64 0) (.cons (.int .i64 0) .nil)), []⟩, ⟨none, none, .store 2 (.s 4) (.s 10), []⟩]) (.seq (.region g52 [⟨some 11, none, .load 2 true (.s 4), []⟩, ⟨some 12, none, .call (.c (.fn 29)) [.s 11], []⟩, ⟨some 13, none, .not (.s 12), []⟩]) (.cond (.s 13) (.seq (.region g52 [⟨some 2, none, .move (.c (.bool false)), []⟩]) .ret) .skip)))) (.region g52 [⟨some 14, none, .bin (.add) (.s 7) (.c (.int .i64 1)), []⟩, ⟨some 7, none, .move (.s 14), []⟩]))))))) (.seq (.region g52 [⟨some 2, none, .move (.c (.bool true)), []⟩]) .ret))
def r52 : List SRes := [.slot 2]
def k52 : List (Nat × Nat × SCode × Nat) := []
theorem e52 : cFunc Try.prog 52 g52 [] [] k52 = some (c52, r52, 15) := by kernel_rfl
theorem q52 : RgOk Try.prog k52 := RgOk.nil
structure Pts where
  n : Nat
  p : Nat → Pt
def onAll (x : Pts) : Bool := decide (∀ i, i < x.n → onB (x.p i) = true)
def on_ : Eng.Spec where
  X := Pts
  args := fun x => .cons (.slice 2 x.n fun i => ptL (x.p i)) .nil
  pre := fun x => (x.n : Int) ≤ 9223372036854775806
  res := fun x => .bool (onAll x)
  inst := fun
    | .cons s .nil => match asSlice s with
      | some (_, n, enc) => some ⟨n, fun i => (intAt (nthE (enc i) 0), intAt (nthE (enc i) 1))⟩
      | none => none
    | _ => none
theorem on_ok : on_.Ok Try.prog 52 := by
  refine Eng.Spec.ok_of e52 q52 (fun _ => [(29, .p On)]) (fun _ _ => TabOk.p On_ok TabOk.nil) ?_
  intro (x : Pts) hn
  replace hn : (x.n : Int) ≤ 9223372036854775806 := hn
  refine ⟨trivial, ?_⟩
  refine ⟨⟨Nat, fun i => i ≤ x.n ∧ ∀ j, j < i → onB (x.p j) = true, fun i => [(7, .int .i64 (i : Int))], fun _ => [], fun i => x.n - i⟩, 0, ⟨Nat.zero_le _, fun j hj => by omega⟩, ?_, ?_⟩
  · repeat' (first | refine And.intro ?_ ?_ | exact trivial | exact rfl | exact fun (j : Nat) (hj : j < _) => Or.inl (sub_ptN _ _ _ _))
  rintro (i : Nat) ⟨hi, hall⟩
  replace hi : i ≤ x.n := hi
  replace hall : ∀ j, j < i → onB (x.p j) = true := hall
  refine ⟨fun hlt => ?_, fun hge => ?_⟩
  · have hlt' : i < x.n := by simpa using hlt
    repeat' (first | exact trivial | refine And.intro ?_ ?_ | exact rfl | omega | intro hb)
    · have hb' : onB (x.p i) = false := by simpa using hb
      have e : onAll x = false := decide_eq_false fun h => by rw [h i hlt'] at hb'; cases hb'
      show _ = _
      exact e.symm
    · have hb' : onB (x.p i) = true := by simpa using hb
      refine ⟨i + 1, ⟨by omega, fun j hj => ?_⟩, ?_, ?_⟩
      · by_cases e : j = i
        · subst e; exact hb'
        · exact hall j (by omega)
      · repeat' (first | refine And.intro ?_ ?_ | exact trivial | exact rfl | exact fun (j : Nat) (hj : j < _) => Or.inl (sub_ptN _ _ _ _))
      · show x.n - (i + 1) < x.n - i
        omega
  · have hge' : ¬ i < x.n := by simpa using hge
    have e : onAll x = true := decide_eq_true fun j hj => hall j (by omega)
    show _ = _
    exact e.symm
def sl1 (l : SV) (i : Nat) : Pt := (intAt (nthE (nthE l i) 0), intAt (nthE (nthE l i) 1))
theorem onAll2 (p q : Pt) : onAll ⟨2, sl1 (.cons (ptL p) (.cons (ptL q) .nil))⟩ = (onB p && onB q) := by
  unfold onAll
  rw [Bool.eq_iff_iff]
  simp only [decide_eq_true_eq, Bool.and_eq_true]
  constructor
  · exact fun h => ⟨h 0 (by decide), h 1 (by decide)⟩
  · rintro ⟨h1, h2⟩ i hi
    match i, hi with
    | 0, _ => exact h1
    | 1, _ => exact h2
theorem onAll3 (p q r : Pt) : onAll ⟨3, sl1 (.cons (ptL p) (.cons (ptL q) (.cons (ptL r) .nil)))⟩ = (onB p && onB q && onB r) := by
  unfold onAll
  rw [Bool.eq_iff_iff]
  simp only [decide_eq_true_eq, Bool.and_eq_true]
  constructor
  · exact fun h => ⟨⟨h 0 (by decide), h 1 (by decide)⟩, h 2 (by decide)⟩
  · rintro ⟨⟨h1, h2⟩, h3⟩ i hi
    match i, hi with
    | 0, _ => exact h1
    | 1, _ => exact h2
    | 2, _ => exact h3
theorem onAll4 (p q r s : Pt) : onAll ⟨4, sl1 (.cons (ptL p) (.cons (ptL q) (.cons (ptL r) (.cons (ptL s) .nil))))⟩ = (onB p && onB q && onB r && onB s) := by
  unfold onAll
  rw [Bool.eq_iff_iff]
  simp only [decide_eq_true_eq, Bool.and_eq_true]
  constructor
  · exact fun h => ⟨⟨⟨h 0 (by decide), h 1 (by decide)⟩, h 2 (by decide)⟩, h 3 (by decide)⟩
  · rintro ⟨⟨⟨h1, h2⟩, h3⟩, h4⟩ i hi
    match i, hi with
    | 0, _ => exact h1
    | 1, _ => exact h2
    | 2, _ => exact h3
    | 3, _ => exact h4
/-- gazetteer/geom.from -/
def g55 : List Nat := [0, 1, 3, 2, 4]
def c55 : SCode :=
  .seq (.region g55 [⟨some 2, none, .box 24 (.s 0), []⟩, ⟨some 3, none, .box 24 (.s 1), []⟩, ⟨some 4, none, .alloc 61 (.cons (.int .i64 0) (.cons (.int .i64 0) .nil)), []⟩]) (.seq (.region g55 [⟨some 5, none, .fldA 0 (.s 3), []⟩, ⟨some 6, none, .load 1 false (.s 5), []⟩, ⟨some 7, none, .fldA 0 (.s 2), []⟩, ⟨some 8, none, .load 1 false (.s 7), []⟩, ⟨some 9, none, .bin (.sub) (.s 6) (.s 8), []⟩, ⟨some 10, none, .fldA 1 (.s 3), []⟩, ⟨some 11, none, .load 1 false (.s 10), []⟩, ⟨some 12, none, .fldA 1 (.s 2), []⟩, ⟨some 13, none, .load 1 false (.s 12), []⟩, ⟨some 14, none, .bin (.sub) (.s 11) (.s 13), []⟩, ⟨some 15, none, .build (.cons (.int .i64 0) (.cons (.int .i64 0) .nil)) [(0, 1, .s 9), (1, 1, .s 14)], []⟩, ⟨none, none, .store 2 (.s 4) (.s 15), []⟩]) .ret)
def r55 : List SRes := [.cell 4 2 true]
def k55 : List (Nat × Nat × SCode × Nat) := []
theorem e55 : cFunc Try.prog 55 g55 [] [] k55 = some (c55, r55, 16) := by kernel_rfl
theorem q55 : RgOk Try.prog k55 := RgOk.nil
def from_ : Eng.Spec where
  X := Pt × Pt
  args := fun x => .cons (ptE x.1) (.cons (ptE x.2) .nil)
  pre := fun x => onB x.1 = true ∧ onB x.2 = true
  res := fun x => ptE (vec x.1 x.2)
  inst := two
theorem from_ok : from_.Ok Try.prog 55 := by
  refine Eng.Spec.ok_of e55 q55 (fun _ => []) (fun _ _ => TabOk.nil) ?_
  intro (x : Pt × Pt) ⟨h1, h2⟩
  replace h1 := onB_iff.1 h1
  replace h2 := onB_iff.1 h2
  refine ⟨trivial, ?_⟩
  repeat' (first | refine And.intro ?_ ?_ | exact trivial | exact rfl | omega | (dsimp only; omega))
/-- (gazetteer/geom.vector).along -/
def g56 : List Nat := [0, 1, 2, 3, 4]
def c56 : SCode :=
  .seq (.region g56 [⟨some 2, none, .box 61 (.s 0), []⟩, ⟨some 3, none, .box 61 (.s 1), []⟩, ⟨some 4, none, .move (.c (.int .i64 0)), []⟩]) (.seq (.region g56 [⟨some 5, none, .fldA 0 (.s 2), []⟩, ⟨some 6, none, .load 1 false (.s 5), []⟩, ⟨some 7, none, .fldA 0 (.s 3), []⟩, ⟨some 8, none, .load 1 false (.s 7), []⟩, ⟨some 9, none, .bin (.mul) (.s 6) (.s 8), []⟩, ⟨some 10, none, .fldA 1 (.s 2), []⟩, ⟨some 11, none, .load 1 false (.s 10), []⟩, ⟨some 12, none, .fldA 1 (.s 3), []⟩, ⟨some 13, none, .load 1 false (.s 12), []⟩, ⟨some 14, none, .bin (.mul) (.s 11) (.s 13), []⟩, ⟨some 15, none, .bin (.add) (.s 9) (.s 14), []⟩, ⟨some 4, none, .move (.s 15), []⟩]) .ret)
def r56 : List SRes := [.slot 4]
def k56 : List (Nat × Nat × SCode × Nat) := []
theorem e56 : cFunc Try.prog 56 g56 [] [] k56 = some (c56, r56, 16) := by kernel_rfl
theorem q56 : RgOk Try.prog k56 := RgOk.nil
def along : Eng.Spec where
  X := Pt × Pt
  args := fun x => .cons (ptE x.1) (.cons (ptE x.2) .nil)
  pre := fun x => bd 32767 x.1 ∧ bd 32767 x.2
  res := fun x => .int .i64 (dot x.1 x.2)
  inst := two
theorem along_ok : along.Ok Try.prog 56 := by
  refine Eng.Spec.ok_of e56 q56 (fun _ => []) (fun _ _ => TabOk.nil) ?_
  intro (x : Pt × Pt) ⟨h1, h2⟩
  have k := dot_bd h1 h2
  refine ⟨trivial, ?_⟩
  repeat' (first | refine And.intro ?_ ?_ | exact trivial | exact rfl | omega | (dsimp only; omega))
/-- (gazetteer/geom.vector).area -/
def g71 : List Nat := [0, 1, 2, 3, 4]
def c71 : SCode :=
  .seq (.region g71 [⟨some 2, none, .box 61 (.s 0), []⟩, ⟨some 3, none, .box 61 (.s 1), []⟩, ⟨some 4, none, .move (.c (.int .i64 0)), []⟩]) (.seq (.region g71 [⟨some 5, none, .fldA 0 (.s 2), []⟩, ⟨some 6, none, .load 1 false (.s 5), []⟩, ⟨some 7, none, .fldA 1 (.s 3), []⟩, ⟨some 8, none, .load 1 false (.s 7), []⟩, ⟨some 9, none, .bin (.mul) (.s 6) (.s 8), []⟩, ⟨some 10, none, .fldA 1 (.s 2), []⟩, ⟨some 11, none, .load 1 false (.s 10), []⟩, ⟨some 12, none, .fldA 0 (.s 3), []⟩, ⟨some 13, none, .load 1 false (.s 12), []⟩, ⟨some 14, none, .bin (.mul) (.s 11) (.s 13), []⟩, ⟨some 15, none, .bin (.sub) (.s 9) (.s 14), []⟩, ⟨some 4, none, .move (.s 15), []⟩]) .ret)
def r71 : List SRes := [.slot 4]
def k71 : List (Nat × Nat × SCode × Nat) := []
theorem e71 : cFunc Try.prog 71 g71 [] [] k71 = some (c71, r71, 16) := by kernel_rfl
theorem q71 : RgOk Try.prog k71 := RgOk.nil
def area : Eng.Spec where
  X := Pt × Pt
  args := fun x => .cons (ptE x.1) (.cons (ptE x.2) .nil)
  pre := fun x => bd 32767 x.1 ∧ bd 32767 x.2
  res := fun x => .int .i64 (crs x.1 x.2)
  inst := two
theorem area_ok : area.Ok Try.prog 71 := by
  refine Eng.Spec.ok_of e71 q71 (fun _ => []) (fun _ _ => TabOk.nil) ?_
  intro (x : Pt × Pt) ⟨h1, h2⟩
  have k := crs_bd h1 h2
  refine ⟨trivial, ?_⟩
  repeat' (first | refine And.intro ?_ ?_ | exact trivial | exact rfl | omega | (dsimp only; omega))
def segL (a b : Pt) : SV := .cons (.int .i64 a.1) (.cons (.int .i64 a.2) (.cons (.int .i64 b.1) (.cons (.int .i64 b.2) (.cons (.int .i64 (b.1 - a.1)) (.cons (.int .i64 (b.2 - a.2)) .nil)))))
def segD : SV → Option (Pt × Pt)
  | .agg (.cons (.int _ a) (.cons (.int _ b) (.cons (.int _ c) (.cons (.int _ d) _)))) => some ((a, b), (c, d))
  | _ => none
/-- gazetteer/geom.open -/
def g53 : List Nat := [0, 1, 2, 3, 4]
def c53 : SCode :=
  .seq (.region g53 [⟨some 2, none, .box 24 (.s 0), []⟩, ⟨some 3, none, .box 24 (.s 1), []⟩, ⟨some 4, none, .alloc 63 (.cons (.int .i64 0) (.cons (.int .i64 0) (.cons (.int .i64 0) (.cons (.int .i64 0) (.cons (.int .i64 0) (.cons (.int .i64 0) .nil)))))), []⟩]) (.seq (.drawn g53 (.pure 0 ⟨some 5, none, .load 2 true (.s 2), []⟩ (.pure 1 ⟨some 6, none, .load 2 true (.s 3), []⟩ (.pure 2 ⟨some 7, none, .build (.cons (.int .i64 0) (.cons (.int .i64 0) (.cons (.int .i64 0) (.cons (.int .i64 0) .nil)))) [(0, 2, .s 5), (2, 2, .s 6)], []⟩ (.pure 3 ⟨some 8, none, .load 2 true (.s 2), []⟩ (.pure 4 ⟨some 9, none, .load 2 true (.s 3), []⟩ (.pure 5 ⟨some 10, none, .call (.c (.fn 55)) [.s 8, .s 9], []⟩ (.pure 6 ⟨some 11, none, .build (.cons (.int .i64 0) (.cons (.int .i64 0) (.cons (.int .i64 0) (.cons (.int .i64 0) (.cons (.int .i64 0) (.cons (.int .i64 0) .nil)))))) [(0, 4, .s 7), (4, 2, .s 10)], []⟩ (.eff 7 ⟨none, none, .store 6 (.s 4) (.s 11), []⟩ [] .done .none))))))))) .ret)
def r53 : List SRes := [.cell 4 6 true]
def k53 : List (Nat × Nat × SCode × Nat) := []
theorem e53 : cFunc Try.prog 53 g53 [] [] k53 = some (c53, r53, 12) := by kernel_rfl
theorem q53 : RgOk Try.prog k53 := RgOk.nil
def open_ : Eng.Spec where
  X := Pt × Pt
  args := fun x => .cons (ptE x.1) (.cons (ptE x.2) .nil)
  pre := fun x => onB x.1 = true ∧ onB x.2 = true
  res := fun x => .agg (segL x.1 x.2)
  inst := two
theorem open_ok : open_.Ok Try.prog 53 := by
  refine Eng.Spec.ok_of e53 q53 (fun _ => [(55, .p from_)]) (fun _ _ => TabOk.p from_ok TabOk.nil) ?_
  intro (x : Pt × Pt) ⟨h1, h2⟩
  refine ⟨trivial, ?_⟩
  repeat' (first | exact h1 | exact h2 | refine And.intro ?_ ?_ | exact trivial | exact rfl)
/-- (gazetteer/geom.segment).side -/
def g54 : List Nat := [0, 1, 2, 3, 14, 5, 17, 4]
def c54 : SCode :=
  .seq (.region g54 [⟨some 2, none, .box 63 (.s 0), []⟩, ⟨some 3, none, .box 24 (.s 1), []⟩, ⟨some 4, none, .move (.c (.int .i64 0)), []⟩]) (.seq (.drawn g54 (.pure 0 ⟨some 6, none, .fldA 4 (.s 2), []⟩ (.pure 1 ⟨some 7, none, .load 2 true (.s 6), []⟩ (.pure 2 ⟨some 8, none, .fldA 0 (.s 2), []⟩ (.pure 3 ⟨some 9, none, .fldA 0 (.s 8), []⟩ (.pure 4 ⟨some 10, none, .load 2 true (.s 9), []⟩ (.pure 5 ⟨some 11, none, .load 2 true (.s 3), []⟩ (.pure 6 ⟨some 12, none, .call (.c (.fn 55)) [.s 10, .s 11], []⟩ (.pure 7 ⟨some 13, none, .call (.c (.fn 71)) [.s 7, .s 12], []⟩ (.pure 8 ⟨some 5, none, .move (.s 13), []⟩ .done)))))))))) (.seq (.block 0 (.seq (.region g54 [⟨some 15, none, .move (.s 5), []⟩, ⟨some 16, none, .bin (.gtr) (.s 15) (.c (.int .i64 0)), []⟩, ⟨some 14, none, .move (.s 16), []⟩]) (.cond (.s 14) (.seq (.region g54 [⟨some 4, none, .move (.c (.int .i64 1)), []⟩]) .ret) (.seq (.region g54 [⟨some 18, none, .move (.s 5), []⟩, ⟨some 19, none, .bin (.lss) (.s 18) (.c (.int .i64 0)), []⟩, ⟨some 17, none, .move (.s 19), []⟩]) (.cond (.s 17) (.seq (.region g54 [⟨some 4, none, .move (.c (.int .i64 (-1))), []⟩]) .ret) .skip))))) (.seq (.region g54 [⟨some 4, none, .move (.c (.int .i64 0)), []⟩]) .ret)))
def r54 : List SRes := [.slot 4]
def k54 : List (Nat × Nat × SCode × Nat) := []
theorem e54 : cFunc Try.prog 54 g54 [] [] k54 = some (c54, r54, 20) := by kernel_rfl
theorem q54 : RgOk Try.prog k54 := RgOk.nil
def side : Eng.Spec where
  X := (Pt × Pt) × Pt
  args := fun x => .cons (.agg (segL x.1.1 x.1.2)) (.cons (ptE x.2) .nil)
  pre := fun x => onB x.1.1 = true ∧ onB x.1.2 = true ∧ onB x.2 = true
  res := fun x => .int .i64 (sgn (ar x.1.1 x.1.2 x.2))
  inst := fun
    | .cons a (.cons b .nil) => match segD a, ptD b with
      | some p, some q => some (p, q)
      | _, _ => none
    | _ => none
theorem side_ok : side.Ok Try.prog 54 := by
  refine Eng.Spec.ok_of e54 q54 (fun _ => [(55, .p from_), (71, .p area)]) (fun _ _ => TabOk.p from_ok (TabOk.p area_ok TabOk.nil)) ?_
  intro (x : (Pt × Pt) × Pt) ⟨h1, h2, h3⟩
  have b1 := bd_vec h1 h2
  have b2 := bd_vec h1 h3
  refine ⟨trivial, ?_⟩
  repeat' (first | exact h1 | exact h2 | exact h3 | exact b1 | exact b2 | refine And.intro ?_ ?_ | exact trivial | exact rfl)
  · refine fun (h : decide (0 < ar x.1.1 x.1.2 x.2) = true) => ?_
    have e : 1 = sgn (ar x.1.1 x.1.2 x.2) := by unfold sgn; rw [if_pos (of_decide_eq_true h)]
    repeat' (first | exact e | refine And.intro ?_ ?_ | exact trivial | exact rfl)
  refine fun (h : decide (0 < ar x.1.1 x.1.2 x.2) = false) => ?_
  repeat' (first | refine And.intro ?_ ?_ | exact trivial | exact rfl)
  · refine fun (h2 : decide (ar x.1.1 x.1.2 x.2 < 0) = true) => ?_
    have e : -1 = sgn (ar x.1.1 x.1.2 x.2) := by unfold sgn; rw [if_neg (of_decide_eq_false h), if_pos (of_decide_eq_true h2)]
    repeat' (first | exact e | refine And.intro ?_ ?_ | exact trivial | exact rfl)
  refine fun (h2 : decide (ar x.1.1 x.1.2 x.2 < 0) = false) => ?_
  have e : 0 = sgn (ar x.1.1 x.1.2 x.2) := by unfold sgn; rw [if_neg (of_decide_eq_false h), if_neg (of_decide_eq_false h2)]
  repeat' (first | exact e | refine And.intro ?_ ?_ | exact trivial | exact rfl)
/-- gazetteer/geom.Turn -/
def g59 : List Nat := [0, 1, 2, 12, 3, 4, 5, 6]
def c59 : SCode :=
  .seq (.region g59 [⟨some 3, none, .box 24 (.s 0), []⟩, ⟨some 4, none, .box 24 (.s 1), []⟩, ⟨some 5, none, .box 24 (.s 2), []⟩, ⟨some 6, none, .move (.c (.int .i64 0)), []⟩]) (.seq (.seq (.region g59 [⟨some 7, none, .load 2 true (.s 3), []⟩, ⟨some 8, none, .load 2 true (.s 4), []⟩, ⟨some 9, none, .load 2 true (.s 5), []⟩, ⟨some 10, none, .buildSl 24 2 3 (.cons (.int .i64 0) (.cons (.int .i64 0) .nil)) [(0, 2, .s 7), (2, 2, .s 8), (4, 2, .s 9)], []⟩, ⟨some 11, none, .call (.c (.fn 52)) [.s 10], []⟩, ⟨some 12, none, .not (.s 11), []⟩]) (.cond (.s 12) (.seq (.region g59 [⟨some 6, none, .move (.c (.int .i64 0)), []⟩]) .ret) .skip)) (.seq (.drawn g59 (.pure 0 ⟨some 13, none, .load 2 true (.s 3), []⟩ (.pure 1 ⟨some 14, none, .load 2 true (.s 4), []⟩ (.pure 2 ⟨some 15, none, .call (.c (.fn 53)) [.s 13, .s 14], []⟩ (.pure 3 ⟨some 16, none, .load 2 true (.s 5), []⟩ (.pure 4 ⟨some 17, none, .call (.c (.fn 54)) [.s 15, .s 16], []⟩ (.pure 5 ⟨some 6, none, .move (.s 17), []⟩ .done))))))) .ret))
def r59 : List SRes := [.slot 6]
def k59 : List (Nat × Nat × SCode × Nat) := []
theorem e59 : cFunc Try.prog 59 g59 [] [] k59 = some (c59, r59, 18) := by kernel_rfl
theorem q59 : RgOk Try.prog k59 := RgOk.nil
def turnV (a b c : Pt) : Int := if onB a = true ∧ onB b = true ∧ onB c = true then sgn (ar a b c) else 0
def three : SV → Option (Pt × Pt × Pt)
  | .cons a (.cons b (.cons c .nil)) => match ptD a, ptD b, ptD c with
    | some p, some q, some r => some (p, q, r)
    | _, _, _ => none
  | _ => none
def Turn : Eng.Spec where
  X := Pt × Pt × Pt
  args := fun x => .cons (ptE x.1) (.cons (ptE x.2.1) (.cons (ptE x.2.2) .nil))
  pre := fun _ => True
  res := fun x => .int .i64 (turnV x.1 x.2.1 x.2.2)
  inst := three
theorem Turn_ok : Turn.Ok Try.prog 59 := by
  refine Eng.Spec.ok_of e59 q59 (fun _ => [(52, .p on_), (53, .p open_), (54, .p side)]) (fun _ _ => TabOk.p on_ok (TabOk.p open_ok (TabOk.p side_ok TabOk.nil))) ?_
  intro (x : Pt × Pt × Pt) _
  refine ⟨trivial, ?_⟩
  repeat' (first | refine And.intro ?_ ?_ | exact trivial | exact rfl)
  · show (3 : Int) ≤ _
    omega
  · refine fun (h : (!onAll ⟨3, sl1 (.cons (ptL x.1) (.cons (ptL x.2.1) (.cons (ptL x.2.2) .nil)))⟩) = true) => ?_
    rw [onAll3] at h
    have e : 0 = turnV x.1 x.2.1 x.2.2 := by
      unfold turnV
      rw [if_neg]
      rintro ⟨h1, h2, h3⟩
      rw [h1, h2, h3] at h
      cases h
    repeat' (first | exact e | refine And.intro ?_ ?_ | exact trivial | exact rfl)
  refine fun (h : (!onAll ⟨3, sl1 (.cons (ptL x.1) (.cons (ptL x.2.1) (.cons (ptL x.2.2) .nil)))⟩) = false) => ?_
  rw [onAll3] at h
  simp only [Bool.not_eq_false', Bool.and_eq_true] at h
  have h1 := h.1.1
  have h2 := h.1.2
  have h3 := h.2
  have e : sgn (ar x.1 x.2.1 x.2.2) = turnV x.1 x.2.1 x.2.2 := by
    unfold turnV
    rw [if_pos ⟨h1, h2, h3⟩]
  repeat' (first | exact h1 | exact h2 | exact h3 | exact e | refine And.intro ?_ ?_ | exact trivial | exact rfl)
/-- gazetteer/geom.Dist -/
def g68 : List Nat := [0, 1, 10, 2, 3, 5, 4]
def c68 : SCode :=
  .seq (.region g68 [⟨some 2, none, .box 24 (.s 0), []⟩, ⟨some 3, none, .box 24 (.s 1), []⟩, ⟨some 4, none, .move (.c (.int .i64 0)), []⟩]) (.seq (.seq (.region g68 [⟨some 6, none, .load 2 true (.s 2), []⟩, ⟨some 7, none, .load 2 true (.s 3), []⟩, ⟨some 8, none, .buildSl 24 2 2 (.cons (.int .i64 0) (.cons (.int .i64 0) .nil)) [(0, 2, .s 6), (2, 2, .s 7)], []⟩, ⟨some 9, none, .call (.c (.fn 52)) [.s 8], []⟩, ⟨some 10, none, .not (.s 9), []⟩]) (.cond (.s 10) (.seq (.region g68 [⟨some 4, none, .move (.c (.int .i64 0)), []⟩]) .ret) .skip)) (.seq (.region g68 [⟨some 11, none, .load 2 true (.s 2), []⟩, ⟨some 12, none, .load 2 true (.s 3), []⟩, ⟨some 13, none, .call (.c (.fn 55)) [.s 11, .s 12], []⟩, ⟨some 5, none, .alloc 61 (.cons (.int .i64 0) (.cons (.int .i64 0) .nil)), []⟩, ⟨none, none, .store 2 (.s 5) (.s 13), []⟩]) (.seq (.region g68 [⟨some 14, none, .load 2 true (.s 5), []⟩, ⟨some 15, none, .load 2 true (.s 5), []⟩, ⟨some 16, none, .call (.c (.fn 56)) [.s 14, .s 15], []⟩, ⟨some 4, none, .move (.s 16), []⟩]) .ret)))
def r68 : List SRes := [.slot 4]
def k68 : List (Nat × Nat × SCode × Nat) := []
theorem e68 : cFunc Try.prog 68 g68 [] [] k68 = some (c68, r68, 17) := by kernel_rfl
theorem q68 : RgOk Try.prog k68 := RgOk.nil
def sqd (p q : Pt) : Int := dot (vec p q) (vec p q)
def distV (p q : Pt) : Int := if onB p = true ∧ onB q = true then sqd p q else 0
def Dist : Eng.Spec where
  X := Pt × Pt
  args := fun x => .cons (ptE x.1) (.cons (ptE x.2) .nil)
  pre := fun _ => True
  res := fun x => .int .i64 (distV x.1 x.2)
  inst := two
theorem Dist_ok : Dist.Ok Try.prog 68 := by
  refine Eng.Spec.ok_of e68 q68 (fun _ => [(52, .p on_), (55, .p from_), (56, .p along)]) (fun _ _ => TabOk.p on_ok (TabOk.p from_ok (TabOk.p along_ok TabOk.nil))) ?_
  intro (x : Pt × Pt) _
  refine ⟨trivial, ?_⟩
  repeat' (first | refine And.intro ?_ ?_ | exact trivial | exact rfl)
  · show (2 : Int) ≤ _
    omega
  · refine fun (h : (!onAll ⟨2, sl1 (.cons (ptL x.1) (.cons (ptL x.2) .nil))⟩) = true) => ?_
    rw [onAll2] at h
    have e : 0 = distV x.1 x.2 := by
      unfold distV
      rw [if_neg]
      rintro ⟨h1, h2⟩
      rw [h1, h2] at h
      cases h
    repeat' (first | exact e | refine And.intro ?_ ?_ | exact trivial | exact rfl)
  refine fun (h : (!onAll ⟨2, sl1 (.cons (ptL x.1) (.cons (ptL x.2) .nil))⟩) = false) => ?_
  rw [onAll2] at h
  simp only [Bool.not_eq_false', Bool.and_eq_true] at h
  have h1 := h.1
  have h2 := h.2
  have b1 := bd_vec h1 h2
  have e : dot (vec x.1 x.2) (vec x.1 x.2) = distV x.1 x.2 := by
    unfold distV
    rw [if_pos ⟨h1, h2⟩]
    rfl
  repeat' (first | exact h1 | exact h2 | exact b1 | exact e | refine And.intro ?_ ?_ | exact trivial | exact rfl)
end G1
