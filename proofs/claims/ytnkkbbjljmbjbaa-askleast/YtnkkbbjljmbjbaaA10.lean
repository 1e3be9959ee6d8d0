/- A part of the proof: see the last text. -/
import Derived.Test.YtnkkbbjljmbjbaaA9
open Go Go.Eng Go.Proofs A0 A1 A2 A3 A4 A5 A6 A7 A8 A9
set_option maxRecDepth 100000
namespace A10
/-! ### Equal texts -/
structure T2 where
  a : Tx
  b : Tx
def eqT (x : T2) : Bool := decide (x.a.n = x.b.n ∧ ∀ j, j < x.a.n → x.a.s j = x.b.s j)
def texts : Eng.Spec where
  X := T2
  args := fun x => .cons (txE x.a.n x.a.s) (.cons (txE x.b.n x.b.s) .nil)
  pre := fun x => (x.a.n : Int) ≤ 9223372036854775806
  res := fun x => .bool (eqT x)
  inst := fun
    | .cons (.slice _ n e) (.cons (.slice _ m f) .nil) => some ⟨⟨n, fun j => hdS (e j)⟩, ⟨m, fun j => hdS (f j)⟩⟩
    | _ => none
theorem eqT_n {x : T2} (h : (!decide ((x.a.n : Int) = (x.b.n : Int))) = true) : false = eqT x := by
  refine (decide_eq_false fun hp => ?_).symm
  rw [hp.1] at h
  simp at h
theorem eqT_f {x : T2} {j : Nat} (hj : j < x.a.n) (h : (!decide (x.a.s j = x.b.s j)) = true) : false = eqT x := by
  refine (decide_eq_false fun hp => ?_).symm
  rw [hp.2 j hj] at h
  simp at h
theorem eqT_t {x : T2} (hn : x.a.n = x.b.n) (h : ∀ j, j < x.a.n → x.a.s j = x.b.s j) : true = eqT x := (decide_eq_true ⟨hn, h⟩).symm
theorem all_next {x : T2} {i : Nat} (h : ∀ j, j < i → x.a.s j = x.b.s j) (he : (!decide (x.a.s i = x.b.s i)) = false) : ∀ j, j < i + 1 → x.a.s j = x.b.s j := by
  intro j hj
  by_cases e : j = i
  · subst e
    simpa using he
  · exact h j (by omega)
/-- gazetteer/gazetteerref38.Texts -/
def g19 : List Nat := [10, 14, 0, 1, 25, 5, 4]
def c19 : SCode :=
  .seq (.region g19 [⟨some 4, none, .move (.c (.bool false)), []⟩]) (.seq (.seq (.region g19 [⟨some 6, none, .move (.s 0), []⟩, ⟨some 7, none, .lenSl (.s 6), []⟩, ⟨some 8, none, .move (.s 1), []⟩, ⟨some 9, none, .lenSl (.s 8), []⟩, ⟨some 10, none, .bin (.neq) (.s 7) (.s 9), []⟩]) (.cond (.s 10) (.seq (.region g19 [⟨some 4, none, .move (.c (.bool false)), []⟩]) .ret) .skip)) (.seq (.seq (.region g19 [⟨some 5, none, .move (.c (.int .i64 0)), []⟩]) (.block 0 (.loop 0 [11, 12, 13, 14, 17, 18, 19, 20, 21, 22, 23, 24, 25, 4, 15, 16, 5] (.seq (.seq (.region g19 [⟨some 11, none, .move (.s 5), []⟩, ⟨some 12, none, .move (.s 0), []⟩, ⟨some 13, none, .lenSl (.s 12), []⟩, ⟨some 14, none, .bin (.lss) (.s 11) (.s 13), []⟩]) (.cond (.s 14) .skip (.exit 0))) (.seq (.block 1 (.seq (.drawn g19 (.pure 0 ⟨some 17, none, .move (.s 0), []⟩ (.pure 1 ⟨some 18, none, .move (.s 5), []⟩ (.pure 2 ⟨some 19, none, .idxSl 1 (.s 17) (.s 18), []⟩ (.pure 3 ⟨some 20, none, .load 1 false (.s 19), []⟩ (.pure 4 ⟨some 21, none, .move (.s 1), []⟩ (.pure 5 ⟨some 22, none, .move (.s 5), []⟩ (.pure 6 ⟨some 23, none, .idxSl 1 (.s 21) (.s 22), []⟩ (.pure 7 ⟨some 24, none, .load 1 false (.s 23), []⟩ (.pure 8 ⟨some 25, none, .bin (.neq) (.s 20) (.s 24), []⟩ .done)))))))))) (.cond (.s 25) (.seq (.region g19 [⟨some 4, none, .move (.c (.bool false)), []⟩]) .ret) .skip))) (.region g19 [⟨some 15, none, .move (.s 5), []⟩, ⟨some 16, none, .bin (.add) (.s 15) (.c (.int .i64 1)), []⟩, ⟨some 5, none, .move (.s 16), []⟩])))))) (.seq (.region g19 [⟨some 4, none, .move (.c (.bool true)), []⟩]) .ret)))
def r19 : List SRes := [.slot 4]
def k19 : List (Nat × Nat × SCode × Nat) := []
theorem e19 : cFunc Try.prog 19 g19 [] [] k19 = some (c19, r19, 26) := by kernel_rfl
theorem q19 : RgOk Try.prog k19 := RgOk.nil
theorem texts_ok : texts.Ok Try.prog 19 := by
  refine Eng.Spec.ok_of e19 q19 (fun _ => []) (fun _ _ => TabOk.nil) ?_
  rintro ⟨a, b⟩ hn
  replace hn : (a.n : Int) ≤ 9223372036854775806 := hn
  refine ⟨trivial, ?_⟩
  repeat' (first | refine And.intro ?_ ?_ | exact trivial | exact rfl)
  · refine fun (h : (!decide ((a.n : Int) = (b.n : Int))) = true) => ?_
    repeat' (first | refine And.intro ?_ ?_ | exact trivial | exact rfl)
    exact eqT_n (x := ⟨a, b⟩) h
  · refine fun (h : (!decide ((a.n : Int) = (b.n : Int))) = false) => ?_
    have hnn : a.n = b.n := by simp at h; omega
    repeat' (first | refine And.intro ?_ ?_ | exact trivial | exact rfl)
    refine ⟨⟨Nat, fun i => i ≤ a.n ∧ ∀ j, j < i → a.s j = b.s j, fun i => [(5, .int .i64 (i : Int))], fun _ => [], fun i => a.n - i⟩, 0, ⟨Nat.zero_le _, fun j hj => absurd hj (Nat.not_lt_zero j)⟩, ?_, ?_⟩
    · repeat' (first | refine And.intro ?_ ?_ | exact trivial | exact rfl | exact fun (j : Nat) (hj : j < _) => Or.inl (sub_strN _ _ _ _) | exact fun (j : Nat) (hj : j < _) => Or.inl (sub_fx _ _ _ _ rfl hj))
    rintro (i : Nat) ⟨hi, hall⟩
    replace hi : i ≤ a.n := hi
    replace hall : ∀ j, j < i → a.s j = b.s j := hall
    refine And.intro (fun hb => ?_) (fun hb => ?_)
    · have hil : i < a.n := by have h1 : (i : Int) < (a.n : Int) := of_decide_eq_true hb; omega
      repeat' (first | refine And.intro ?_ ?_ | exact trivial | exact rfl | exact fun (j : Nat) (hj : j < _) => Or.inl (sub_strN _ _ _ _) | exact fun (j : Nat) (hj : j < _) => Or.inl (sub_fx _ _ _ _ rfl hj) | omega | (dsimp only; omega))
      · refine fun (h : (!decide (a.s i = b.s i)) = true) => ?_
        repeat' (first | refine And.intro ?_ ?_ | exact trivial | exact rfl)
        exact eqT_f (x := ⟨a, b⟩) hil h
      · refine fun (h : (!decide (a.s i = b.s i)) = false) => ?_
        repeat' (first | refine And.intro ?_ ?_ | exact trivial | exact rfl | omega | (dsimp only; omega))
        refine Exists.intro (i + 1) (And.intro ⟨hil, all_next (x := ⟨a, b⟩) hall h⟩ (And.intro ?_ ?_))
        · repeat' (first | refine And.intro ?_ ?_ | exact trivial | exact rfl | exact fun (j : Nat) (hj : j < _) => Or.inl (sub_strN _ _ _ _) | exact fun (j : Nat) (hj : j < _) => Or.inl (sub_fx _ _ _ _ rfl hj))
        · show a.n - (i + 1) < a.n - i
          omega
    · have hil : i = a.n := by have h1 : ¬ (i : Int) < (a.n : Int) := of_decide_eq_false hb; omega
      repeat' (first | refine And.intro ?_ ?_ | exact trivial | exact rfl | exact fun (j : Nat) (hj : j < _) => Or.inl (sub_strN _ _ _ _) | exact fun (j : Nat) (hj : j < _) => Or.inl (sub_fx _ _ _ _ rfl hj))
      exact eqT_t (x := ⟨a, b⟩) hnn (by rw [← hil]; exact hall)
/-! ### slices.Equal -/
def equalS : Eng.Spec := texts
/-- slices.Equal[[]string,string] -/
def g25 : List Nat := [10, 12, 14, 0, 1, 5, 24, 13, 4]
def c25 : SCode :=
  .seq (.region g25 [⟨some 4, none, .move (.c (.bool false)), []⟩]) (.seq (.seq (.region g25 [⟨some 6, none, .move (.s 0), []⟩, ⟨some 7, none, .lenSl (.s 6), []⟩, ⟨some 8, none, .move (.s 1), []⟩, ⟨some 9, none, .lenSl (.s 8), []⟩, ⟨some 10, none, .bin (.neq) (.s 7) (.s 9), []⟩]) (.cond (.s 10) (.seq (.region g25 [⟨some 4, none, .move (.c (.bool false)), []⟩]) .ret) .skip)) (.seq (.seq (.region g25 [⟨some 11, none, .move (.s 0), []⟩, ⟨some 12, none, .lenSl (.s 11), []⟩, ⟨some 13, none, .move (.c (.int .i64 0)), []⟩]) (.block 0 (.loop 0 [14, 15, 5, 16, 17, 18, 19, 20, 21, 22, 23, 24, 4, 25, 13] (.seq (.region g25 [⟨some 14, none, .bin (.lss) (.s 13) (.s 12), []⟩]) (.seq (.cond (.s 14) .skip (.exit 0)) (.seq (.block 1 (.seq (.region g25 [⟨some 15, none, .move (.s 13), []⟩, ⟨some 5, none, .move (.s 15), []⟩]) (.seq (.drawn g25 (.pure 0 ⟨some 16, none, .move (.s 0), []⟩ (.pure 1 ⟨some 17, none, .move (.s 5), []⟩ (.pure 2 ⟨some 18, none, .idxSl 1 (.s 16) (.s 17), []⟩ (.pure 3 ⟨some 19, none, .load 1 false (.s 18), []⟩ (.pure 4 ⟨some 20, none, .move (.s 1), []⟩ (.pure 5 ⟨some 21, none, .move (.s 5), []⟩ (.pure 6 ⟨some 22, none, .idxSl 1 (.s 20) (.s 21), []⟩ (.pure 7 ⟨some 23, none, .load 1 false (.s 22), []⟩ (.pure 8 ⟨some 24, none, .bin (.neq) (.s 19) (.s 23), []⟩ .done)))))))))) (.cond (.s 24) (.seq (.region g25 [⟨some 4, none, .move (.c (.bool false)), []⟩]) .ret) .skip)))) (.region g25 [⟨some 25, none, .bin (.add) (.s 13) (.c (.int .i64 1)), []⟩, ⟨some 13, none, .move (.s 25), []⟩]))))))) (.seq (.region g25 [⟨some 4, none, .move (.c (.bool true)), []⟩]) .ret)))
def r25 : List SRes := [.slot 4]
def k25 : List (Nat × Nat × SCode × Nat) := []
theorem e25 : cFunc Try.prog 25 g25 [] [] k25 = some (c25, r25, 26) := by kernel_rfl
theorem q25 : RgOk Try.prog k25 := RgOk.nil
theorem equalS_ok : equalS.Ok Try.prog 25 := by
  refine Eng.Spec.ok_of e25 q25 (fun _ => []) (fun _ _ => TabOk.nil) ?_
  rintro ⟨a, b⟩ hn
  replace hn : (a.n : Int) ≤ 9223372036854775806 := hn
  refine ⟨trivial, ?_⟩
  repeat' (first | refine And.intro ?_ ?_ | exact trivial | exact rfl)
  · refine fun (h : (!decide ((a.n : Int) = (b.n : Int))) = true) => ?_
    repeat' (first | refine And.intro ?_ ?_ | exact trivial | exact rfl)
    exact eqT_n (x := ⟨a, b⟩) h
  · refine fun (h : (!decide ((a.n : Int) = (b.n : Int))) = false) => ?_
    have hnn : a.n = b.n := by simp at h; omega
    repeat' (first | refine And.intro ?_ ?_ | exact trivial | exact rfl)
    refine ⟨⟨Nat, fun i => i ≤ a.n ∧ ∀ j, j < i → a.s j = b.s j, fun i => [(13, .int .i64 (i : Int))], fun _ => [], fun i => a.n - i⟩, 0, ⟨Nat.zero_le _, fun j hj => absurd hj (Nat.not_lt_zero j)⟩, ?_, ?_⟩
    · repeat' (first | refine And.intro ?_ ?_ | exact trivial | exact rfl | exact fun (j : Nat) (hj : j < _) => Or.inl (sub_strN _ _ _ _) | exact fun (j : Nat) (hj : j < _) => Or.inl (sub_fx _ _ _ _ rfl hj))
    rintro (i : Nat) ⟨hi, hall⟩
    replace hi : i ≤ a.n := hi
    replace hall : ∀ j, j < i → a.s j = b.s j := hall
    refine And.intro (fun hb => ?_) (fun hb => ?_)
    · have hil : i < a.n := by have h1 : (i : Int) < (a.n : Int) := of_decide_eq_true hb; omega
      repeat' (first | refine And.intro ?_ ?_ | exact trivial | exact rfl | exact fun (j : Nat) (hj : j < _) => Or.inl (sub_strN _ _ _ _) | exact fun (j : Nat) (hj : j < _) => Or.inl (sub_fx _ _ _ _ rfl hj) | omega | (dsimp only; omega))
      · refine fun (h : (!decide (a.s i = b.s i)) = true) => ?_
        repeat' (first | refine And.intro ?_ ?_ | exact trivial | exact rfl)
        exact eqT_f (x := ⟨a, b⟩) hil h
      · refine fun (h : (!decide (a.s i = b.s i)) = false) => ?_
        repeat' (first | refine And.intro ?_ ?_ | exact trivial | exact rfl | omega | (dsimp only; omega))
        refine Exists.intro (i + 1) (And.intro ⟨hil, all_next (x := ⟨a, b⟩) hall h⟩ (And.intro ?_ ?_))
        · repeat' (first | refine And.intro ?_ ?_ | exact trivial | exact rfl | exact fun (j : Nat) (hj : j < _) => Or.inl (sub_strN _ _ _ _) | exact fun (j : Nat) (hj : j < _) => Or.inl (sub_fx _ _ _ _ rfl hj))
        · show a.n - (i + 1) < a.n - i
          omega
    · have hil : i = a.n := by have h1 : ¬ (i : Int) < (a.n : Int) := of_decide_eq_false hb; omega
      repeat' (first | refine And.intro ?_ ?_ | exact trivial | exact rfl | exact fun (j : Nat) (hj : j < _) => Or.inl (sub_strN _ _ _ _) | exact fun (j : Nat) (hj : j < _) => Or.inl (sub_fx _ _ _ _ rfl hj))
      exact eqT_t (x := ⟨a, b⟩) hnn (by rw [← hil]; exact hall)
/-! ### Few -/
def Few : Eng.MSpec where
  X := Fx
  Y := Bool
  args := fun F => .cons (fxE F) .nil
  pre := fun F => (F.n : Int) ≤ 9223372036854775806 ∧ ∀ i, i < F.n → (F.k i : Int) ≤ 9223372036854775806
  h0 := fun _ => []
  nx0 := 0
  post := fun _ _ => True
  res := fun _ y => .bool y
  h1 := fun _ _ => []
  nx1 := 0
/-- gazetteer/gazetteerref38.Few -/
def g8 : List Nat := [12, 36, 43, 54, 4, 3, 0, 2]
def c8 : SCode :=
  .seq (.region g8 [⟨some 2, none, .move (.c (.bool false)), []⟩]) (.seq (.seq (.region g8 [⟨some 3, none, .move (.c (.int .i64 0)), []⟩]) (.block 0 (.loop 0 [5, 6, 7, 8, 9, 10, 11, 12, 15, 16, 17, 18, 19, 20, 21, 22, 23, 24, 25, 26, 27, 28, 29, 30, 31, 32, 33, 34, 35, 36, 37, 38, 39, 40, 41, 42, 43, 46, 47, 48, 49, 50, 51, 52, 53, 54, 2, 44, 45, 4, 13, 14, 3] (.seq (.seq (.region g8 [⟨some 5, none, .move (.s 3), []⟩, ⟨some 6, none, .move (.s 0), []⟩, ⟨some 7, none, .lenSl (.s 6), []⟩, ⟨some 8, none, .bin (.lss) (.s 5) (.s 7), []⟩, ⟨some 9, none, .move (.s 8), []⟩, ⟨some 10, some (9, true), .move (.s 3), []⟩, ⟨some 11, some (9, true), .bin (.lss) (.s 10) (.c (.int .i64 12)), []⟩, ⟨some 12, none, .pick (.s 9) (.s 11) (.c (.bool false)), []⟩]) (.cond (.s 12) .skip (.exit 0))) (.seq (.block 1 (.seq (.seq (.region g8 [⟨some 15, none, .move (.s 0), []⟩, ⟨some 16, none, .move (.s 3), []⟩, ⟨some 17, none, .idxSl 1 (.s 15) (.s 16), []⟩, ⟨some 18, none, .load 1 false (.s 17), []⟩, ⟨some 19, none, .lenSl (.s 18), []⟩, ⟨some 20, none, .bin (.gtr) (.s 19) (.c (.int .i64 5)), []⟩, ⟨some 21, none, .move (.s 20), []⟩, ⟨some 22, some (21, true), .move (.s 0), []⟩, ⟨some 23, some (21, true), .move (.s 3), []⟩, ⟨some 24, some (21, true), .idxSl 1 (.s 22) (.s 23), []⟩, ⟨some 25, some (21, true), .load 1 false (.s 24), []⟩, ⟨some 26, some (21, true), .lenSl (.s 25), []⟩, ⟨some 27, some (21, true), .bin (.leq) (.s 26) (.c (.int .i64 8)), []⟩, ⟨some 28, none, .pick (.s 21) (.s 27) (.c (.bool false)), []⟩, ⟨some 29, none, .move (.s 28), []⟩, ⟨some 30, some (29, false), .move (.s 0), []⟩, ⟨some 31, some (29, false), .move (.s 3), []⟩, ⟨some 32, some (29, false), .idxSl 1 (.s 30) (.s 31), []⟩, ⟨some 33, some (29, false), .load 1 false (.s 32), []⟩, ⟨some 34, some (29, false), .lenSl (.s 33), []⟩, ⟨some 35, some (29, false), .bin (.gtr) (.s 34) (.c (.int .i64 12)), []⟩, ⟨some 36, none, .pick (.s 29) (.c (.bool true)) (.s 35), []⟩]) (.cond (.s 36) (.seq (.region g8 [⟨some 2, none, .move (.c (.bool false)), []⟩]) .ret) .skip)) (.seq (.region g8 [⟨some 4, none, .move (.c (.int .i64 0)), []⟩]) (.block 2 (.loop 1 [37, 38, 39, 40, 41, 42, 43, 46, 47, 48, 49, 50, 51, 52, 53, 54, 2, 44, 45, 4] (.seq (.seq (.region g8 [⟨some 37, none, .move (.s 4), []⟩, ⟨some 38, none, .move (.s 0), []⟩, ⟨some 39, none, .move (.s 3), []⟩, ⟨some 40, none, .idxSl 1 (.s 38) (.s 39), []⟩, ⟨some 41, none, .load 1 false (.s 40), []⟩, ⟨some 42, none, .lenSl (.s 41), []⟩, ⟨some 43, none, .bin (.lss) (.s 37) (.s 42), []⟩]) (.cond (.s 43) .skip (.exit 2))) (.seq (.block 3 (.seq (.region g8 [⟨some 46, none, .move (.s 0), []⟩, ⟨some 47, none, .move (.s 3), []⟩, ⟨some 48, none, .idxSl 1 (.s 46) (.s 47), []⟩, ⟨some 49, none, .load 1 false (.s 48), []⟩, ⟨some 50, none, .move (.s 4), []⟩, ⟨some 51, none, .idxSl 1 (.s 49) (.s 50), []⟩, ⟨some 52, none, .load 1 false (.s 51), []⟩, ⟨some 53, none, .lenStr (.s 52), []⟩, ⟨some 54, none, .bin (.gtr) (.s 53) (.c (.int .i64 60)), []⟩]) (.cond (.s 54) (.seq (.region g8 [⟨some 2, none, .move (.c (.bool false)), []⟩]) .ret) .skip))) (.region g8 [⟨some 44, none, .move (.s 4), []⟩, ⟨some 45, none, .bin (.add) (.s 44) (.c (.int .i64 1)), []⟩, ⟨some 4, none, .move (.s 45), []⟩])))))))) (.region g8 [⟨some 13, none, .move (.s 3), []⟩, ⟨some 14, none, .bin (.add) (.s 13) (.c (.int .i64 1)), []⟩, ⟨some 3, none, .move (.s 14), []⟩])))))) (.seq (.region g8 [⟨some 55, none, .move (.s 0), []⟩, ⟨some 56, none, .lenSl (.s 55), []⟩, ⟨some 57, none, .bin (.leq) (.s 56) (.c (.int .i64 6)), []⟩, ⟨some 58, none, .move (.s 57), []⟩, ⟨some 59, some (58, false), .move (.s 0), []⟩, ⟨some 60, some (58, false), .lenSl (.s 59), []⟩, ⟨some 61, some (58, false), .bin (.gtr) (.s 60) (.c (.int .i64 8)), []⟩, ⟨some 62, some (58, false), .move (.s 61), []⟩, ⟨some 63, some (62, true), .move (.s 0), []⟩, ⟨some 64, some (62, true), .lenSl (.s 63), []⟩, ⟨some 65, some (62, true), .bin (.leq) (.s 64) (.c (.int .i64 12)), []⟩, ⟨some 66, some (58, false), .pick (.s 62) (.s 65) (.c (.bool false)), []⟩, ⟨some 67, none, .pick (.s 58) (.c (.bool true)) (.s 66), []⟩, ⟨some 2, none, .move (.s 67), []⟩]) .ret))
def r8 : List SRes := [.slot 2]
def k8 : List (Nat × Nat × SCode × Nat) := []
theorem e8 : cFunc Try.prog 8 g8 [] [] k8 = some (c8, r8, 68) := by kernel_rfl
theorem q8 : RgOk Try.prog k8 := RgOk.nil
theorem few_i {i n : Nat} {k : Nat} (h : pickB (decide ((i : Int) < (n : Int))) (.s k) (.c (.bool false)) (decide ((i : Int) < 12)) false = true) : i < n := by
  rw [pickB_and] at h
  simp only [Bool.and_eq_true, decide_eq_true_eq] at h
  omega
theorem Few_ok : Few.Ok Try.prog 8 := by
  refine Eng.MSpec.ok_of e8 q8 (fun _ => []) (fun _ _ => TabOk.nil) ?_
  rintro F ⟨hn, hk⟩
  replace hn : (F.n : Int) ≤ 9223372036854775806 := hn
  replace hk : ∀ i, i < F.n → (F.k i : Int) ≤ 9223372036854775806 := hk
  refine ⟨trivial, ?_⟩
  refine ⟨⟨Nat, fun i => i ≤ F.n, fun i => [(3, .int .i64 (i : Int))], fun _ => [], fun i => F.n - i⟩, 0, Nat.zero_le _, ?_, ?_⟩
  · repeat' (first | refine And.intro ?_ ?_ | exact trivial | exact rfl | exact fun (j : Nat) (hj : j < _) => Or.inl (sub_strN _ _ _ _) | exact fun (j : Nat) (hj : j < _) => Or.inl (sub_fx _ _ _ _ rfl hj))
  rintro (i : Nat) hi
  replace hi : i ≤ F.n := hi
  repeat' (first | refine And.intro ?_ ?_ | exact trivial | exact rfl)
  · refine fun (h : pickB _ _ _ _ _ = true) => ?_
    have hil := few_i h
    have h0 : (0 : Int) ≤ (i : Int) := by omega
    have h1 : (i : Int) < (F.n : Int) := by omega
    have hin1 : -9223372036854775808 ≤ (i : Int) + 1 := by omega
    have hin2 : (i : Int) + 1 ≤ 9223372036854775807 := by omega
    have hki := hk i hil
    repeat' (first | exact h0 | exact h1 | (refine fun (_ : guardP _ _ _ _) => ?_) | refine And.intro ?_ ?_ | exact trivial | exact rfl | exact fun (j : Nat) (hj : j < _) => Or.inl (sub_strN _ _ _ _) | exact fun (j : Nat) (hj : j < _) => Or.inl (sub_fx _ _ _ _ rfl hj))
    · refine fun (_ : pickB _ _ _ _ _ = true) => ?_
      repeat' (first | refine And.intro ?_ ?_ | exact trivial | exact rfl)
      refine Exists.intro false (And.intro trivial ?_)
      repeat' (first | refine And.intro ?_ ?_ | exact trivial | exact rfl | exact fun (j : Nat) (hj : j < _) => Or.inl (sub_strN _ _ _ _) | exact fun (j : Nat) (hj : j < _) => Or.inl (sub_fx _ _ _ _ rfl hj))
    · refine fun (_ : pickB _ _ _ _ _ = false) => ?_
      repeat' (first | refine And.intro ?_ ?_ | exact trivial | exact rfl)
      refine ⟨⟨Nat, fun j => j ≤ F.k i, fun j => [(4, .int .i64 (j : Int))], fun _ => [], fun j => F.k i - j⟩, 0, Nat.zero_le _, ?_, ?_⟩
      · repeat' (first | refine And.intro ?_ ?_ | exact trivial | exact rfl | exact fun (j : Nat) (hj : j < _) => Or.inl (sub_strN _ _ _ _) | exact fun (j : Nat) (hj : j < _) => Or.inl (sub_fx _ _ _ _ rfl hj))
      rintro (j : Nat) hj
      replace hj : j ≤ F.k i := hj
      repeat' (first | exact h0 | exact h1 | refine And.intro ?_ ?_ | exact trivial | exact rfl | exact fun (j : Nat) (hj : j < _) => Or.inl (sub_strN _ _ _ _) | exact fun (j : Nat) (hj : j < _) => Or.inl (sub_fx _ _ _ _ rfl hj))
      · refine fun (h : decide ((j : Int) < ((F.k i : Nat) : Int)) = true) => ?_
        have hjl : j < F.k i := by have := of_decide_eq_true h; omega
        have hj0 : (0 : Int) ≤ (j : Int) := by omega
        have hj1 : (j : Int) < ((F.k i : Nat) : Int) := by omega
        have hjn1 : -9223372036854775808 ≤ (j : Int) + 1 := by omega
        have hjn2 : (j : Int) + 1 ≤ 9223372036854775807 := by omega
        repeat' (first | exact h0 | exact h1 | exact hj0 | exact hj1 | refine And.intro ?_ ?_ | exact trivial | exact rfl | exact fun (j : Nat) (hj : j < _) => Or.inl (sub_strN _ _ _ _) | exact fun (j : Nat) (hj : j < _) => Or.inl (sub_fx _ _ _ _ rfl hj))
        · refine fun (_ : decide _ = true) => ?_
          repeat' (first | refine And.intro ?_ ?_ | exact trivial | exact rfl)
          refine Exists.intro false (And.intro trivial ?_)
          repeat' (first | refine And.intro ?_ ?_ | exact trivial | exact rfl | exact fun (j : Nat) (hj : j < _) => Or.inl (sub_strN _ _ _ _) | exact fun (j : Nat) (hj : j < _) => Or.inl (sub_fx _ _ _ _ rfl hj))
        · refine fun (_ : decide _ = false) => ?_
          repeat' (first | refine And.intro ?_ ?_ | exact trivial | exact rfl)
          · exact hjn1
          · exact hjn2
          refine Exists.intro (j + 1) (And.intro hjl (And.intro ?_ ?_))
          · repeat' (first | refine And.intro ?_ ?_ | exact trivial | exact rfl | exact fun (j : Nat) (hj : j < _) => Or.inl (sub_strN _ _ _ _) | exact fun (j : Nat) (hj : j < _) => Or.inl (sub_fx _ _ _ _ rfl hj))
          · show F.k i - (j + 1) < F.k i - j
            omega
      · refine fun (_ : decide _ = false) => ?_
        repeat' (first | refine And.intro ?_ ?_ | exact trivial | exact rfl)
        · exact hin1
        · exact hin2
        refine Exists.intro (i + 1) (And.intro hil (And.intro ?_ ?_))
        · repeat' (first | refine And.intro ?_ ?_ | exact trivial | exact rfl | exact fun (j : Nat) (hj : j < _) => Or.inl (sub_strN _ _ _ _) | exact fun (j : Nat) (hj : j < _) => Or.inl (sub_fx _ _ _ _ rfl hj))
        · show F.n - (i + 1) < F.n - i
          omega
  · refine fun (h : pickB _ _ _ _ _ = false) => ?_
    repeat' (first | (refine fun (_ : guardP _ _ _ _) => ?_) | refine And.intro ?_ ?_ | exact trivial | exact rfl)
    refine Exists.intro ?w (And.intro trivial ?_)
    repeat' (first | refine And.intro ?_ ?_ | exact trivial | exact rfl | exact fun (j : Nat) (hj : j < _) => Or.inl (sub_strN _ _ _ _) | exact fun (j : Nat) (hj : j < _) => Or.inl (sub_fx _ _ _ _ rfl hj))
/-! ### Two equal candidates -/
def eqC (F : Fx) : Bool := decide (∃ i, i < F.n ∧ ∃ k, k < i ∧ eqT ⟨⟨F.k i, F.a i⟩, ⟨F.k k, F.a k⟩⟩ = true)
def equal : Eng.Spec where
  X := Fx
  args := fun F => .cons (fxE F) .nil
  pre := fun F => (F.n : Int) ≤ 9223372036854775806 ∧ ∀ i, i < F.n → (F.k i : Int) ≤ 9223372036854775806
  res := fun F => .bool (eqC F)
  inst := fun
    | .cons (.slice _ n e) .nil => some (fxOf n e)
    | _ => none
theorem eqC_t {F : Fx} {i k : Nat} (hi : i < F.n) (hk : k < i) (h : eqT ⟨⟨F.k i, F.a i⟩, ⟨F.k k, F.a k⟩⟩ = true) : true = eqC F := (decide_eq_true ⟨i, hi, k, hk, h⟩).symm
theorem eqC_f {F : Fx} (h : ∀ i, i < F.n → ∀ k, k < i → eqT ⟨⟨F.k i, F.a i⟩, ⟨F.k k, F.a k⟩⟩ = false) : false = eqC F := by
  refine (decide_eq_false ?_).symm
  rintro ⟨i, hi, k, hk, he⟩
  rw [h i hi k hk] at he
  cases he
/-- gazetteer/gazetteerlaw38.equal -/
def g13 : List Nat := [8, 13, 0, 24, 4, 3, 2]
def c13 : SCode :=
  .seq (.region g13 [⟨some 2, none, .move (.c (.bool false)), []⟩]) (.seq (.seq (.region g13 [⟨some 3, none, .move (.c (.int .i64 0)), []⟩]) (.block 0 (.loop 0 [5, 6, 7, 8, 11, 12, 13, 16, 17, 18, 19, 20, 21, 22, 23, 24, 2, 14, 15, 4, 9, 10, 3] (.seq (.seq (.region g13 [⟨some 5, none, .move (.s 3), []⟩, ⟨some 6, none, .move (.s 0), []⟩, ⟨some 7, none, .lenSl (.s 6), []⟩, ⟨some 8, none, .bin (.lss) (.s 5) (.s 7), []⟩]) (.cond (.s 8) .skip (.exit 0))) (.seq (.block 1 (.seq (.region g13 [⟨some 4, none, .move (.c (.int .i64 0)), []⟩]) (.block 2 (.loop 1 [11, 12, 13, 16, 17, 18, 19, 20, 21, 22, 23, 24, 2, 14, 15, 4] (.seq (.seq (.region g13 [⟨some 11, none, .move (.s 4), []⟩, ⟨some 12, none, .move (.s 3), []⟩, ⟨some 13, none, .bin (.lss) (.s 11) (.s 12), []⟩]) (.cond (.s 13) .skip (.exit 2))) (.seq (.block 3 (.seq (.drawn g13 (.pure 0 ⟨some 16, none, .move (.s 0), []⟩ (.pure 1 ⟨some 17, none, .move (.s 3), []⟩ (.pure 2 ⟨some 18, none, .idxSl 1 (.s 16) (.s 17), []⟩ (.pure 3 ⟨some 19, none, .load 1 false (.s 18), []⟩ (.pure 4 ⟨some 20, none, .move (.s 0), []⟩ (.pure 5 ⟨some 21, none, .move (.s 4), []⟩ (.pure 6 ⟨some 22, none, .idxSl 1 (.s 20) (.s 21), []⟩ (.pure 7 ⟨some 23, none, .load 1 false (.s 22), []⟩ (.pure 8 ⟨some 24, none, .call (.c (.fn 19)) [.s 19, .s 23], []⟩ .done)))))))))) (.cond (.s 24) (.seq (.region g13 [⟨some 2, none, .move (.c (.bool true)), []⟩]) .ret) .skip))) (.region g13 [⟨some 14, none, .move (.s 4), []⟩, ⟨some 15, none, .bin (.add) (.s 14) (.c (.int .i64 1)), []⟩, ⟨some 4, none, .move (.s 15), []⟩]))))))) (.region g13 [⟨some 9, none, .move (.s 3), []⟩, ⟨some 10, none, .bin (.add) (.s 9) (.c (.int .i64 1)), []⟩, ⟨some 3, none, .move (.s 10), []⟩])))))) (.seq (.region g13 [⟨some 2, none, .move (.c (.bool false)), []⟩]) .ret))
def r13 : List SRes := [.slot 2]
def k13 : List (Nat × Nat × SCode × Nat) := []
theorem e13 : cFunc Try.prog 13 g13 [] [] k13 = some (c13, r13, 25) := by kernel_rfl
theorem q13 : RgOk Try.prog k13 := RgOk.nil
theorem equal_ok : equal.Ok Try.prog 13 := by
  refine Eng.Spec.ok_of e13 q13 (fun _ => [(19, .p texts)]) (fun _ _ => TabOk.p texts_ok TabOk.nil) ?_
  rintro F ⟨hn, hk⟩
  replace hn : (F.n : Int) ≤ 9223372036854775806 := hn
  replace hk : ∀ i, i < F.n → (F.k i : Int) ≤ 9223372036854775806 := hk
  refine ⟨trivial, ?_⟩
  refine ⟨⟨Nat, fun i => i ≤ F.n ∧ ∀ a, a < i → ∀ k, k < a → eqT ⟨⟨F.k a, F.a a⟩, ⟨F.k k, F.a k⟩⟩ = false, fun i => [(3, .int .i64 (i : Int))], fun _ => [], fun i => F.n - i⟩, 0, ⟨Nat.zero_le _, fun a ha => absurd ha (Nat.not_lt_zero a)⟩, ?_, ?_⟩
  · repeat' (first | refine And.intro ?_ ?_ | exact trivial | exact rfl | exact fun (j : Nat) (hj : j < _) => Or.inl (sub_strN _ _ _ _) | exact fun (j : Nat) (hj : j < _) => Or.inl (sub_fx _ _ _ _ rfl hj))
  rintro (i : Nat) ⟨hi, hall⟩
  replace hi : i ≤ F.n := hi
  replace hall : ∀ a, a < i → ∀ k, k < a → eqT ⟨⟨F.k a, F.a a⟩, ⟨F.k k, F.a k⟩⟩ = false := hall
  repeat' (first | refine And.intro ?_ ?_ | exact trivial | exact rfl)
  · refine fun (h : decide ((i : Int) < ((F.n : Nat) : Int)) = true) => ?_
    have hil : i < F.n := by have := of_decide_eq_true h; omega
    have h0 : (0 : Int) ≤ (i : Int) := by omega
    have h1 : (i : Int) < (F.n : Int) := by omega
    have hin1 : -9223372036854775808 ≤ (i : Int) + 1 := by omega
    have hin2 : (i : Int) + 1 ≤ 9223372036854775807 := by omega
    have hki := hk i hil
    repeat' (first | refine And.intro ?_ ?_ | exact trivial | exact rfl | exact fun (j : Nat) (hj : j < _) => Or.inl (sub_strN _ _ _ _) | exact fun (j : Nat) (hj : j < _) => Or.inl (sub_fx _ _ _ _ rfl hj))
    refine ⟨⟨Nat, fun j => j ≤ i ∧ ∀ k, k < j → eqT ⟨⟨F.k i, F.a i⟩, ⟨F.k k, F.a k⟩⟩ = false, fun j => [(4, .int .i64 (j : Int))], fun _ => [], fun j => i - j⟩, 0, ⟨Nat.zero_le _, fun k hk => absurd hk (Nat.not_lt_zero k)⟩, ?_, ?_⟩
    · repeat' (first | refine And.intro ?_ ?_ | exact trivial | exact rfl | exact fun (j : Nat) (hj : j < _) => Or.inl (sub_strN _ _ _ _) | exact fun (j : Nat) (hj : j < _) => Or.inl (sub_fx _ _ _ _ rfl hj))
    rintro (j : Nat) ⟨hj, hall2⟩
    replace hj : j ≤ i := hj
    replace hall2 : ∀ k, k < j → eqT ⟨⟨F.k i, F.a i⟩, ⟨F.k k, F.a k⟩⟩ = false := hall2
    repeat' (first | refine And.intro ?_ ?_ | exact trivial | exact rfl | exact fun (j : Nat) (hj : j < _) => Or.inl (sub_strN _ _ _ _) | exact fun (j : Nat) (hj : j < _) => Or.inl (sub_fx _ _ _ _ rfl hj))
    · refine fun (h : decide ((j : Int) < (i : Int)) = true) => ?_
      have hjl : j < i := by have := of_decide_eq_true h; omega
      have hj0 : (0 : Int) ≤ (j : Int) := by omega
      have hj1 : (j : Int) < ((F.n : Nat) : Int) := by omega
      have hjn1 : -9223372036854775808 ≤ (j : Int) + 1 := by omega
      have hjn2 : (j : Int) + 1 ≤ 9223372036854775807 := by omega
      repeat' (first | exact h0 | exact h1 | exact hj0 | exact hj1 | exact hki | refine And.intro ?_ ?_ | exact trivial | exact rfl | exact fun (j : Nat) (hj : j < _) => Or.inl (sub_strN _ _ _ _) | exact fun (j : Nat) (hj : j < _) => Or.inl (sub_fx _ _ _ _ rfl hj))
      · refine fun (h : eqT _ = true) => ?_
        repeat' (first | refine And.intro ?_ ?_ | exact trivial | exact rfl)
        exact eqC_t hil hjl h
      · refine fun (h : eqT _ = false) => ?_
        repeat' (first | refine And.intro ?_ ?_ | exact trivial | exact rfl)
        · exact hjn1
        · exact hjn2
        refine Exists.intro (j + 1) (And.intro ⟨hjl, fun k hk2 => ?_⟩ (And.intro ?_ ?_))
        · by_cases e : k = j
          · rw [e]; exact h
          · exact hall2 k (by have : k < j + 1 := hk2; omega)
        · repeat' (first | refine And.intro ?_ ?_ | exact trivial | exact rfl | exact fun (j : Nat) (hj : j < _) => Or.inl (sub_strN _ _ _ _) | exact fun (j : Nat) (hj : j < _) => Or.inl (sub_fx _ _ _ _ rfl hj))
        · show i - (j + 1) < i - j
          omega
    · refine fun (h : decide ((j : Int) < (i : Int)) = false) => ?_
      have hjl : j = i := by have := of_decide_eq_false h; omega
      repeat' (first | refine And.intro ?_ ?_ | exact trivial | exact rfl)
      · exact hin1
      · exact hin2
      refine Exists.intro (i + 1) (And.intro ⟨hil, fun a ha => ?_⟩ (And.intro ?_ ?_))
      · by_cases e : a = i
        · rw [e, ← hjl]; exact hjl ▸ hall2
        · exact hall a (by have : a < i + 1 := ha; omega)
      · repeat' (first | refine And.intro ?_ ?_ | exact trivial | exact rfl | exact fun (j : Nat) (hj : j < _) => Or.inl (sub_strN _ _ _ _) | exact fun (j : Nat) (hj : j < _) => Or.inl (sub_fx _ _ _ _ rfl hj))
      · show F.n - (i + 1) < F.n - i
        omega
  · refine fun (h : decide ((i : Int) < ((F.n : Nat) : Int)) = false) => ?_
    have hil : i = F.n := by have := of_decide_eq_false h; omega
    repeat' (first | refine And.intro ?_ ?_ | exact trivial | exact rfl | exact fun (j : Nat) (hj : j < _) => Or.inl (sub_strN _ _ _ _) | exact fun (j : Nat) (hj : j < _) => Or.inl (sub_fx _ _ _ _ rfl hj))
    exact eqC_f (by rw [← hil]; exact hall)
end A10
