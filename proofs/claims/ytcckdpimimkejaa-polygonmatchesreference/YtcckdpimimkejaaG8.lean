/- A part of the proof: see the last text. -/
import Derived.Test.YtcckdpimimkejaaG7
open Go Go.Eng Go.Proofs G1 G2 G3 G4 G5 G6 G7
set_option maxRecDepth 100000
namespace G8
def minP (p q : Pt) : Pt := (min p.1 q.1, min p.2 q.2)
def maxP (p q : Pt) : Pt := (max p.1 q.1, max p.2 q.2)
def loI (r : Pts) : Nat → Pt
  | 0 => r.p 0
  | i + 1 => minP (loI r i) (r.p i)
def hiI (r : Pts) : Nat → Pt
  | 0 => r.p 0
  | i + 1 => maxP (hiI r i) (r.p i)
def boxV (r : Pts) : Pt × Pt × Int := if valV r = true then (loI r r.n, hiI r r.n, 0) else ((0, 0), (0, 0), 1)
def Box : Eng.Spec where
  X := Pts
  args := fun r => .cons (rgE r) .nil
  pre := fun r => (r.n : Int) ≤ 9223372036854775806
  res := fun r => .tup (.cons (ptE (boxV r).1) (.cons (ptE (boxV r).2.1) (.cons (.int .i64 (boxV r).2.2) .nil)))
  inst := fun
    | .cons a .nil => ptsD a
    | _ => none
/-- gazetteer/polygon.Box -/
def g13 : List Nat := [11, 0, 21, 23, 20, 8, 22, 5, 6, 2, 3, 4]
def c13 : SCode :=
  .seq (.region g13 [⟨some 2, none, .alloc 24 (.cons (.int .i64 0) (.cons (.int .i64 0) .nil)), []⟩, ⟨some 3, none, .alloc 24 (.cons (.int .i64 0) (.cons (.int .i64 0) .nil)), []⟩, ⟨some 4, none, .move (.c (.int .i64 0)), []⟩]) (.seq (.seq (.region g13 [⟨some 9, none, .move (.s 0), []⟩, ⟨some 10, none, .call (.c (.fn 15)) [.s 9], []⟩, ⟨some 11, none, .not (.s 10), []⟩]) (.cond (.s 11) (.seq (.region g13 [⟨some 12, none, .build (.cons (.int .i64 0) (.cons (.int .i64 0) .nil)) [], []⟩, ⟨some 13, none, .build (.cons (.int .i64 0) (.cons (.int .i64 0) .nil)) [], []⟩, ⟨none, none, .store 2 (.s 2) (.s 12), []⟩, ⟨none, none, .store 2 (.s 3) (.s 13), []⟩, ⟨some 4, none, .move (.c (.int .i64 1)), []⟩]) .ret) .skip)) (.seq (.drawn g13 (.pure 0 ⟨some 14, none, .move (.s 0), []⟩ (.pure 1 ⟨some 15, none, .idxSl 2 (.s 14) (.c (.int .i64 0)), []⟩ (.pure 2 ⟨some 16, none, .load 2 true (.s 15), []⟩ (.pure 3 ⟨some 17, none, .move (.s 0), []⟩ (.pure 4 ⟨some 18, none, .idxSl 2 (.s 17) (.c (.int .i64 0)), []⟩ (.pure 5 ⟨some 19, none, .load 2 true (.s 18), []⟩ (.eff 6 ⟨some 5, none, .alloc 24 (.cons (.int .i64 0) (.cons (.int .i64 0) .nil)), []⟩ [⟨some 19, none, .load 2 true (.s 18), []⟩, ⟨some 16, none, .load 2 true (.s 15), []⟩] (.eff 7 ⟨some 6, none, .alloc 24 (.cons (.int .i64 0) (.cons (.int .i64 0) .nil)), []⟩ [⟨some 19, none, .load 2 true (.s 18), []⟩, ⟨some 16, none, .load 2 true (.s 15), []⟩] (.eff 8 ⟨none, none, .store 2 (.s 5) (.s 16), []⟩ [⟨some 19, none, .load 2 true (.s 18), []⟩] (.eff 9 ⟨none, none, .store 2 (.s 6) (.s 19), []⟩ [] .done .none) .none) .none) (.eff 7 ⟨some 6, none, .alloc 24 (.cons (.int .i64 0) (.cons (.int .i64 0) .nil)), []⟩ [⟨some 19, none, .load 2 true (.s 18), []⟩, ⟨some 16, none, .load 2 true (.s 15), []⟩] (.eff 6 ⟨some 5, none, .alloc 24 (.cons (.int .i64 0) (.cons (.int .i64 0) .nil)), []⟩ [⟨some 19, none, .load 2 true (.s 18), []⟩, ⟨some 16, none, .load 2 true (.s 15), []⟩] (.eff 8 ⟨none, none, .store 2 (.s 5) (.s 16), []⟩ [⟨some 19, none, .load 2 true (.s 18), []⟩] (.eff 9 ⟨none, none, .store 2 (.s 6) (.s 19), []⟩ [] .done .none) .none) .none) .none))))))))) (.seq (.seq (.region g13 [⟨some 20, none, .move (.s 0), []⟩, ⟨some 21, none, .lenSl (.s 20), []⟩, ⟨some 22, none, .move (.c (.int .i64 0)), []⟩]) (.block 0 (.loop 0 [23, 24, 25, 8, 26, 27, 28, 29, 30, 31, 32, 33, 34, 35, 36, 37, 38, 39, 40, 41, 42, 43, 44, 45, 46, 47, 48, 22] (.seq (.region g13 [⟨some 23, none, .bin (.lss) (.s 22) (.s 21), []⟩]) (.seq (.cond (.s 23) .skip (.exit 0)) (.seq (.block 1 (.seq (.region g13 [⟨some 24, none, .idxSl 2 (.s 20) (.s 22), []⟩, ⟨some 25, none, .load 2 true (.s 24), []⟩, ⟨some 8, none, .alloc 24 (.cons (.int .i64 0) (.cons (.int .i64 0) .nil)), []⟩, ⟨none, none, .store 2 (.s 8) (.s 25), []⟩]) (.seq (.region g13 [⟨some 26, none, .fldA 0 (.s 5), []⟩, ⟨some 27, none, .load 1 false (.s 26), []⟩, ⟨some 28, none, .fldA 0 (.s 8), []⟩, ⟨some 29, none, .load 1 false (.s 28), []⟩, ⟨some 30, none, .mm false (.s 27) (.s 29), []⟩, ⟨some 31, none, .fldA 1 (.s 5), []⟩, ⟨some 32, none, .load 1 false (.s 31), []⟩, ⟨some 33, none, .fldA 1 (.s 8), []⟩, ⟨some 34, none, .load 1 false (.s 33), []⟩, ⟨some 35, none, .mm false (.s 32) (.s 34), []⟩, ⟨some 36, none, .build (.cons (.int .i64 0) (.cons (.int .i64 0) .nil)) [(0, 1, .s 30), (1, 1, .s 35)], []⟩, ⟨none, none, .store 2 (.s 5) (.s 36), []⟩]) (.region g13 [⟨some 37, none, .fldA 0 (.s 6), []⟩, ⟨some 38, none, .load 1 false (.s 37), []⟩, ⟨some 39, none, .fldA 0 (.s 8), []⟩, ⟨some 40, none, .load 1 false (.s 39), []⟩, ⟨some 41, none, .mm true (.s 38) (.s 40), []⟩, ⟨some 42, none, .fldA 1 (.s 6), []⟩, ⟨some 43, none, .load 1 false (.s 42), []⟩, ⟨some 44, none, .fldA 1 (.s 8), []⟩, ⟨some 45, none, .load 1 false (.s 44), []⟩, ⟨some 46, none, .mm true (.s 43) (.s 45), []⟩, ⟨some 47, none, .build (.cons (.int .i64 0) (.cons (.int .i64 0) .nil)) [(0, 1, .s 41), (1, 1, .s 46)], []⟩, ⟨none, none, .store 2 (.s 6) (.s 47), []⟩])))) (.region g13 [⟨some 48, none, .bin (.add) (.s 22) (.c (.int .i64 1)), []⟩, ⟨some 22, none, .move (.s 48), []⟩]))))))) (.seq (.drawn g13 (.pure 0 ⟨some 49, none, .load 2 true (.s 5), []⟩ (.pure 1 ⟨some 50, none, .load 2 true (.s 6), []⟩ (.eff 2 ⟨none, none, .store 2 (.s 2) (.s 49), []⟩ [⟨some 50, none, .load 2 true (.s 6), []⟩] (.eff 3 ⟨none, none, .store 2 (.s 3) (.s 50), []⟩ [] (.pure 4 ⟨some 4, none, .move (.c (.int .i64 0)), []⟩ .done) .none) .none)))) .ret))))
def r13 : List SRes := [.cell 2 2 true, .cell 3 2 true, .slot 4]
def k13 : List (Nat × Nat × SCode × Nat) := []
theorem e13 : cFunc Try.prog 13 g13 [] [] k13 = some (c13, r13, 51) := by kernel_rfl
theorem q13 : RgOk Try.prog k13 := RgOk.nil
set_option maxHeartbeats 4000000 in
theorem Box_ok : Box.Ok Try.prog 13 := by
  refine Eng.Spec.ok_of e13 q13 (fun _ => [(15, .p Valid)]) (fun _ _ => TabOk.p Valid_ok TabOk.nil) ?_
  rintro r hn
  replace hn : (r.n : Int) ≤ 9223372036854775806 := hn
  refine ⟨trivial, ?_⟩
  repeat' (first | exact hn | refine And.intro ?_ ?_ | exact trivial | exact rfl | exact fun (j : Nat) (hj : j < _) => Or.inl (sub_ptN _ _ _ _))
  · refine fun (h : (!valV r) = true) => ?_
    have e : boxV r = ((0, 0), (0, 0), 1) := by unfold boxV; rw [not_t h]; rfl
    have e1 : 0 = (boxV r).1.1 := by rw [e]
    have e2 : 0 = (boxV r).1.2 := by rw [e]
    have e3 : 0 = (boxV r).2.1.1 := by rw [e]
    have e4 : 0 = (boxV r).2.1.2 := by rw [e]
    have e5 : 1 = (boxV r).2.2 := by rw [e]
    repeat' (first | exact e1 | exact e2 | exact e3 | exact e4 | exact e5 | refine And.intro ?_ ?_ | exact trivial | exact rfl | exact fun (j : Nat) (hj : j < _) => Or.inl (sub_ptN _ _ _ _))
  · refine fun (h : (!valV r) = false) => ?_
    have hv := val_ok (not_f h)
    have h50 := hv.1.1
    have h0 : (0 : Int) ≤ 0 := Int.le_refl 0
    have h0n : (0 : Int) < (r.n : Int) := by have := hv.2.1.1; omega
    have e : boxV r = (loI r r.n, hiI r r.n, 0) := by unfold boxV; rw [if_pos (not_f h)]
    repeat' (first | with_reducible exact h0 | with_reducible exact h0n | refine And.intro ?_ ?_ | exact trivial | exact rfl | exact fun (j : Nat) (hj : j < _) => Or.inl (sub_ptN _ _ _ _))
    · refine ⟨⟨Nat, fun i => i ≤ r.n, fun i => [(22, .int .i64 (i : Int))], fun i => [(2, .cells 24 (ptL (loI r i))), (3, .cells 24 (ptL (hiI r i)))], fun i => r.n - i⟩, 0, Nat.zero_le _, ?_, ?_⟩
      · repeat' (first | refine And.intro ?_ ?_ | exact trivial | exact rfl | exact fun (j : Nat) (hj : j < _) => Or.inl (sub_ptN _ _ _ _))
      rintro (i : Nat) (hi : i ≤ r.n)
      repeat' (first | refine And.intro ?_ ?_ | exact trivial | exact rfl | exact fun (j : Nat) (hj : j < _) => Or.inl (sub_ptN _ _ _ _))
      · refine fun (h : decide ((i : Int) < (r.n : Int)) = true) => ?_
        have hi1 : (i : Int) < (r.n : Int) := of_decide_eq_true h
        have hil : i < r.n := by omega
        have hi0 : (0 : Int) ≤ (i : Int) := by omega
        have b1 : -9223372036854775808 ≤ (i : Int) + 1 := by omega
        have b2 : (i : Int) + 1 ≤ 9223372036854775807 := by omega
        repeat' (first | with_reducible exact hi1 | with_reducible exact hi0 | with_reducible exact b1 | with_reducible exact b2 | refine And.intro ?_ ?_ | exact trivial | exact rfl | exact fun (j : Nat) (hj : j < _) => Or.inl (sub_ptN _ _ _ _))
        refine Exists.intro (i + 1) ?_
        refine And.intro (show i + 1 ≤ r.n from hil) ?_
        repeat' (first | refine And.intro ?_ ?_ | exact trivial | exact rfl | exact fun (j : Nat) (hj : j < _) => Or.inl (sub_ptN _ _ _ _))
        show r.n - (i + 1) < r.n - i
        omega
      · refine fun (h : decide ((i : Int) < (r.n : Int)) = false) => ?_
        have hi1 : ¬ (i : Int) < (r.n : Int) := of_decide_eq_false h
        have ei : i = r.n := by omega
        have e1 : (loI r i).1 = (boxV r).1.1 := by rw [e, ei]
        have e2 : (loI r i).2 = (boxV r).1.2 := by rw [e, ei]
        have e3 : (hiI r i).1 = (boxV r).2.1.1 := by rw [e, ei]
        have e4 : (hiI r i).2 = (boxV r).2.1.2 := by rw [e, ei]
        have e5 : 0 = (boxV r).2.2 := by rw [e]
        repeat' (first | exact e1 | exact e2 | exact e3 | exact e4 | exact e5 | refine And.intro ?_ ?_ | exact trivial | exact rfl | exact fun (j : Nat) (hj : j < _) => Or.inl (sub_ptN _ _ _ _))
    · refine ⟨⟨Nat, fun i => i ≤ r.n, fun i => [(22, .int .i64 (i : Int))], fun i => [(3, .cells 24 (ptL (loI r i))), (2, .cells 24 (ptL (hiI r i)))], fun i => r.n - i⟩, 0, Nat.zero_le _, ?_, ?_⟩
      · repeat' (first | refine And.intro ?_ ?_ | exact trivial | exact rfl | exact fun (j : Nat) (hj : j < _) => Or.inl (sub_ptN _ _ _ _))
      rintro (i : Nat) (hi : i ≤ r.n)
      repeat' (first | refine And.intro ?_ ?_ | exact trivial | exact rfl | exact fun (j : Nat) (hj : j < _) => Or.inl (sub_ptN _ _ _ _))
      · refine fun (h : decide ((i : Int) < (r.n : Int)) = true) => ?_
        have hi1 : (i : Int) < (r.n : Int) := of_decide_eq_true h
        have hil : i < r.n := by omega
        have hi0 : (0 : Int) ≤ (i : Int) := by omega
        have b1 : -9223372036854775808 ≤ (i : Int) + 1 := by omega
        have b2 : (i : Int) + 1 ≤ 9223372036854775807 := by omega
        repeat' (first | with_reducible exact hi1 | with_reducible exact hi0 | with_reducible exact b1 | with_reducible exact b2 | refine And.intro ?_ ?_ | exact trivial | exact rfl | exact fun (j : Nat) (hj : j < _) => Or.inl (sub_ptN _ _ _ _))
        refine Exists.intro (i + 1) ?_
        refine And.intro (show i + 1 ≤ r.n from hil) ?_
        repeat' (first | refine And.intro ?_ ?_ | exact trivial | exact rfl | exact fun (j : Nat) (hj : j < _) => Or.inl (sub_ptN _ _ _ _))
        show r.n - (i + 1) < r.n - i
        omega
      · refine fun (h : decide ((i : Int) < (r.n : Int)) = false) => ?_
        have hi1 : ¬ (i : Int) < (r.n : Int) := of_decide_eq_false h
        have ei : i = r.n := by omega
        have e1 : (loI r i).1 = (boxV r).1.1 := by rw [e, ei]
        have e2 : (loI r i).2 = (boxV r).1.2 := by rw [e, ei]
        have e3 : (hiI r i).1 = (boxV r).2.1.1 := by rw [e, ei]
        have e4 : (hiI r i).2 = (boxV r).2.1.2 := by rw [e, ei]
        have e5 : 0 = (boxV r).2.2 := by rw [e]
        repeat' (first | exact e1 | exact e2 | exact e3 | exact e4 | exact e5 | refine And.intro ?_ ?_ | exact trivial | exact rfl | exact fun (j : Nat) (hj : j < _) => Or.inl (sub_ptN _ _ _ _))
end G8
