/- A part of the proof: see the last text. -/
import Derived.Test.YtnkkbbjljmbjbaaA13
open Go Go.Eng Go.Proofs A0 A1 A2 A3 A4 A5 A6 A7 A8 A9 A10 A11 A12 A13
set_option maxRecDepth 100000
namespace A14
/-! Contracts that hide what they compute -/
def makeH : Eng.MSpec where
  X := Fx
  Y := Known × Int
  args := makeS.args
  pre := makeS.pre
  h0 := fun _ => []
  nx0 := 0
  post := fun x y => y = makeV x
  res := fun _ y => .tup (.cons (.agg (plC y.1)) (.cons (.int .i64 y.1.d) (.cons (.int .i64 y.2) .nil)))
  h1 := fun _ _ => []
  nx1 := 0
  fresh := false
theorem makeH_ok : makeH.Ok Try.prog 9 := by
  refine ⟨makeM_ok.call, fun x w μ vs T U hU hh hp hR => (makeM_ok.does x w μ vs T U hU hh hp hR).mono fun e w' he => ?_⟩
  cases e with
  | returned v =>
    obtain ⟨y, μ', _, h1, h2⟩ := he
    exact ⟨makeV x, μ', rfl, h1, h2⟩
  | panicked _ => exact he.elim
  | outgrown => exact he.elim
def checkH : Eng.MSpec where
  X := XE
  Y := Int × Bool
  args := checkS.args
  pre := checkS.pre
  h0 := fun _ => []
  nx0 := 0
  post := fun x y => y = checkV x.F x.p
  res := fun _ y => .tup (.cons (.int .i64 y.1) (.cons (.bool y.2) .nil))
  h1 := fun _ _ => []
  nx1 := 0
theorem checkH_ok : checkH.Ok Try.prog 11 := by
  refine ⟨check_ok.call, fun x w μ vs T U hU hh hp hR => (check_ok.does x w μ vs T U hU hh hp hR).mono fun e w' he => ?_⟩
  cases e with
  | returned v =>
    obtain ⟨y, μ', _, h1, h2⟩ := he
    exact ⟨checkV x.F x.p, μ', rfl, h1, h2⟩
  | panicked _ => exact he.elim
  | outgrown => exact he.elim
def sameH : Eng.MSpec where
  X := XP2
  Y := Bool
  args := (sameS 100).args
  pre := (sameS 100).pre
  h0 := fun _ => []
  nx0 := 0
  post := fun x y => y = sameP x.a x.b
  res := fun _ y => .bool y
  h1 := fun _ _ => []
  nx1 := 0
theorem sameH_ok : sameH.Ok Try.prog 10 := by
  refine ⟨(same_ok 100).call, fun x w μ vs T U hU hh hp hR => ((same_ok 100).does x w μ vs T U hU hh hp hR).mono fun e w' he => ?_⟩
  cases e with
  | returned v =>
    obtain ⟨y, μ', _, h1, h2⟩ := he
    exact ⟨sameP x.a x.b, μ', rfl, h1, h2⟩
  | panicked _ => exact he.elim
  | outgrown => exact he.elim
theorem plan_mono : ∀ {h : Nat} {p : Plan}, PlanOk h p → PlanOk (h + 1) p := by
  intro h
  induction h with
  | zero => intro p hp; exact hp.elim
  | succ h ih => intro p hp; exact ⟨hp.1, hp.2.1, fun i hi => ih (hp.2.2 i hi)⟩
theorem plan_le {h k : Nat} {p : Plan} (hk : h ≤ k) (hp : PlanOk h p) : PlanOk k p := by
  induction k with
  | zero =>
    have : h = 0 := by omega
    subst this
    exact hp
  | succ k ih =>
    by_cases e : h = k + 1
    · rw [← e]; exact hp
    · exact plan_mono (ih (by omega))
theorem best_plan (F : Fx) (s : Nat) : PlanOk 20 (bestV F s).plan :=
  plan_le (by have h8 : (candL s).length ≤ 8 := candN_len s 8; omega) (best_ok' (B := BP) PlanOk (fun _ _ h1 h2 h3 => ⟨h1, h2, h3⟩) (by unfold BP; omega) (candL s).length s)
theorem make_plan (F : Fx) : PlanOk 20 (makeV F).1.plan := by
  unfold makeV
  have hz : PlanOk 20 knZ.plan := ⟨Nat.zero_le _, Nat.zero_le _, fun i hi => absurd hi (Nat.not_lt_zero i)⟩
  split
  · split
    · exact hz
    · exact best_plan F _
  · exact hz
theorem dec_plan (c : Int) {h : Nat} : PlanOk (h + 1) (decP c) := ⟨Nat.zero_le _, Nat.zero_le _, fun i hi => absurd hi (Nat.not_lt_zero i)⟩
theorem want_plan : PlanOk 1000 want := by
  refine ⟨show 2 ≤ BP by unfold BP; omega, show 2 ≤ BP by unfold BP; omega, fun i hi => ?_⟩
  have hi : i < 2 := hi
  match i, hi with
  | 0, _ => exact dec_plan 1
  | 1, _ =>
    refine ⟨show 2 ≤ BP by unfold BP; omega, show 2 ≤ BP by unfold BP; omega, fun j hj => ?_⟩
    have hj : j < 2 := hj
    match j, hj with
    | 0, _ => exact dec_plan 0
    | 1, _ => exact dec_plan 2
theorem pand {a b : Bool} {i : Nat} (ha : a = true) (hb : b = true) : pickB a (.s i) (.c (.bool false)) b false = true := by rw [pickB_and, ha, hb]; rfl
/-- gazetteer/gazetteerlaw38.head -/
def g7 : List Nat := [1, 4, 3, 2, 5, 8, 7, 11, 14, 13, 12, 22, 17, 19, 18, 21, 0]
def c7 : SCode :=
  .seq (.region g7 [⟨some 0, none, .move (.c (.bool false)), []⟩]) (.seq (.region g7 [⟨some 23, none, .buildSl 9 1 2 (.cons (.str []) .nil) [(0, 1, .c (.str [111, 100, 100])), (1, 1, .c (.str [99, 49]))], []⟩, ⟨some 24, none, .buildSl 9 1 2 (.cons (.str []) .nil) [(0, 1, .c (.str [101, 118, 101, 110])), (1, 1, .c (.str [99, 49]))], []⟩, ⟨some 25, none, .buildSl 9 1 2 (.cons (.str []) .nil) [(0, 1, .c (.str [111, 100, 100])), (1, 1, .c (.str [99, 50]))], []⟩, ⟨some 26, none, .buildSl 25 1 3 (.cons (.nilsl) .nil) [(0, 1, .s 23), (1, 1, .s 24), (2, 1, .s 25)], []⟩, ⟨some 1, none, .move (.s 26), []⟩]) (.seq (.region g7 [⟨some 28, none, .move (.s 1), []⟩, ⟨some 29, none, .call (.c (.fn 9)) [.s 28], []⟩, ⟨some 27, none, .move (.s 29), []⟩, ⟨some 30, none, .extract 0 (.s 27), []⟩, ⟨some 31, none, .extract 1 (.s 27), []⟩, ⟨some 32, none, .extract 2 (.s 27), []⟩, ⟨some 2, none, .alloc 28 (.cons (.int .i64 0) (.cons (.int .i64 0) (.cons (.nilsl) (.cons (.nilsl) .nil)))), []⟩, ⟨none, none, .store 4 (.s 2) (.s 30), []⟩, ⟨some 3, none, .move (.s 31), []⟩, ⟨some 4, none, .move (.s 32), []⟩]) (.seq (.region g7 [⟨some 33, none, .buildSl 9 1 2 (.cons (.str []) .nil) [(0, 1, .c (.str [101, 118, 101, 110])), (1, 1, .c (.str [111, 100, 100]))], []⟩, ⟨some 34, none, .call (.c (.fn 14)) [.c (.int .i64 1)], []⟩, ⟨some 35, none, .buildSl 9 1 2 (.cons (.str []) .nil) [(0, 1, .c (.str [99, 49])), (1, 1, .c (.str [99, 50]))], []⟩, ⟨some 36, none, .call (.c (.fn 14)) [.c (.int .i64 0)], []⟩, ⟨some 37, none, .call (.c (.fn 14)) [.c (.int .i64 2)], []⟩, ⟨some 38, none, .buildSl 28 4 2 (.cons (.int .i64 0) (.cons (.int .i64 0) (.cons (.nilsl) (.cons (.nilsl) .nil)))) [(0, 4, .s 36), (4, 4, .s 37)], []⟩, ⟨some 39, none, .build (.cons (.int .i64 0) (.cons (.int .i64 0) (.cons (.nilsl) (.cons (.nilsl) .nil)))) [(0, 1, .c (.int .i64 1)), (1, 1, .c (.int .i64 (-1))), (2, 1, .s 35), (3, 1, .s 38)], []⟩, ⟨some 40, none, .buildSl 28 4 2 (.cons (.int .i64 0) (.cons (.int .i64 0) (.cons (.nilsl) (.cons (.nilsl) .nil)))) [(0, 4, .s 34), (4, 4, .s 39)], []⟩, ⟨some 41, none, .build (.cons (.int .i64 0) (.cons (.int .i64 0) (.cons (.nilsl) (.cons (.nilsl) .nil)))) [(0, 1, .c (.int .i64 0)), (1, 1, .c (.int .i64 (-1))), (2, 1, .s 33), (3, 1, .s 40)], []⟩, ⟨some 5, none, .alloc 28 (.cons (.int .i64 0) (.cons (.int .i64 0) (.cons (.nilsl) (.cons (.nilsl) .nil)))), []⟩, ⟨none, none, .store 4 (.s 5) (.s 41), []⟩]) (.seq (.region g7 [⟨some 43, none, .buildSl 9 1 2 (.cons (.str []) .nil) [(0, 1, .c (.str [97])), (1, 1, .c (.str [120]))], []⟩, ⟨some 44, none, .buildSl 9 1 2 (.cons (.str []) .nil) [(0, 1, .c (.str [98])), (1, 1, .c (.str [120]))], []⟩, ⟨some 45, none, .buildSl 9 1 2 (.cons (.str []) .nil) [(0, 1, .c (.str [99])), (1, 1, .c (.str [120]))], []⟩, ⟨some 46, none, .buildSl 25 1 3 (.cons (.nilsl) .nil) [(0, 1, .s 43), (1, 1, .s 44), (2, 1, .s 45)], []⟩, ⟨some 47, none, .call (.c (.fn 9)) [.s 46], []⟩, ⟨some 42, none, .move (.s 47), []⟩, ⟨some 48, none, .extract 0 (.s 42), []⟩, ⟨some 49, none, .extract 1 (.s 42), []⟩, ⟨some 50, none, .extract 2 (.s 42), []⟩, ⟨some 6, none, .alloc 28 (.cons (.int .i64 0) (.cons (.int .i64 0) (.cons (.nilsl) (.cons (.nilsl) .nil)))), []⟩, ⟨none, none, .store 4 (.s 6) (.s 48), []⟩, ⟨some 7, none, .move (.s 49), []⟩, ⟨some 8, none, .move (.s 50), []⟩]) (.seq (.region g7 [⟨some 52, none, .buildSl 9 1 1 (.cons (.str []) .nil) [(0, 1, .c (.str [97]))], []⟩, ⟨some 53, none, .buildSl 9 1 1 (.cons (.str []) .nil) [(0, 1, .c (.str [97]))], []⟩, ⟨some 54, none, .buildSl 25 1 2 (.cons (.nilsl) .nil) [(0, 1, .s 52), (1, 1, .s 53)], []⟩, ⟨some 55, none, .call (.c (.fn 9)) [.s 54], []⟩, ⟨some 51, none, .move (.s 55), []⟩, ⟨some 56, none, .extract 0 (.s 51), []⟩, ⟨some 57, none, .extract 1 (.s 51), []⟩, ⟨some 58, none, .extract 2 (.s 51), []⟩, ⟨some 9, none, .alloc 28 (.cons (.int .i64 0) (.cons (.int .i64 0) (.cons (.nilsl) (.cons (.nilsl) .nil)))), []⟩, ⟨none, none, .store 4 (.s 9) (.s 56), []⟩, ⟨some 10, none, .move (.s 57), []⟩, ⟨some 11, none, .move (.s 58), []⟩]) (.seq (.region g7 [⟨some 60, none, .buildSl 9 1 0 (.cons (.str []) .nil) [], []⟩, ⟨some 61, none, .buildSl 25 1 1 (.cons (.nilsl) .nil) [(0, 1, .s 60)], []⟩, ⟨some 62, none, .call (.c (.fn 9)) [.s 61], []⟩, ⟨some 59, none, .move (.s 62), []⟩, ⟨some 63, none, .extract 0 (.s 59), []⟩, ⟨some 64, none, .extract 1 (.s 59), []⟩, ⟨some 65, none, .extract 2 (.s 59), []⟩, ⟨some 12, none, .alloc 28 (.cons (.int .i64 0) (.cons (.int .i64 0) (.cons (.nilsl) (.cons (.nilsl) .nil)))), []⟩, ⟨none, none, .store 4 (.s 12) (.s 63), []⟩, ⟨some 13, none, .move (.s 64), []⟩, ⟨some 14, none, .move (.s 65), []⟩]) (.seq (.region g7 [⟨some 67, none, .call (.c (.fn 9)) [.c (.nilsl)], []⟩, ⟨some 66, none, .move (.s 67), []⟩, ⟨some 68, none, .extract 0 (.s 66), []⟩, ⟨some 69, none, .extract 1 (.s 66), []⟩, ⟨some 70, none, .extract 2 (.s 66), []⟩, ⟨some 15, none, .alloc 28 (.cons (.int .i64 0) (.cons (.int .i64 0) (.cons (.nilsl) (.cons (.nilsl) .nil)))), []⟩, ⟨none, none, .store 4 (.s 15) (.s 68), []⟩, ⟨some 16, none, .move (.s 69), []⟩, ⟨some 17, none, .move (.s 70), []⟩]) (.seq (.region g7 [⟨some 72, none, .move (.s 1), []⟩, ⟨some 73, none, .load 4 true (.s 5), []⟩, ⟨some 74, none, .call (.c (.fn 11)) [.s 72, .s 73], []⟩, ⟨some 71, none, .move (.s 74), []⟩, ⟨some 75, none, .extract 0 (.s 71), []⟩, ⟨some 76, none, .extract 1 (.s 71), []⟩, ⟨some 18, none, .move (.s 75), []⟩, ⟨some 19, none, .move (.s 76), []⟩]) (.seq (.region g7 [⟨some 78, none, .move (.s 1), []⟩, ⟨some 79, none, .call (.c (.fn 14)) [.c (.int .i64 0)], []⟩, ⟨some 80, none, .call (.c (.fn 11)) [.s 78, .s 79], []⟩, ⟨some 77, none, .move (.s 80), []⟩, ⟨some 81, none, .extract 0 (.s 77), []⟩, ⟨some 82, none, .extract 1 (.s 77), []⟩, ⟨some 20, none, .move (.s 81), []⟩, ⟨some 21, none, .move (.s 82), []⟩]) (.seq (.drawn g7 (.pure 0 ⟨some 83, none, .move (.s 4), []⟩ (.pure 1 ⟨some 84, none, .bin (.eql) (.s 83) (.c (.int .i64 0)), []⟩ (.pure 2 ⟨some 85, none, .move (.s 84), []⟩ (.pure 3 ⟨some 86, some (85, true), .move (.s 3), []⟩ (.pure 4 ⟨some 87, some (85, true), .bin (.eql) (.s 86) (.c (.int .i64 2)), []⟩ (.pure 5 ⟨some 88, none, .pick (.s 85) (.s 87) (.c (.bool false)), []⟩ (.pure 6 ⟨some 89, none, .move (.s 88), []⟩ (.pure 7 ⟨some 90, some (89, true), .load 4 true (.s 2), []⟩ (.pure 8 ⟨some 91, some (89, true), .load 4 true (.s 5), []⟩ (.eff 9 ⟨some 92, some (89, true), .call (.c (.fn 10)) [.s 90, .s 91], []⟩ [] (.pure 10 ⟨some 93, none, .pick (.s 89) (.s 92) (.c (.bool false)), []⟩ (.pure 11 ⟨some 94, none, .move (.s 93), []⟩ (.pure 12 ⟨some 95, some (94, true), .move (.s 8), []⟩ (.pure 13 ⟨some 96, some (94, true), .bin (.eql) (.s 95) (.c (.int .i64 0)), []⟩ (.pure 14 ⟨some 97, none, .pick (.s 94) (.s 96) (.c (.bool false)), []⟩ (.pure 15 ⟨some 98, none, .move (.s 97), []⟩ (.pure 16 ⟨some 99, some (98, true), .move (.s 7), []⟩ (.pure 17 ⟨some 100, some (98, true), .bin (.eql) (.s 99) (.c (.int .i64 1)), []⟩ (.pure 18 ⟨some 101, none, .pick (.s 98) (.s 100) (.c (.bool false)), []⟩ (.pure 19 ⟨some 102, none, .move (.s 101), []⟩ (.pure 20 ⟨some 103, some (102, true), .move (.s 11), []⟩ (.pure 21 ⟨some 104, some (102, true), .bin (.eql) (.s 103) (.c (.int .i64 8)), []⟩ (.pure 22 ⟨some 105, none, .pick (.s 102) (.s 104) (.c (.bool false)), []⟩ (.pure 23 ⟨some 106, none, .move (.s 105), []⟩ (.pure 24 ⟨some 107, some (106, true), .move (.s 14), []⟩ (.pure 25 ⟨some 108, some (106, true), .bin (.eql) (.s 107) (.c (.int .i64 0)), []⟩ (.pure 26 ⟨some 109, none, .pick (.s 106) (.s 108) (.c (.bool false)), []⟩ (.pure 27 ⟨some 110, none, .move (.s 109), []⟩ (.pure 28 ⟨some 111, some (110, true), .move (.s 13), []⟩ (.pure 29 ⟨some 112, some (110, true), .bin (.eql) (.s 111) (.c (.int .i64 0)), []⟩ (.pure 30 ⟨some 113, none, .pick (.s 110) (.s 112) (.c (.bool false)), []⟩ (.pure 31 ⟨some 114, none, .move (.s 113), []⟩ (.pure 32 ⟨some 115, some (114, true), .load 4 true (.s 12), []⟩ (.pure 33 ⟨some 116, some (114, true), .call (.c (.fn 14)) [.c (.int .i64 0)], []⟩ (.eff 34 ⟨some 117, some (114, true), .call (.c (.fn 10)) [.s 115, .s 116], []⟩ [] (.pure 35 ⟨some 118, none, .pick (.s 114) (.s 117) (.c (.bool false)), []⟩ (.pure 36 ⟨some 22, none, .move (.s 118), []⟩ .done)) .none))))))))))))))))))))))))) .none))))))))))) (.seq (.region g7 [⟨some 119, none, .move (.s 22), []⟩, ⟨some 120, none, .move (.s 119), []⟩, ⟨some 121, some (120, true), .move (.s 17), []⟩, ⟨some 122, some (120, true), .bin (.eql) (.s 121) (.c (.int .i64 1)), []⟩, ⟨some 123, none, .pick (.s 120) (.s 122) (.c (.bool false)), []⟩, ⟨some 124, none, .move (.s 123), []⟩, ⟨some 125, some (124, true), .move (.s 19), []⟩, ⟨some 126, none, .pick (.s 124) (.s 125) (.c (.bool false)), []⟩, ⟨some 127, none, .move (.s 126), []⟩, ⟨some 128, some (127, true), .move (.s 18), []⟩, ⟨some 129, some (127, true), .bin (.eql) (.s 128) (.c (.int .i64 2)), []⟩, ⟨some 130, none, .pick (.s 127) (.s 129) (.c (.bool false)), []⟩, ⟨some 131, none, .move (.s 130), []⟩, ⟨some 132, some (131, true), .move (.s 21), []⟩, ⟨some 133, some (131, true), .not (.s 132), []⟩, ⟨some 134, none, .pick (.s 131) (.s 133) (.c (.bool false)), []⟩, ⟨some 0, none, .move (.s 134), []⟩]) .ret)))))))))))
def r7 : List SRes := [.slot 0]
def k7 : List (Nat × Nat × SCode × Nat) := []
theorem e7 : cFunc Try.prog 7 g7 [] [92, 117] k7 = some (c7, r7, 135) := by kernel_rfl
theorem q7 : RgOk Try.prog k7 := RgOk.nil
def headS : Eng.Spec where
  X := Unit
  args := fun _ => .nil
  pre := fun _ => True
  res := fun _ => .bool true
  inst := fun _ => some ()
set_option maxHeartbeats 4000000 in
theorem head_ok : headS.Ok Try.prog 7 := by
  refine Eng.Spec.ok_of e7 q7 (fun _ => [(9, .m makeH), (11, .m checkH), (10, .m sameH), (14, .p decision)]) (fun _ _ => TabOk.m makeH_ok (TabOk.m checkH_ok (TabOk.m sameH_ok (TabOk.p decision_ok TabOk.nil)))) ?_
  intro _ _
  refine ⟨trivial, ?_⟩
  repeat' (first | refine And.intro ?_ ?_ | exact trivial | exact rfl)
  refine Exists.intro F1 (Exists.intro [] ?_)
  refine And.intro (show ((3 : Nat) : Int) ≤ 9223372036854775806 by decide) ?_
  repeat' (first | refine And.intro ?_ ?_ | exact trivial | exact rfl)
  refine fun (y1 : Known × Int) (h1 : y1 = makeV F1) => ?_
  repeat' (first | refine And.intro ?_ ?_ | exact trivial | exact rfl)
  refine Exists.intro F2 (Exists.intro [] ?_)
  refine And.intro (show ((3 : Nat) : Int) ≤ 9223372036854775806 by decide) ?_
  repeat' (first | refine And.intro ?_ ?_ | exact trivial | exact rfl)
  refine fun (y2 : Known × Int) (h2 : y2 = makeV F2) => ?_
  repeat' (first | refine And.intro ?_ ?_ | exact trivial | exact rfl)
  refine Exists.intro F3 (Exists.intro [] ?_)
  refine And.intro (show ((2 : Nat) : Int) ≤ 9223372036854775806 by decide) ?_
  repeat' (first | refine And.intro ?_ ?_ | exact trivial | exact rfl)
  refine fun (y3 : Known × Int) (h3 : y3 = makeV F3) => ?_
  repeat' (first | refine And.intro ?_ ?_ | exact trivial | exact rfl)
  refine Exists.intro F4 (Exists.intro [] ?_)
  refine And.intro (show ((1 : Nat) : Int) ≤ 9223372036854775806 by decide) ?_
  repeat' (first | refine And.intro ?_ ?_ | exact trivial | exact rfl)
  refine fun (y4 : Known × Int) (h4 : y4 = makeV F4) => ?_
  repeat' (first | refine And.intro ?_ ?_ | exact trivial | exact rfl)
  refine Exists.intro F5 (Exists.intro [] ?_)
  refine And.intro (show ((0 : Nat) : Int) ≤ 9223372036854775806 by decide) ?_
  repeat' (first | refine And.intro ?_ ?_ | exact trivial | exact rfl)
  refine fun (y5 : Known × Int) (h5 : y5 = makeV F5) => ?_
  repeat' (first | refine And.intro ?_ ?_ | exact trivial | exact rfl)
  refine Exists.intro (XE.mk F1 want) (Exists.intro [] ?_)
  refine And.intro (And.intro (show ((3 : Nat) : Int) ≤ 9223372036854775806 by decide) want_plan) ?_
  repeat' (first | refine And.intro ?_ ?_ | exact trivial | exact rfl | exact sub_lc (fun a => sub_strN _ _ _ a) | exact sub_lc0 (fun a => sub_strN _ _ _ a) | exact fun (j : Nat) (hj : j < _) => Or.inl (sub_strN _ _ _ _) | exact sub_lc (fun a => sub_natN _ _ _ a) | exact fun (j : Nat) (hj : j < _) => Or.inl (sub_fx _ _ _ _ rfl hj) | exact sub_pTT rfl | exact sub_pCT rfl | exact sub_pTC rfl | exact sub_pCC rfl | exact sub_pRC rfl | exact sub_pRT rfl)
  refine fun (z1 : Int × Bool) (g1 : z1 = checkV F1 want) => ?_
  repeat' (first | refine And.intro ?_ ?_ | exact trivial | exact rfl)
  refine Exists.intro (XE.mk F1 (decP 0)) (Exists.intro [] ?_)
  refine And.intro (And.intro (show ((3 : Nat) : Int) ≤ 9223372036854775806 by decide) (dec_plan 0)) ?_
  repeat' (first | refine And.intro ?_ ?_ | exact trivial | exact rfl | exact sub_lc (fun a => sub_strN _ _ _ a) | exact sub_lc0 (fun a => sub_strN _ _ _ a) | exact fun (j : Nat) (hj : j < _) => Or.inl (sub_strN _ _ _ _) | exact sub_lc (fun a => sub_natN _ _ _ a) | exact fun (j : Nat) (hj : j < _) => Or.inl (sub_fx _ _ _ _ rfl hj) | exact sub_pTT rfl | exact sub_pCT rfl | exact sub_pTC rfl | exact sub_pCC rfl | exact sub_pRC rfl | exact sub_pRT rfl)
  refine fun (z2 : Int × Bool) (g2 : z2 = checkV F1 (decP 0)) => ?_
  have a1 : y1.2 = 0 ∧ y1.1.d = 2 := by rw [h1]; exact v1
  have a2 : y2.2 = 0 ∧ y2.1.d = 1 := by rw [h2]; exact v2
  have a3 : y3.2 = 8 := by rw [h3]; exact v3
  have a4 : y4.2 = 0 ∧ y4.1.d = 0 := by rw [h4]; exact v4
  have a5 : y5.2 = 1 := by rw [h5]; exact v5
  have b1 : z1.1 = 2 ∧ z1.2 = true := by rw [g1, c1]; exact ⟨rfl, rfl⟩
  have b2 : z2.2 = false := by rw [g2]; exact c2
  have p1 : PlanOk 100 y1.1.plan := by rw [h1]; exact plan_le (by omega) (make_plan F1)
  have p4 : PlanOk 100 y4.1.plan := by rw [h4]; exact plan_le (by omega) (make_plan F4)
  have s1 : sameP y1.1.plan want = true := by rw [h1]; exact v1s
  have s4 : sameP y4.1.plan (decP 0) = true := by rw [h4]; exact v4s
  clear h1 h2 h3 h4 h5 g1 g2
  repeat' (first | refine And.intro ?_ ?_ | exact trivial | exact rfl)
  · refine fun (_ : pickB _ _ _ _ _ = true) => ?_
    repeat' (first | refine And.intro ?_ ?_ | exact trivial | exact rfl)
    refine Exists.intro (XP2.mk y1.1.plan want) (Exists.intro [] ?_)
    refine And.intro p1 ?_
    repeat' (first | refine And.intro ?_ ?_ | exact trivial | exact rfl | exact sub_lc (fun a => sub_strN _ _ _ a) | exact sub_lc0 (fun a => sub_strN _ _ _ a) | exact fun (j : Nat) (hj : j < _) => Or.inl (sub_strN _ _ _ _) | exact sub_lc (fun a => sub_natN _ _ _ a) | exact fun (j : Nat) (hj : j < _) => Or.inl (sub_fx _ _ _ _ rfl hj) | exact sub_pTT rfl | exact sub_pCT rfl | exact sub_pTC rfl | exact sub_pCC rfl | exact sub_pRC rfl | exact sub_pRT rfl)
    refine fun (w1 : Bool) (e1 : w1 = sameP y1.1.plan want) => ?_
    have f1 : w1 = true := e1.trans s1
    repeat' (first | refine And.intro ?_ ?_ | exact trivial | exact rfl)
    · refine fun (_ : guardP _ _ _ _) => ?_
      repeat' (first | refine And.intro ?_ ?_ | exact trivial | exact rfl)
    · refine fun (_ : pickB _ _ _ _ _ = true) => ?_
      repeat' (first | refine And.intro ?_ ?_ | exact trivial | exact rfl)
      refine Exists.intro (XP2.mk y4.1.plan (decP 0)) (Exists.intro [] ?_)
      refine And.intro p4 ?_
      repeat' (first | refine And.intro ?_ ?_ | exact trivial | exact rfl | exact sub_lc (fun a => sub_strN _ _ _ a) | exact sub_lc0 (fun a => sub_strN _ _ _ a) | exact fun (j : Nat) (hj : j < _) => Or.inl (sub_strN _ _ _ _) | exact sub_lc (fun a => sub_natN _ _ _ a) | exact fun (j : Nat) (hj : j < _) => Or.inl (sub_fx _ _ _ _ rfl hj) | exact sub_pTT rfl | exact sub_pCT rfl | exact sub_pTC rfl | exact sub_pCC rfl | exact sub_pRC rfl | exact sub_pRT rfl)
      refine fun (w2 : Bool) (e2 : w2 = sameP y4.1.plan (decP 0)) => ?_
      have f2 : w2 = true := e2.trans s4
      repeat' (first | refine And.intro ?_ ?_ | exact trivial | exact rfl)
      have ch := pand (pand (pand (pand (pand (pand (pand (pand (decide_eq_true a1.1) (decide_eq_true a1.2) (i := 87)) f1 (i := 92)) (decide_eq_true a2.1) (i := 96)) (decide_eq_true a2.2) (i := 100)) (decide_eq_true a3) (i := 104)) (decide_eq_true a4.1) (i := 108)) (decide_eq_true a4.2) (i := 112)) f2 (i := 117)
      exact pand (pand (pand (pand ch (decide_eq_true a5)) b1.2) (decide_eq_true b1.1)) (by rw [b2]; rfl)
    · exact fun (h : pickB _ _ _ _ _ = !true) => absurd ((pand (pand (pand (pand (pand (pand (pand (decide_eq_true a1.1) (decide_eq_true a1.2)) f1) (decide_eq_true a2.1)) (decide_eq_true a2.2)) (decide_eq_true a3)) (decide_eq_true a4.1)) (decide_eq_true a4.2)).symm.trans h) (by decide)
  · exact fun (h : pickB _ _ _ _ _ = !true) => absurd ((pand (decide_eq_true a1.1) (decide_eq_true a1.2)).symm.trans h) (by decide)
end A14
