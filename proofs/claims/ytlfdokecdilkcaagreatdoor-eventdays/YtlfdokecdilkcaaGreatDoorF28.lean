/- A part of the proof. -/
import Derived.Test.YtlfdokecdilkcaaGreatDoorRT7
import Derived.Test.YtlfdokecdilkcaaGreatDoorF26
import Derived.Test.YtlfdokecdilkcaaGreatDoorF25
open Go Go.Eng Go.Proofs G1 G2 G3 G4 G6 G7 EV0 N1 N2 F1 F7 F9 F10 F12 F13 F20 F21 F22 F24 F26 RT7
set_option maxRecDepth 100000
namespace F28
theorem etx_len {e : Ev} (h : okV e) (hf : frmV e = true) : (etxV e).length <= 140737488355328 := by
 unfold etxV
 rw [if_pos hf]
 exact join_bd h (frm_ff hf)
attribute [local irreducible] frmV etxV worV fewV
def g6 : List Nat := [0, 22, 3, 1, 2, 13, 53, 11, 55, 7, 15, 17, 14, 16, 10, 12, 8, 9, 6]
def c6 : SCode :=
 .seq (.region g6 [(zo 3 (.box 31 (.s 0))), (zo 6 (.move (.c (.bool false))))]) (.seq (.region g6 [(zo 18 (.call (.c (.fn 10)) [])), (zo 7 (.move (.s 18)))]) (.seq (.seq (.region g6 [(zo 19 (.load 18 true (.s 3))), (zo 20 (.load 18 true (.s 3))), (zo 21 (.call (.c (.fn 11)) [.s 19, .s 20])), (zo 22 (.not (.s 21)))]) (.cond (.s 22) (.seq (.region g6 [(zo 23 (.move (.s 7))), (zo 6 (.move (.s 23)))]) .ret) .skip)) (.seq (.join 0 [24, 25, 8, 9] (.drawn g6 (.pure 0 (zo 24 (.load 18 true (.s 3))) (.pure 1 (zo 25 (.load 18 true (.s 3))) (.eff 2 (zo 8 (.alloc 31 zEv)) [(zo 25 (.load 18 true (.s 3))), (zo 24 (.load 18 true (.s 3)))] (.eff 3 (zo 9 (.alloc 31 zEv)) [(zo 25 (.load 18 true (.s 3))), (zo 24 (.load 18 true (.s 3)))] (.eff 4 ⟨none, none, .store 18 (.s 8) (.s 24), []⟩ [(zo 25 (.load 18 true (.s 3)))] (.eff 5 ⟨none, none, .store 18 (.s 9) (.s 25), []⟩ [] .done .none) .none) .none) (.eff 3 (zo 9 (.alloc 31 zEv)) [(zo 25 (.load 18 true (.s 3))), (zo 24 (.load 18 true (.s 3)))] (.eff 2 (zo 8 (.alloc 31 zEv)) [(zo 25 (.load 18 true (.s 3))), (zo 24 (.load 18 true (.s 3)))] (.eff 4 ⟨none, none, .store 18 (.s 8) (.s 24), []⟩ [(zo 25 (.load 18 true (.s 3)))] (.eff 5 ⟨none, none, .store 18 (.s 9) (.s 25), []⟩ [] .done .none) .none) .none) .none)))))) (.seq (.region g6 [(zo 26 (.move (.s 1))), (zo 27 (.cnv .i64 (.s 26))), (zo 28 (.bin (.rem) (.s 27) (.c (.int .i64 100001)))), (zo 29 (.move (.s 2))), (zo 30 (.cnv .i64 (.s 29))), (zo 31 (.bin (.rem) (.s 30) (.c (.int .i64 100001)))), (zo 32 (.fldA 1 (.s 8))), ⟨none, none, .store 1 (.s 32) (.s 28), []⟩, (zo 33 (.fldA 1 (.s 9))), ⟨none, none, .store 1 (.s 33) (.s 31), []⟩]) (.seq (.region g6 [(zo 35 (.load 18 true (.s 8))), (zo 36 (.call (.c (.fn 12)) [.s 35])), (zo 34 (.move (.s 36))), (zo 37 (.extract 0 (.s 34))), (zo 38 (.extract 1 (.s 34))), (zo 10 (.move (.s 37))), (zo 11 (.move (.s 38)))]) (.seq (.region g6 [(zo 40 (.load 18 true (.s 9))), (zo 41 (.call (.c (.fn 12)) [.s 40])), (zo 39 (.move (.s 41))), (zo 42 (.extract 0 (.s 39))), (zo 43 (.extract 1 (.s 39))), (zo 12 (.move (.s 42))), (zo 13 (.move (.s 43)))]) (.seq (.seq (.drawn g6 (.pure 0 (zo 44 (.move (.s 11))) (.pure 1 (zo 45 (.move (.s 13))) (.pure 2 (zo 46 (.bin (.neq) (.s 44) (.s 45))) (.pure 3 (zo 47 (.move (.s 46))) (.pure 4 (zg 48 47 false (.load 18 true (.s 8))) (.pure 5 (zg 49 47 false (.call (.c (.fn 16)) [.s 48])) (.pure 6 (zg 50 47 false (.load 18 true (.s 9))) (.pure 7 (zg 51 47 false (.call (.c (.fn 16)) [.s 50])) (.pure 8 (zg 52 47 false (.eqB true (.s 49) (.s 51))) (.pure 9 (zo 53 (.pick (.s 47) (.c (.bool true)) (.s 52))) .done))))))))))) (.cond (.s 53) (.seq (.region g6 [(zo 6 (.move (.c (.bool false))))]) .ret) .skip)) (.seq (.seq (.region g6 [(zo 54 (.move (.s 11))), (zo 55 (.bin (.neq) (.s 54) (.c (.int .i64 0))))]) (.cond (.s 55) (.seq (.region g6 [(zo 56 (.move (.s 7))), (zo 6 (.move (.s 56)))]) .ret) .skip)) (.seq (.region g6 [(zo 58 (.move (.s 10))), (zo 59 (.call (.c (.fn 22)) [.s 58])), (zo 57 (.move (.s 59))), (zo 60 (.extract 0 (.s 57))), (zo 61 (.extract 1 (.s 57))), (zo 14 (.move (.s 60))), (zo 15 (.move (.s 61)))]) (.seq (.region g6 [(zo 63 (.move (.s 12))), (zo 64 (.call (.c (.fn 22)) [.s 63])), (zo 62 (.move (.s 64))), (zo 65 (.extract 0 (.s 62))), (zo 66 (.extract 1 (.s 62))), (zo 16 (.move (.s 65))), (zo 17 (.move (.s 66)))]) (.seq (.region g6 [(zo 67 (.move (.s 7))), (zo 68 (.move (.s 67))), (zg 69 68 true (.move (.s 15))), (zo 70 (.pick (.s 68) (.s 69) (.c (.bool false)))), (zo 71 (.move (.s 70))), (zg 72 71 true (.move (.s 17))), (zo 73 (.pick (.s 71) (.s 72) (.c (.bool false)))), (zo 74 (.move (.s 73))), (zg 75 74 true (.move (.s 14))), (zg 76 74 true (.move (.s 16))), (zg 77 74 true (.bin (.eql) (.s 75) (.s 76))), (zo 78 (.pick (.s 74) (.s 77) (.c (.bool false)))), (zo 79 (.move (.s 78))), (zg 80 79 true (.move (.s 10))), (zg 81 79 true (.move (.s 12))), (zg 82 79 true (.bin (.eql) (.s 80) (.s 81))), (zg 83 79 true (.fldA 1 (.s 8))), (zg 84 79 true (.load 1 false (.s 83))), (zg 85 79 true (.fldA 1 (.s 9))), (zg 86 79 true (.load 1 false (.s 85))), (zg 87 79 true (.bin (.eql) (.s 84) (.s 86))), (zg 88 79 true (.eqB false (.s 82) (.s 87))), (zo 89 (.pick (.s 79) (.s 88) (.c (.bool false)))), (zo 6 (.move (.s 89)))]) .ret)))))))))))
def r6 : List SRes := [.slot 6]
def k6 : List (Nat × Nat × SCode × Nat) := []
theorem e6 : cFunc Tryz.prog 6 g6 [1000004] [] k6 = some (c6, r6, 90) := by kernel_rfl
theorem q6 : RgOk Tryz.prog k6 := RgOk.nil
def worM : Eng.MSpec := worS.mof (B × Bool) (fun s y => y = ((worV s).getD [], (worV s).isSome)) (fun _ y => .tup (.cons (.str y.1) (.cons (.bool y.2) .nil)))
theorem worM_ok : worM.Ok Tryz.prog 22 := Eng.Spec.mof_ok wor_ok fun s _ => ⟨((worV s).getD [], (worV s).isSome), rfl, rfl⟩
def law6 : Eng.Spec where
 X := Ev × Int × Int
 args := fun x => .cons (evE x.1) (.cons (.int .u32 x.2.1) (.cons (.int .u32 x.2.2) .nil))
 pre := fun x => bigV x.1 /\ (0 <= x.2.1 /\ x.2.1 <= 4294967295) /\ (0 <= x.2.2 /\ x.2.2 <= 4294967295)
 res := fun _ => .bool true
 inst := fun _ => none
set_option maxHeartbeats 8000000 in
theorem law6_ok : law6.Ok Tryz.prog 6 := by
 refine Eng.Spec.okR e6 q6 (fun _ => [(10, .p headS), (11, .p fw2S), (12, .m etxM), (16, .p frmS), (22, .m worM)])
  (fun _ _ => TabOk.p head_ok (TabOk.p fw2_ok (TabOk.m etxM_ok (TabOk.p frm_ok (TabOk.m worM_ok TabOk.nil))))) ?_
 rintro ⟨e, m, n⟩ ⟨(hb : bigV e), ⟨(m0 : 0 <= m), (m1 : m <= 4294967295)⟩, (n0 : 0 <= n), (n1 : n <= 4294967295)⟩
 refine ⟨trivial, ?_⟩
 repeat' (first | exact hb | apply And.intro | exact trivial | exact rfl | exact lz fun _ => rfl | (refine fun (_ : guardP _ _ _ _) => ?_))
 ·refine fun _ => ?_
  repeat' (first | apply And.intro | exact trivial | exact rfl)
 ·refine fun (hc : (!(fewV e && fewV e)) = false) => ?_
  have hfw : fewV e = true := by have := bn_f hc; rw [Bool.and_self] at this; exact this
  have ho := few_okV hfw
  repeat' (first | exact ho | apply And.intro | exact trivial | exact rfl | exact lz fun _ => rfl | (refine fun (_ : guardP _ _ _ _) => ?_))
  refine Exists.intro ⟨Unit, fun _ => True, fun _ => [(8, .own 20 0), (9, .own 21 0)], fun _ => [(20, .cells 31 (evL e)), (21, .cells 31 (evL e))], fun _ => 0⟩ ?_
  refine And.intro ?_ ?_
  ·repeat' (first | apply And.intro | exact trivial | exact rfl | exact lz fun _ => rfl | (refine fun (_ : guardP _ _ _ _) => ?_))
   all_goals refine Exists.intro () ?_
   all_goals repeat' (first | apply And.intro | exact trivial | exact rfl | exact lz fun _ => rfl | (refine fun (_ : guardP _ _ _ _) => ?_))
  refine fun (_ : Unit) (_ : True) => ?_
  have hm : 0 <= m.tmod 100001 /\ m.tmod 100001 <= 100000 := by
   rw [Int.tmod_eq_emod_of_nonneg m0]; omega
  have hn : 0 <= n.tmod 100001 /\ n.tmod 100001 <= 100000 := by
   rw [Int.tmod_eq_emod_of_nonneg n0]; omega
  have q1 : -9223372036854775808 <= m := by omega
  have q2 : m <= 9223372036854775807 := by omega
  have q3 : -9223372036854775808 <= n := by omega
  have q4 : n <= 9223372036854775807 := by omega
  have q5 : (100001 : Int) ≠ 0 := by decide
  have hfd := frm_day (e := e) hm hn
  repeat' (first | exact q1 | exact q2 | exact q3 | exact q4 | exact q5 | apply And.intro | exact trivial | exact rfl | exact lz fun _ => rfl | (refine fun (_ : guardP _ _ _ _) => ?_))
  refine Exists.intro (onD e (m.tmod 100001)) (Exists.intro [] ?_)
  repeat' (first | exact onD_ok ho | apply And.intro | exact trivial | exact rfl | exact lz fun _ => rfl | (refine fun (_ : guardP _ _ _ _) => ?_))
  refine fun (z1 : B × Int) (h1 : z1 = (etxV (onD e (m.tmod 100001)), if frmV (onD e (m.tmod 100001)) = true then 0 else 1)) => ?_
  repeat' (first | apply And.intro | exact trivial | exact rfl | exact lz fun _ => rfl | (refine fun (_ : guardP _ _ _ _) => ?_))
  refine Exists.intro (onD e (n.tmod 100001)) (Exists.intro [] ?_)
  repeat' (first | exact onD_ok ho | apply And.intro | exact trivial | exact rfl | exact lz fun _ => rfl | (refine fun (_ : guardP _ _ _ _) => ?_))
  refine fun (z2 : B × Int) (h2 : z2 = (etxV (onD e (n.tmod 100001)), if frmV (onD e (n.tmod 100001)) = true then 0 else 1)) => ?_
  have hf2 : z1.2 = z2.2 := by rw [h1, h2]; show (if _ then _ else _) = (if _ then _ else _); rw [hfd]
  repeat' (first | exact onD_ok ho | apply And.intro | exact trivial | exact rfl | exact lz fun _ => rfl | (refine fun (_ : guardP _ _ _ _) => ?_))
  ·refine fun (hc0 : pickB (!decide (z1.2 = z2.2)) (.c (.bool true)) (.s 52) true (!decide (frmV (onD e (m.tmod 100001)) = frmV (onD e (n.tmod 100001)))) = true) => ?_
   exfalso
   rw [pickB_or, decide_eq_true hf2, decide_eq_true hfd] at hc0
   exact absurd hc0 (by decide)
  refine fun _ => ?_
  repeat' (first | apply And.intro | exact trivial | exact rfl | exact lz fun _ => rfl | (refine fun (_ : guardP _ _ _ _) => ?_))
  ·refine fun _ => ?_
   repeat' (first | apply And.intro | exact trivial | exact rfl | exact lz fun _ => rfl | (refine fun (_ : guardP _ _ _ _) => ?_))
  refine fun (hz : (!decide (z1.2 = 0)) = false) => ?_
  have hz : z1.2 = 0 := of_decide_eq_true (bn_f hz)
  have g1 : frmV (onD e (m.tmod 100001)) = true := by
   rw [h1] at hz
   replace hz : (if frmV (onD e (m.tmod 100001)) = true then (0 : Int) else 1) = 0 := hz
   split at hz
   ·assumption
   ·cases hz
  have g2 : frmV (onD e (n.tmod 100001)) = true := hfd ▸ g1
  have l1 : z1.1.length <= 140737488355328 := by rw [h1]; exact etx_len (onD_ok ho) g1
  have l2 : z2.1.length <= 140737488355328 := by rw [h2]; exact etx_len (onD_ok ho) g2
  repeat' (first | apply And.intro | exact trivial | exact rfl | exact lz fun _ => rfl | (refine fun (_ : guardP _ _ _ _) => ?_))
  refine Exists.intro z1.1 (Exists.intro [] ?_)
  repeat' (first | exact l1 | apply And.intro | exact trivial | exact rfl | exact lz fun _ => rfl | (refine fun (_ : guardP _ _ _ _) => ?_))
  refine fun (y1 : B × Bool) (hy1 : y1 = ((worV z1.1).getD [], (worV z1.1).isSome)) => ?_
  repeat' (first | apply And.intro | exact trivial | exact rfl | exact lz fun _ => rfl | (refine fun (_ : guardP _ _ _ _) => ?_))
  refine Exists.intro z2.1 (Exists.intro [] ?_)
  repeat' (first | exact l2 | apply And.intro | exact trivial | exact rfl | exact lz fun _ => rfl | (refine fun (_ : guardP _ _ _ _) => ?_))
  refine fun (y2 : B × Bool) (hy2 : y2 = ((worV z2.1).getD [], (worV z2.1).isSome)) => ?_
  have r1 : worV z1.1 = some (32 :: Lib.join (rstL e) [32]) := by rw [h1]; exact wor_day g1
  have r2 : worV z2.1 = some (32 :: Lib.join (rstL e) [32]) := by rw [h2]; exact wor_day g2
  have e1 : y1 = (32 :: Lib.join (rstL e) [32], true) := by rw [hy1, r1]; rfl
  have e2 : y2 = (32 :: Lib.join (rstL e) [32], true) := by rw [hy2, r2]; rfl
  have e3 : decide (z1.1 = z2.1) = decide (m.tmod 100001 = n.tmod 100001) := by
   rw [h1, h2, Bool.eq_iff_iff, decide_eq_true_iff, decide_eq_true_iff]
   exact etx_days g1 g2
  have ef : pickB (pickB (pickB (pickB true (.s 69) (.c (.bool false)) y1.2 false) (.s 72) (.c (.bool false)) y2.2 false) (.s 77) (.c (.bool false)) (decide (y1.1 = y2.1)) false) (.s 88) (.c (.bool false)) (decide (decide (z1.1 = z2.1) = decide (m.tmod 100001 = n.tmod 100001))) false = true := by
   rw [pickB_and, pickB_and, pickB_and, pickB_and, e1, e2, e3]
   simp
  repeat' (first | exact ef | apply And.intro | exact trivial | exact rfl | exact lz fun _ => rfl | (refine fun (_ : guardP _ _ _ _) => ?_))
end F28
