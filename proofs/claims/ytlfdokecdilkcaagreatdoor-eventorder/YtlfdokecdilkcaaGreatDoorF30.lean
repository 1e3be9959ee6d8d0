/- A part of the proof. -/
import Derived.Test.YtlfdokecdilkcaaGreatDoorF26
import Derived.Test.YtlfdokecdilkcaaGreatDoorRT9
import Derived.Test.YtlfdokecdilkcaaGreatDoorF25
import Derived.Test.YtlfdokecdilkcaaGreatDoorEngLib
open Go Go.Eng Go.Proofs G1 G2 G3 G4 G6 G7 EV0 N1 N2 F1 F7 F9 F10 F12 F13 F20 F21 F22 F26 RT9
set_option maxRecDepth 100000
namespace F30
attribute [local irreducible] frmV fewV
def g8 : List Nat := [0, 12, 23, 5, 41, 6, 59, 7, 3, 4, 1, 2]
def c8 : SCode :=
 .seq (.region g8 [(zo 1 (.box 31 (.s 0))), (zo 2 (.move (.c (.bool false))))]) (.seq (.region g8 [(zo 8 (.call (.c (.fn 10)) [])), (zo 3 (.move (.s 8)))]) (.seq (.seq (.region g8 [(zo 9 (.load 18 true (.s 1))), (zo 10 (.load 18 true (.s 1))), (zo 11 (.call (.c (.fn 11)) [.s 9, .s 10])), (zo 12 (.not (.s 11)))]) (.cond (.s 12) (.seq (.region g8 [(zo 13 (.move (.s 3))), (zo 2 (.move (.s 13)))]) .ret) .skip)) (.seq (.region g8 [(zo 14 (.load 18 true (.s 1))), (zo 4 (.alloc 31 zEv)), ⟨none, none, .store 18 (.s 4) (.s 14), []⟩]) (.seq (.region g8 [(zo 15 (.fldA 9 (.s 4))), ⟨none, none, .store 1 (.s 15) (.c (.nilsl)), []⟩, (zo 16 (.fldA 17 (.s 4))), ⟨none, none, .store 1 (.s 16) (.c (.nilsl)), []⟩, (zo 17 (.fldA 8 (.s 4))), ⟨none, none, .store 1 (.s 17) (.c (.nilsl)), []⟩]) (.seq (.seq (.region g8 [(zo 18 (.fldA 9 (.s 1))), (zo 19 (.load 1 false (.s 18))), (zo 20 (.lenSl (.s 19))), (zo 21 (.bin (.sub) (.s 20) (.c (.int .i64 1)))), (zo 5 (.move (.s 21)))]) (.block 0 (.loop 0 [22, 23, 26, 27, 28, 29, 30, 31, 32, 33, 34, 35, 24, 25, 5] (.seq (.seq (.region g8 [(zo 22 (.move (.s 5))), (zo 23 (.bin (.geq) (.s 22) (.c (.int .i64 0))))]) (.cond (.s 23) .skip (.exit 0))) (.seq (.block 1 (.drawn g8 (.pure 0 (zo 26 (.fldA 9 (.s 4))) (.pure 1 (zo 27 (.load 1 false (.s 26))) (.pure 2 (zo 28 (.fldA 9 (.s 1))) (.pure 3 (zo 29 (.load 1 false (.s 28))) (.pure 4 (zo 30 (.move (.s 5))) (.pure 5 (zo 31 (.idxSl 3 (.s 29) (.s 30))) (.pure 6 (zo 32 (.load 3 true (.s 31))) (.pure 7 (zo 33 (.buildSl 45 3 1 (.cons (.str []) (.cons (.int .i64 0) (.cons (.str []) .nil))) [(0, 3, .s 32)])) (.eff 8 (zo 34 (.app 45 3 40 (.s 27) (.s 33))) [] (.pure 9 (zo 35 (.fldA 9 (.s 4))) (.eff 10 ⟨none, none, .store 1 (.s 35) (.s 34), []⟩ [] .done .none)) .none))))))))))) (.region g8 [(zo 24 (.move (.s 5))), (zo 25 (.bin (.sub) (.s 24) (.c (.int .i64 1)))), (zo 5 (.move (.s 25)))])))))) (.seq (.seq (.region g8 [(zo 36 (.fldA 17 (.s 1))), (zo 37 (.load 1 false (.s 36))), (zo 38 (.lenSl (.s 37))), (zo 39 (.bin (.sub) (.s 38) (.c (.int .i64 1)))), (zo 6 (.move (.s 39)))]) (.block 2 (.loop 1 [40, 41, 44, 45, 46, 47, 48, 49, 50, 51, 52, 53, 42, 43, 6] (.seq (.seq (.region g8 [(zo 40 (.move (.s 6))), (zo 41 (.bin (.geq) (.s 40) (.c (.int .i64 0))))]) (.cond (.s 41) .skip (.exit 2))) (.seq (.block 3 (.drawn g8 (.pure 0 (zo 44 (.fldA 17 (.s 4))) (.pure 1 (zo 45 (.load 1 false (.s 44))) (.pure 2 (zo 46 (.fldA 17 (.s 1))) (.pure 3 (zo 47 (.load 1 false (.s 46))) (.pure 4 (zo 48 (.move (.s 6))) (.pure 5 (zo 49 (.idxSl 7 (.s 47) (.s 48))) (.pure 6 (zo 50 (.load 7 true (.s 49))) (.pure 7 (zo 51 (.buildSl 47 7 1 zEn [(0, 7, .s 50)])) (.eff 8 (zo 52 (.app 47 7 72 (.s 45) (.s 51))) [] (.pure 9 (zo 53 (.fldA 17 (.s 4))) (.eff 10 ⟨none, none, .store 1 (.s 53) (.s 52), []⟩ [] .done .none)) .none))))))))))) (.region g8 [(zo 42 (.move (.s 6))), (zo 43 (.bin (.sub) (.s 42) (.c (.int .i64 1)))), (zo 6 (.move (.s 43)))])))))) (.seq (.seq (.region g8 [(zo 54 (.fldA 8 (.s 1))), (zo 55 (.load 1 false (.s 54))), (zo 56 (.lenSl (.s 55))), (zo 57 (.bin (.sub) (.s 56) (.c (.int .i64 1)))), (zo 7 (.move (.s 57)))]) (.block 4 (.loop 2 [58, 59, 62, 63, 64, 65, 66, 67, 68, 69, 70, 71, 60, 61, 7] (.seq (.seq (.region g8 [(zo 58 (.move (.s 7))), (zo 59 (.bin (.geq) (.s 58) (.c (.int .i64 0))))]) (.cond (.s 59) .skip (.exit 4))) (.seq (.block 5 (.drawn g8 (.pure 0 (zo 62 (.fldA 8 (.s 4))) (.pure 1 (zo 63 (.load 1 false (.s 62))) (.pure 2 (zo 64 (.fldA 8 (.s 1))) (.pure 3 (zo 65 (.load 1 false (.s 64))) (.pure 4 (zo 66 (.move (.s 7))) (.pure 5 (zo 67 (.idxSl 1 (.s 65) (.s 66))) (.pure 6 (zo 68 (.load 1 false (.s 67))) (.pure 7 (zo 69 (.buildSl 9 1 1 (.cons (.str []) .nil) [(0, 1, .s 68)])) (.eff 8 (zo 70 (.app 9 1 16 (.s 63) (.s 69))) [] (.pure 9 (zo 71 (.fldA 8 (.s 4))) (.eff 10 ⟨none, none, .store 1 (.s 71) (.s 70), []⟩ [] .done .none)) .none))))))))))) (.region g8 [(zo 60 (.move (.s 7))), (zo 61 (.bin (.sub) (.s 60) (.c (.int .i64 1)))), (zo 7 (.move (.s 61)))])))))) (.seq (.drawn g8 (.pure 0 (zo 72 (.move (.s 3))) (.pure 1 (zo 73 (.move (.s 72))) (.pure 2 (zg 74 73 true (.load 18 true (.s 4))) (.pure 4 (zg 76 73 true (.load 18 true (.s 1))) (.eff 3 (zg 75 73 true (.call (.c (.fn 16)) [.s 74])) [(zg 76 73 true (.load 18 true (.s 1)))] (.eff 5 (zg 77 73 true (.call (.c (.fn 16)) [.s 76])) [] (.pure 6 (zg 78 73 true (.eqB false (.s 75) (.s 77))) (.pure 7 (zo 79 (.pick (.s 73) (.s 78) (.c (.bool false)))) (.pure 8 (zo 2 (.move (.s 79))) .done))) .none) .none)))))) .ret))))))))
def r8 : List SRes := [.slot 2]
def k8 : List (Nat × Nat × SCode × Nat) := []
theorem e8 : cFunc Tryz.prog 8 g8 [] [75, 77] k8 = some (c8, r8, 80) := by kernel_rfl
theorem q8 : RgOk Tryz.prog k8 := RgOk.nil
def frmB : Eng.MSpec := frmS.mof Bool (fun e y => y = frmV e) (fun _ y => .bool y)
theorem frmB_ok : frmB.Ok Tryz.prog 16 := Eng.Spec.mof_ok frm_ok fun e _ => ⟨frmV e, rfl, rfl⟩
def evX (e : Ev) (s n l : SV) : SV := .cons (.int .i64 e.kind) (.cons (.int .i64 e.day) (.cons (.int .i64 e.a) (.cons (.int .i64 e.b) (.cons (.int .i64 e.off)
 (.cons (.str e.id) (.cons (.str e.oth) (.cons (.str e.txt) (.cons s (.cons n (hnC e.num (.cons (.int .i64 e.pt.1) (.cons (.int .i64 e.pt.2) (.cons (rgE e.path) (.cons l .nil))))))))))))))
def law8 : Eng.Spec where
 X := Ev
 args := fun x => .cons (evE x) .nil
 pre := bigV
 res := fun _ => .bool true
 inst := fun _ => none
set_option maxHeartbeats 8000000 in
theorem law8_ok : law8.Ok Tryz.prog 8 := by
 refine Eng.Spec.okR e8 q8 (fun _ => [(10, .p headS), (11, .p fw2S), (16, .m frmB)])
  (fun _ _ => TabOk.p head_ok (TabOk.p fw2_ok (TabOk.m frmB_ok TabOk.nil))) ?_
 rintro (e : Ev) (hb : bigV e)
 refine ⟨trivial, ?_⟩
 repeat' (first | exact hb | apply And.intro | exact trivial | exact rfl | exact lz fun _ => rfl | (refine fun (_ : guardP _ _ _ _) => ?_))
 ·refine fun _ => ?_
  repeat' (first | apply And.intro | exact trivial | exact rfl)
 ·refine fun (hc : (!(fewV e && fewV e)) = false) => ?_
  have hfw : fewV e = true := by have := bn_f hc; rw [Bool.and_self] at this; exact this
  have ho := few_okV hfw
  have n1 := ho.names.1
  have n2 := ho.list.1
  have n3 := ho.ids.1
  have b1 : -9223372036854775808 <= (e.names.n : Int) - 1 := by omega
  have b2 : (e.names.n : Int) - 1 <= 9223372036854775807 := by omega
  have b3 : -9223372036854775808 <= (e.list.n : Int) - 1 := by omega
  have b4 : (e.list.n : Int) - 1 <= 9223372036854775807 := by omega
  have b5 : -9223372036854775808 <= (e.ids.n : Int) - 1 := by omega
  have b6 : (e.ids.n : Int) - 1 <= 9223372036854775807 := by omega
  repeat' (first | with_reducible exact b1 | with_reducible exact b2 | apply And.intro | exact trivial | exact rfl | exact lz fun _ => rfl | (refine fun (_ : guardP _ _ _ _) => ?_))
  refine ⟨⟨Nat × Int, fun x => x.1 <= e.names.n /\ x.2 = (e.names.n : Int) - 1 - (x.1 : Int), fun x => [(5, .int .i64 x.2), (4, .own 20 0)],
   fun x => [(20, .cells 31 (evX e .nilsl (.lsl 21 3 x.1) .nilsl)), (21, .arr 45 3 x.1 fun j => nmL (e.names.f (e.names.n - 1 - j)))], fun x => e.names.n - x.1⟩, (0, (e.names.n : Int) - 1), ⟨Nat.zero_le _, (by simp)⟩, ?_, ?_⟩
  ·repeat' (first | apply And.intro | exact trivial | exact rfl | exact lz fun _ => rfl | (refine fun (_ : guardP _ _ _ _) => ?_))
  rintro ⟨i0, c0⟩ ⟨(hi : i0 <= e.names.n), (hc : c0 = (e.names.n : Int) - 1 - (i0 : Int))⟩
  repeat' (first | apply And.intro | exact trivial | exact rfl | exact lz fun _ => rfl | (refine fun (_ : guardP _ _ _ _) => ?_))
  ·refine fun hg => ?_
   have h0 : (0 : Int) <= c0 := of_decide_eq_true hg
   have hc1 : c0 < (e.names.n : Int) := by omega
   have hil : i0 + 1 <= e.names.n := by omega
   have q1 : -9223372036854775808 <= c0 - 1 := by omega
   have q2 : c0 - 1 <= 9223372036854775807 := by omega
   have m1 : i0 + 1 <= 9223372036854775807 := by omega
   have m2 : (i0 + 1) * 40 <= 140737488355328 := by omega
   have hx : c0.toNat = e.names.n - 1 - i0 := by omega
   have he := congrArg (fun j => nmL (e.names.f j)) hx
   repeat' (first | with_reducible exact h0 | with_reducible exact hc1 | with_reducible exact q1 | with_reducible exact q2 | with_reducible exact m1 | with_reducible exact m2 | apply And.intro | exact trivial | exact rfl | exact lz fun _ => rfl | (refine fun (_ : guardP _ _ _ _) => ?_))
   refine Exists.intro (i0 + 1, c0 - 1) (And.intro ⟨hil, (by dsimp only; omega)⟩ ?_)
   repeat' (first | apply And.intro | exact trivial | exact rfl | exact lz fun _ => rfl | (refine fun (_ : guardP _ _ _ _) => ?_) | exact fun (j : Nat) (hj : j < i0 + 1) => EL.subC_eq (EL.app_f (g := nmL) (f := fun j => e.names.f (e.names.n - 1 - j)) he hj) (sub_nm ..))
   show e.names.n - (i0 + 1) < e.names.n - i0
   omega
  ·refine fun hg => ?_
   have h0 : ¬ (0 : Int) <= c0 := of_decide_eq_false hg
   have hin0 : i0 = e.names.n := by omega
   repeat' (first | with_reducible exact b3 | with_reducible exact b4 | apply And.intro | exact trivial | exact rfl | exact lz fun _ => rfl | (refine fun (_ : guardP _ _ _ _) => ?_))
   refine ⟨⟨Nat × Int, fun x => x.1 <= e.list.n /\ x.2 = (e.list.n : Int) - 1 - (x.1 : Int), fun x => [(6, .int .i64 x.2)],
    fun x => [(20, .cells 31 (evX e .nilsl (.lsl 21 3 i0) (.lsl 22 7 x.1))), (22, .arr 47 7 x.1 fun j => enL (e.list.f (e.list.n - 1 - j)))], fun x => e.list.n - x.1⟩, (0, (e.list.n : Int) - 1), ⟨Nat.zero_le _, (by simp)⟩, ?_, ?_⟩
   ·repeat' (first | apply And.intro | exact trivial | exact rfl | exact lz fun _ => rfl | (refine fun (_ : guardP _ _ _ _) => ?_))
   rintro ⟨i1, c1⟩ ⟨(hi : i1 <= e.list.n), (hc : c1 = (e.list.n : Int) - 1 - (i1 : Int))⟩
   repeat' (first | apply And.intro | exact trivial | exact rfl | exact lz fun _ => rfl | (refine fun (_ : guardP _ _ _ _) => ?_))
   ·refine fun hg => ?_
    have h0 : (0 : Int) <= c1 := of_decide_eq_true hg
    have hc1 : c1 < (e.list.n : Int) := by omega
    have hil : i1 + 1 <= e.list.n := by omega
    have q1 : -9223372036854775808 <= c1 - 1 := by omega
    have q2 : c1 - 1 <= 9223372036854775807 := by omega
    have m1 : i1 + 1 <= 9223372036854775807 := by omega
    have m2 : (i1 + 1) * 72 <= 140737488355328 := by omega
    have hx : c1.toNat = e.list.n - 1 - i1 := by omega
    have he := congrArg (fun j => enL (e.list.f j)) hx
    repeat' (first | with_reducible exact h0 | with_reducible exact hc1 | with_reducible exact q1 | with_reducible exact q2 | with_reducible exact m1 | with_reducible exact m2 | apply And.intro | exact trivial | exact rfl | exact lz fun _ => rfl | (refine fun (_ : guardP _ _ _ _) => ?_))
    refine Exists.intro (i1 + 1, c1 - 1) (And.intro ⟨hil, (by dsimp only; omega)⟩ ?_)
    repeat' (first | apply And.intro | exact trivial | exact rfl | exact lz fun _ => rfl | (refine fun (_ : guardP _ _ _ _) => ?_) | exact fun (j : Nat) (hj : j < i1 + 1) => EL.subC_eq (EL.app_f (g := enL) (f := fun j => e.list.f (e.list.n - 1 - j)) he hj) (sub_en ..))
    show e.list.n - (i1 + 1) < e.list.n - i1
    omega
   ·refine fun hg => ?_
    have h0 : ¬ (0 : Int) <= c1 := of_decide_eq_false hg
    have hin1 : i1 = e.list.n := by omega
    repeat' (first | with_reducible exact b5 | with_reducible exact b6 | apply And.intro | exact trivial | exact rfl | exact lz fun _ => rfl | (refine fun (_ : guardP _ _ _ _) => ?_))
    refine ⟨⟨Nat × Int, fun x => x.1 <= e.ids.n /\ x.2 = (e.ids.n : Int) - 1 - (x.1 : Int), fun x => [(7, .int .i64 x.2)],
     fun x => [(20, .cells 31 (evX e (.lsl 23 1 x.1) (.lsl 21 3 i0) (.lsl 22 7 i1))), (23, .arr 9 1 x.1 fun j => stL (e.ids.f (e.ids.n - 1 - j)))], fun x => e.ids.n - x.1⟩, (0, (e.ids.n : Int) - 1), ⟨Nat.zero_le _, (by simp)⟩, ?_, ?_⟩
    ·repeat' (first | apply And.intro | exact trivial | exact rfl | exact lz fun _ => rfl | (refine fun (_ : guardP _ _ _ _) => ?_))
    rintro ⟨i2, c2⟩ ⟨(hi : i2 <= e.ids.n), (hc : c2 = (e.ids.n : Int) - 1 - (i2 : Int))⟩
    repeat' (first | apply And.intro | exact trivial | exact rfl | exact lz fun _ => rfl | (refine fun (_ : guardP _ _ _ _) => ?_))
    ·refine fun hg => ?_
     have h0 : (0 : Int) <= c2 := of_decide_eq_true hg
     have hc1 : c2 < (e.ids.n : Int) := by omega
     have hil : i2 + 1 <= e.ids.n := by omega
     have q1 : -9223372036854775808 <= c2 - 1 := by omega
     have q2 : c2 - 1 <= 9223372036854775807 := by omega
     have m1 : i2 + 1 <= 9223372036854775807 := by omega
     have m2 : (i2 + 1) * 16 <= 140737488355328 := by omega
     have hx : c2.toNat = e.ids.n - 1 - i2 := by omega
     have he := congrArg (fun j => stL (e.ids.f j)) hx
     repeat' (first | with_reducible exact h0 | with_reducible exact hc1 | with_reducible exact q1 | with_reducible exact q2 | with_reducible exact m1 | with_reducible exact m2 | apply And.intro | exact trivial | exact rfl | exact lz fun _ => rfl | (refine fun (_ : guardP _ _ _ _) => ?_))
     refine Exists.intro (i2 + 1, c2 - 1) (And.intro ⟨hil, (by dsimp only; omega)⟩ ?_)
     repeat' (first | apply And.intro | exact trivial | exact rfl | exact lz fun _ => rfl | (refine fun (_ : guardP _ _ _ _) => ?_) | exact fun (j : Nat) (hj : j < i2 + 1) => EL.subC_eq (EL.app_f (g := stL) (f := fun j => e.ids.f (e.ids.n - 1 - j)) he hj) (sub_st ..))
     show e.ids.n - (i2 + 1) < e.ids.n - i2
     omega
    ·refine fun hg => ?_
     have h0 : ¬ (0 : Int) <= c2 := of_decide_eq_false hg
     have hin2 : i2 = e.ids.n := by omega
     repeat' (first | with_reducible exact b5 | with_reducible exact b6 | apply And.intro | exact trivial | exact rfl | exact lz fun _ => rfl | (refine fun (_ : guardP _ _ _ _) => ?_))
     ·refine fun _ => ?_
      refine Exists.intro (revV e) (Exists.intro [] ?_)
      repeat' (first | exact rev_ok ho | apply And.intro | exact trivial | exact rfl | exact lz fun _ => rfl | (refine fun (_ : guardP _ _ _ _) => ?_))
      ·exact hin2
      ·exact Nat.le_of_eq (Nat.zero_add _)
      ·exact fun (j : Nat) (_ : j < i2) => EL.subC_eq (congrArg (fun j => stL (e.ids.f (e.ids.n - 1 - j))) (Nat.zero_add j)) (sub_st ..)
      ·exact hin0
      ·exact Nat.le_of_eq (Nat.zero_add _)
      ·exact fun (j : Nat) (_ : j < i0) => EL.subC_eq (congrArg (fun j => nmL (e.names.f (e.names.n - 1 - j))) (Nat.zero_add j)) (sub_nm ..)
      ·exact hin1
      ·exact Nat.le_of_eq (Nat.zero_add _)
      ·exact fun (j : Nat) (_ : j < i1) => EL.subC_eq (congrArg (fun j => enL (e.list.f (e.list.n - 1 - j))) (Nat.zero_add j)) (sub_en ..)
      refine fun (y1 : Bool) (hy1 : y1 = frmV (revV e)) => ?_
      repeat' (first | apply And.intro | exact trivial | exact rfl | exact lz fun _ => rfl | (refine fun (_ : guardP _ _ _ _) => ?_))
      ·refine fun _ => ?_
       refine Exists.intro e (Exists.intro [] ?_)
       repeat' (first | exact ho | apply And.intro | exact trivial | exact rfl | exact lz fun _ => rfl | (refine fun (_ : guardP _ _ _ _) => ?_))
       refine fun (y2 : Bool) (hy2 : y2 = frmV e) => ?_
       have ef : decide (y1 = y2) = true := by rw [hy1, hy2, frm_rv]; exact decide_eq_true rfl
       repeat' (first | exact ef | apply And.intro | exact trivial | exact rfl | exact lz fun _ => rfl | (refine fun (_ : guardP _ _ _ _) => ?_))
      ·exact fun h => absurd h (by decide)
     ·exact fun h => absurd h (by decide)
end F30
