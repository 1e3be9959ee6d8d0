/- A part of the proof. -/
import Derived.Test.YtlfdokecdilkcaaGreatDoorRT10
import Derived.Test.YtlfdokecdilkcaaGreatDoorF26
import Derived.Test.YtlfdokecdilkcaaGreatDoorF25
import Derived.Test.YtlfdokecdilkcaaGreatDoorEngLib
open Go Go.Eng Go.Proofs G1 G2 G3 G4 G6 G7 EV0 N1 N2 F1 F7 F9 F10 F12 F13 F20 F21 F22 F26 RT10
set_option maxRecDepth 100000
namespace F31
attribute [local irreducible] frmV fewV
def g9 : List Nat := [0, 19, 22, 7, 56, 8, 101, 1, 9, 6, 2, 5, 4]
def c9 : SCode :=
 .seq (.region g9 [(zo 2 (.box 31 (.s 0))), (zo 4 (.move (.c (.bool false))))]) (.seq (.region g9 [(zo 10 (.call (.c (.fn 10)) [])), (zo 5 (.move (.s 10)))]) (.seq (.seq (.region g9 [(zo 11 (.load 18 true (.s 2))), (zo 12 (.load 18 true (.s 2))), (zo 13 (.call (.c (.fn 11)) [.s 11, .s 12])), (zo 14 (.not (.s 13))), (zo 15 (.move (.s 14))), (zg 16 15 false (.load 18 true (.s 2))), (zg 17 15 false (.call (.c (.fn 16)) [.s 16])), (zg 18 15 false (.not (.s 17))), (zo 19 (.pick (.s 15) (.c (.bool true)) (.s 18)))]) (.cond (.s 19) (.seq (.region g9 [(zo 20 (.move (.s 5))), (zo 4 (.move (.s 20)))]) .ret) .skip)) (.seq (.region g9 [(zo 21 (.load 18 true (.s 2))), (zo 6 (.alloc 31 zEv)), ⟨none, none, .store 18 (.s 6) (.s 21), []⟩]) (.seq (.block 0 (.seq (.region g9 [(zo 23 (.fldA 9 (.s 2))), (zo 24 (.load 1 false (.s 23))), (zo 25 (.lenSl (.s 24))), (zo 26 (.bin (.gtr) (.s 25) (.c (.int .i64 0)))), (zo 22 (.move (.s 26)))]) (.cond (.s 22) (.seq (.region g9 [(zo 27 (.move (.s 1))), (zo 28 (.cnv .i64 (.s 27))), (zo 29 (.fldA 9 (.s 2))), (zo 30 (.load 1 false (.s 29))), (zo 31 (.lenSl (.s 30))), (zo 32 (.bin (.rem) (.s 28) (.s 31))), (zo 7 (.move (.s 32)))]) (.seq (.drawn g9 (.pure 0 (zo 33 (.buildSl 45 3 0 (.cons (.str []) (.cons (.int .i64 0) (.cons (.str []) .nil))) [])) (.pure 1 (zo 34 (.fldA 9 (.s 2))) (.pure 2 (zo 35 (.load 1 false (.s 34))) (.pure 3 (zo 36 (.move (.s 7))) (.pure 4 (zo 37 (.sliceSl 3 (.s 35) none (some (.s 36)))) (.pure 6 (zo 39 (.fldA 9 (.s 2))) (.pure 7 (zo 40 (.load 1 false (.s 39))) (.pure 8 (zo 41 (.move (.s 7))) (.pure 9 (zo 42 (.bin (.add) (.s 41) (.c (.int .i64 1)))) (.pure 10 (zo 43 (.sliceSl 3 (.s 40) (some (.s 42)) none)) (.eff 5 (zo 38 (.app 45 3 40 (.s 33) (.s 37))) [(zo 40 (.load 1 false (.s 39)))] (.eff 11 (zo 44 (.app 45 3 40 (.s 38) (.s 43))) [] (.pure 12 (zo 45 (.fldA 9 (.s 6))) (.eff 13 ⟨none, none, .store 1 (.s 45) (.s 44), []⟩ [] .done .none)) .none) .none)))))))))))) (.seq (.drawn g9 (.pure 0 (zo 46 (.move (.s 5))) (.pure 1 (zo 47 (.move (.s 46))) (.pure 2 (zg 48 47 true (.load 18 true (.s 6))) (.pure 4 (zg 50 47 true (.fldA 9 (.s 2))) (.pure 5 (zg 51 47 true (.load 1 false (.s 50))) (.pure 6 (zg 52 47 true (.lenSl (.s 51))) (.pure 7 (zg 53 47 true (.bin (.gtr) (.s 52) (.c (.int .i64 1)))) (.eff 3 (zg 49 47 true (.call (.c (.fn 16)) [.s 48])) [(zg 51 47 true (.load 1 false (.s 50)))] (.pure 8 (zg 54 47 true (.eqB false (.s 49) (.s 53))) (.pure 9 (zo 55 (.pick (.s 47) (.s 54) (.c (.bool false)))) (.pure 10 (zo 4 (.move (.s 55))) .done))) .none))))))))) .ret))) (.seq (.region g9 [(zo 57 (.fldA 17 (.s 2))), (zo 58 (.load 1 false (.s 57))), (zo 59 (.lenSl (.s 58))), (zo 60 (.bin (.gtr) (.s 59) (.c (.int .i64 0)))), (zo 56 (.move (.s 60)))]) (.cond (.s 56) (.seq (.region g9 [(zo 61 (.move (.s 1))), (zo 62 (.cnv .i64 (.s 61))), (zo 63 (.fldA 17 (.s 2))), (zo 64 (.load 1 false (.s 63))), (zo 65 (.lenSl (.s 64))), (zo 66 (.bin (.rem) (.s 62) (.s 65))), (zo 8 (.move (.s 66)))]) (.seq (.drawn g9 (.pure 0 (zo 67 (.buildSl 47 7 0 zEn [])) (.pure 1 (zo 68 (.fldA 17 (.s 2))) (.pure 2 (zo 69 (.load 1 false (.s 68))) (.pure 3 (zo 70 (.move (.s 8))) (.pure 4 (zo 71 (.sliceSl 7 (.s 69) none (some (.s 70)))) (.pure 6 (zo 73 (.fldA 17 (.s 2))) (.pure 7 (zo 74 (.load 1 false (.s 73))) (.pure 8 (zo 75 (.move (.s 8))) (.pure 9 (zo 76 (.bin (.add) (.s 75) (.c (.int .i64 1)))) (.pure 10 (zo 77 (.sliceSl 7 (.s 74) (some (.s 76)) none)) (.eff 5 (zo 72 (.app 47 7 72 (.s 67) (.s 71))) [(zo 74 (.load 1 false (.s 73)))] (.eff 11 (zo 78 (.app 47 7 72 (.s 72) (.s 77))) [] (.pure 12 (zo 79 (.fldA 17 (.s 6))) (.eff 13 ⟨none, none, .store 1 (.s 79) (.s 78), []⟩ [] .done .none)) .none) .none)))))))))))) (.seq (.drawn g9 (.pure 0 (zo 80 (.move (.s 5))) (.pure 1 (zo 81 (.move (.s 80))) (.pure 2 (zg 82 81 true (.load 18 true (.s 6))) (.pure 4 (zg 84 81 true (.fldA 17 (.s 2))) (.pure 5 (zg 85 81 true (.load 1 false (.s 84))) (.pure 6 (zg 86 81 true (.lenSl (.s 85))) (.pure 7 (zg 87 81 true (.bin (.gtr) (.s 86) (.c (.int .i64 2)))) (.eff 3 (zg 83 81 true (.call (.c (.fn 16)) [.s 82])) [(zg 85 81 true (.load 1 false (.s 84)))] (.pure 8 (zg 88 81 true (.move (.s 87))) (.pure 9 (zg 89 88 false (.fldA 17 (.s 2))) (.pure 10 (zg 90 88 false (.load 1 false (.s 89))) (.pure 11 (zg 91 88 false (.lenSl (.s 90))) (.pure 12 (zg 92 88 false (.bin (.gtr) (.s 91) (.c (.int .i64 1)))) (.pure 13 (zg 93 88 false (.move (.s 92))) (.pure 14 (zg 94 93 true (.fldA 0 (.s 2))) (.pure 15 (zg 95 93 true (.load 1 false (.s 94))) (.pure 16 (zg 96 93 true (.bin (.eql) (.s 95) (.c (.int .i64 8)))) (.pure 17 (zg 97 88 false (.pick (.s 93) (.s 96) (.c (.bool false)))) (.pure 18 (zg 98 81 true (.pick (.s 88) (.c (.bool true)) (.s 97))) (.pure 19 (zg 99 81 true (.eqB false (.s 83) (.s 98))) (.pure 20 (zo 100 (.pick (.s 81) (.s 99) (.c (.bool false)))) (.pure 21 (zo 4 (.move (.s 100))) .done)))))))))))))) .none))))))))) .ret))) (.seq (.region g9 [(zo 102 (.fldA 8 (.s 2))), (zo 103 (.load 1 false (.s 102))), (zo 104 (.lenSl (.s 103))), (zo 105 (.bin (.gtr) (.s 104) (.c (.int .i64 0)))), (zo 101 (.move (.s 105)))]) (.cond (.s 101) (.seq (.region g9 [(zo 106 (.move (.s 1))), (zo 107 (.cnv .i64 (.s 106))), (zo 108 (.fldA 8 (.s 2))), (zo 109 (.load 1 false (.s 108))), (zo 110 (.lenSl (.s 109))), (zo 111 (.bin (.rem) (.s 107) (.s 110))), (zo 9 (.move (.s 111)))]) (.seq (.drawn g9 (.pure 0 (zo 112 (.buildSl 9 1 0 (.cons (.str []) .nil) [])) (.pure 1 (zo 113 (.fldA 8 (.s 2))) (.pure 2 (zo 114 (.load 1 false (.s 113))) (.pure 3 (zo 115 (.move (.s 9))) (.pure 4 (zo 116 (.sliceSl 1 (.s 114) none (some (.s 115)))) (.pure 6 (zo 118 (.fldA 8 (.s 2))) (.pure 7 (zo 119 (.load 1 false (.s 118))) (.pure 8 (zo 120 (.move (.s 9))) (.pure 9 (zo 121 (.bin (.add) (.s 120) (.c (.int .i64 1)))) (.pure 10 (zo 122 (.sliceSl 1 (.s 119) (some (.s 121)) none)) (.eff 5 (zo 117 (.app 9 1 16 (.s 112) (.s 116))) [(zo 119 (.load 1 false (.s 118)))] (.eff 11 (zo 123 (.app 9 1 16 (.s 117) (.s 122))) [] (.pure 12 (zo 124 (.fldA 8 (.s 6))) (.eff 13 ⟨none, none, .store 1 (.s 124) (.s 123), []⟩ [] .done .none)) .none) .none)))))))))))) (.seq (.drawn g9 (.pure 0 (zo 125 (.move (.s 5))) (.pure 1 (zo 126 (.move (.s 125))) (.pure 2 (zg 127 126 true (.load 18 true (.s 6))) (.pure 4 (zg 129 126 true (.fldA 8 (.s 2))) (.pure 5 (zg 130 126 true (.load 1 false (.s 129))) (.pure 6 (zg 131 126 true (.lenSl (.s 130))) (.pure 7 (zg 132 126 true (.bin (.gtr) (.s 131) (.c (.int .i64 2)))) (.eff 3 (zg 128 126 true (.call (.c (.fn 16)) [.s 127])) [(zg 130 126 true (.load 1 false (.s 129)))] (.pure 8 (zg 133 126 true (.eqB false (.s 128) (.s 132))) (.pure 9 (zo 134 (.pick (.s 126) (.s 133) (.c (.bool false)))) (.pure 10 (zo 4 (.move (.s 134))) .done))) .none))))))))) .ret))) .skip))))))) (.seq (.region g9 [(zo 135 (.move (.s 5))), (zo 4 (.move (.s 135)))]) .ret)))))
def r9 : List SRes := [.slot 4]
def k9 : List (Nat × Nat × SCode × Nat) := []
theorem e9 : cFunc Tryz.prog 9 g9 [] [17, 49, 83, 128] k9 = some (c9, r9, 136) := by kernel_rfl
theorem q9 : RgOk Tryz.prog k9 := RgOk.nil
def frmB : Eng.MSpec := frmS.mof Bool (fun e y => y = frmV e) (fun _ y => .bool y)
theorem frmB_ok : frmB.Ok Tryz.prog 16 := Eng.Spec.mof_ok frm_ok fun e _ => ⟨frmV e, rfl, rfl⟩
theorem factN {n : Nat} {z : Int} (h1 : 0 <= z) (h2 : z < (n : Int)) (h3 : n <= 1000000) : z <= (n : Int) /\ -9223372036854775808 <= z + 1 /\ z + 1 <= 9223372036854775807 /\ 0 <= z + 1 /\ z + 1 <= (n : Int) /\ z.toNat <= 9223372036854775807 /\ z.toNat * 40 <= 140737488355328 /\ z.toNat + (n - (z + 1).toNat) <= 9223372036854775807 /\ (z.toNat + (n - (z + 1).toNat)) * 40 <= 140737488355328 /\ z.toNat < n /\ z.toNat + (n - (z + 1).toNat) = n - 1 /\ (z + 1).toNat = z.toNat + 1 := by
 refine ⟨?_, ?_, ?_, ?_, ?_, ?_, ?_, ?_, ?_, ?_, ?_, ?_⟩ <;> omega
theorem factL {n : Nat} {z : Int} (h1 : 0 <= z) (h2 : z < (n : Int)) (h3 : n <= 900000) : z <= (n : Int) /\ -9223372036854775808 <= z + 1 /\ z + 1 <= 9223372036854775807 /\ 0 <= z + 1 /\ z + 1 <= (n : Int) /\ z.toNat <= 9223372036854775807 /\ z.toNat * 72 <= 140737488355328 /\ z.toNat + (n - (z + 1).toNat) <= 9223372036854775807 /\ (z.toNat + (n - (z + 1).toNat)) * 72 <= 140737488355328 /\ z.toNat < n /\ z.toNat + (n - (z + 1).toNat) = n - 1 /\ (z + 1).toNat = z.toNat + 1 := by
 refine ⟨?_, ?_, ?_, ?_, ?_, ?_, ?_, ?_, ?_, ?_, ?_, ?_⟩ <;> omega
theorem factI {n : Nat} {z : Int} (h1 : 0 <= z) (h2 : z < (n : Int)) (h3 : n <= 1000000) : z <= (n : Int) /\ -9223372036854775808 <= z + 1 /\ z + 1 <= 9223372036854775807 /\ 0 <= z + 1 /\ z + 1 <= (n : Int) /\ z.toNat <= 9223372036854775807 /\ z.toNat * 16 <= 140737488355328 /\ z.toNat + (n - (z + 1).toNat) <= 9223372036854775807 /\ (z.toNat + (n - (z + 1).toNat)) * 16 <= 140737488355328 /\ z.toNat < n /\ z.toNat + (n - (z + 1).toNat) = n - 1 /\ (z + 1).toNat = z.toNat + 1 := by
 refine ⟨?_, ?_, ?_, ?_, ?_, ?_, ?_, ?_, ?_, ?_, ?_, ?_⟩ <;> omega
theorem app2 {g e0 : Nat -> SV} {k kk : Nat} (h : kk = k + 1) (i : Nat) : appE k (appE 0 e0 (fun i => g i)) (fun i => g (kk + i)) (0 + i) = g (sk k i) := by
 subst h
 rw [Nat.zero_add]
 unfold appE sk
 by_cases h : i < k
 ·rw [show Nat.blt i k = true from Nat.ble_eq_true_of_le h, cond_true, if_pos h]
  rfl
 ·have : Nat.blt i k = false := by
   cases hb : Nat.blt i k with
   | false => rfl
   | true => exact absurd (Nat.le_of_ble_eq_true hb) h
  rw [this, cond_false, if_neg h]
  show g (k + 1 + (i - k)) = g (i + 1)
  congr 1
  omega
def law9 : Eng.Spec where
 X := Ev × Int
 args := fun x => .cons (evE x.1) (.cons (.int .u8 x.2) .nil)
 pre := fun x => bigV x.1 /\ (0 <= x.2 /\ x.2 <= 255)
 res := fun _ => .bool true
 inst := fun _ => none
set_option maxHeartbeats 8000000 in
theorem law9_ok : law9.Ok Tryz.prog 9 := by
 refine Eng.Spec.okR e9 q9 (fun _ => [(10, .p headS), (11, .p fw2S), (16, .m frmB)])
  (fun _ _ => TabOk.p head_ok (TabOk.p fw2_ok (TabOk.m frmB_ok TabOk.nil))) ?_
 rintro ⟨e, m⟩ ⟨(hb : bigV e), (m0 : 0 <= m), (m1 : m <= 255)⟩
 refine ⟨trivial, ?_⟩
 repeat' (first | exact hb | apply And.intro | exact trivial | exact rfl | exact lz fun _ => rfl | (refine fun (_ : guardP _ _ _ _) => ?_))
 ·refine fun (hc : (!(fewV e && fewV e)) = false) => ?_
  have hfw : fewV e = true := by have := bn_f hc; rw [Bool.and_self] at this; exact this
  have ho := few_okV hfw
  refine Exists.intro e (Exists.intro [] ?_)
  repeat' (first | exact ho | apply And.intro | exact trivial | exact rfl | exact lz fun _ => rfl | (refine fun (_ : guardP _ _ _ _) => ?_))
  refine fun (y0 : Bool) (hy0 : y0 = frmV e) => ?_
  repeat' (first | apply And.intro | exact trivial | exact rfl | exact lz fun _ => rfl | (refine fun (_ : guardP _ _ _ _) => ?_))
  ·refine fun _ => ?_
   repeat' (first | apply And.intro | exact trivial | exact rfl)
  ·refine fun (hc2 : pickB (!(fewV e && fewV e)) (.c (.bool true)) (.s 18) true (!y0) = false) => ?_
   have hf : frmV e = true := by
    rw [pickB_or, hfw] at hc2
    rw [<- hy0]
    exact bn_f (by simpa using hc2)
   have q1 : -9223372036854775808 <= m := by omega
   have q2 : m <= 9223372036854775807 := by omega
   have n1 := ho.names.1
   have n2 := ho.list.1
   have n3 := ho.ids.1
   repeat' (first | apply And.intro | exact trivial | exact rfl | exact lz fun _ => rfl | (refine fun (_ : guardP _ _ _ _) => ?_))
   ·refine fun (hg : decide ((0 : Int) < (e.names.n : Int)) = true) => ?_
    have hn : 0 < e.names.n := Int.ofNat_lt.1 (of_decide_eq_true hg)
    have z0 : (e.names.n : Int) ≠ 0 := by omega
    have z1 : 0 <= m.tmod (e.names.n : Int) := by rw [Int.tmod_eq_emod_of_nonneg m0]; exact Int.emod_nonneg _ z0
    have z2 : m.tmod (e.names.n : Int) < (e.names.n : Int) := by rw [Int.tmod_eq_emod_of_nonneg m0]; exact Int.emod_lt_of_pos _ (by omega)
    obtain ⟨g2, g3, g4, g5, g6, g8, g9, g11, g12, gk, gn, ge⟩ := factN z1 z2 n1
    repeat' (first | with_reducible exact q1 | with_reducible exact q2 | with_reducible exact z0 | apply And.intro | exact trivial | exact rfl | exact lz fun _ => rfl | (refine fun (_ : guardP _ _ _ _) => ?_))
    ·exact z1
    ·exact g2
    ·exact g3
    ·exact g4
    ·exact g5
    ·exact g6
    ·exact fun (j : Nat) (_ : j < (m.tmod (e.names.n : Int)).toNat) => rfl
    ·exact g8
    ·exact g9
    ·exact fun (j : Nat) (_ : j < e.names.n - (m.tmod (e.names.n : Int) + 1).toNat) => rfl
    ·exact g11
    ·exact g12
    ·refine fun _ => ?_
     refine Exists.intro (ctN (m.tmod (e.names.n : Int)).toNat e) (Exists.intro [] ?_)
     repeat' (first | exact ct_okN ho | apply And.intro | exact trivial | exact rfl | exact lz fun _ => rfl | (refine fun (_ : guardP _ _ _ _) => ?_))
     ·exact gn
     ·exact Nat.le_of_eq (Nat.zero_add _)
     ·exact fun (j : Nat) (_ : j < (m.tmod (e.names.n : Int)).toNat + (e.names.n - (m.tmod (e.names.n : Int) + 1).toNat)) => EL.subC_eq (app2 (e0 := nthE .nil) (g := fun j => nmL (e.names.f j)) ge j) (sub_nm ..)
     refine fun (y1 : Bool) (hy1 : y1 = frmV (ctN (m.tmod (e.names.n : Int)).toNat e)) => ?_
     have ef : decide (y1 = decide ((1 : Int) < (e.names.n : Int))) = true := by rw [hy1, few_nam hf hn]; exact decide_eq_true (decide_eq_decide.2 (by omega))
     repeat' (first | exact ef | apply And.intro | exact trivial | exact rfl | exact lz fun _ => rfl | (refine fun (_ : guardP _ _ _ _) => ?_))
    ·exact fun h => absurd h (by decide)
   ·refine fun (hg : decide ((0 : Int) < (e.names.n : Int)) = false) => ?_
    repeat' (first | apply And.intro | exact trivial | exact rfl | exact lz fun _ => rfl | (refine fun (_ : guardP _ _ _ _) => ?_))
    ·refine fun (hg : decide ((0 : Int) < (e.list.n : Int)) = true) => ?_
     have hn : 0 < e.list.n := Int.ofNat_lt.1 (of_decide_eq_true hg)
     have z0 : (e.list.n : Int) ≠ 0 := by omega
     have z1 : 0 <= m.tmod (e.list.n : Int) := by rw [Int.tmod_eq_emod_of_nonneg m0]; exact Int.emod_nonneg _ z0
     have z2 : m.tmod (e.list.n : Int) < (e.list.n : Int) := by rw [Int.tmod_eq_emod_of_nonneg m0]; exact Int.emod_lt_of_pos _ (by omega)
     obtain ⟨g2, g3, g4, g5, g6, g8, g9, g11, g12, gk, gn, ge⟩ := factL z1 z2 n2
     repeat' (first | with_reducible exact q1 | with_reducible exact q2 | with_reducible exact z0 | apply And.intro | exact trivial | exact rfl | exact lz fun _ => rfl | (refine fun (_ : guardP _ _ _ _) => ?_))
     ·exact z1
     ·exact g2
     ·exact g3
     ·exact g4
     ·exact g5
     ·exact g6
     ·exact fun (j : Nat) (_ : j < (m.tmod (e.list.n : Int)).toNat) => rfl
     ·exact g8
     ·exact g9
     ·exact fun (j : Nat) (_ : j < e.list.n - (m.tmod (e.list.n : Int) + 1).toNat) => rfl
     ·exact g11
     ·exact g12
     ·refine fun _ => ?_
      refine Exists.intro (ctL (m.tmod (e.list.n : Int)).toNat e) (Exists.intro [] ?_)
      repeat' (first | exact ct_okL ho | apply And.intro | exact trivial | exact rfl | exact lz fun _ => rfl | (refine fun (_ : guardP _ _ _ _) => ?_))
      ·exact gn
      ·exact Nat.le_of_eq (Nat.zero_add _)
      ·exact fun (j : Nat) (_ : j < (m.tmod (e.list.n : Int)).toNat + (e.list.n - (m.tmod (e.list.n : Int) + 1).toNat)) => EL.subC_eq (app2 (e0 := nthE .nil) (g := fun j => enL (e.list.f j)) ge j) (sub_en ..)
      refine fun (y1 : Bool) (hy1 : y1 = frmV (ctL (m.tmod (e.list.n : Int)).toNat e)) => ?_
      have ef : decide (y1 = pickB (decide ((2 : Int) < (e.list.n : Int))) (.c (.bool true)) (.s 97) true (pickB (decide ((1 : Int) < (e.list.n : Int))) (.s 96) (.c (.bool false)) (decide (e.kind = 8)) false)) = true := by rw [pickB_or, pickB_and, hy1, few_lst hf gk, show decide (2 < e.list.n) = decide ((2 : Int) < (e.list.n : Int)) from decide_eq_decide.2 (by omega), show decide (1 < e.list.n) = decide ((1 : Int) < (e.list.n : Int)) from decide_eq_decide.2 (by omega)]; exact decide_eq_true rfl
      repeat' (first | exact ef | apply And.intro | exact trivial | exact rfl | exact lz fun _ => rfl | (refine fun (_ : guardP _ _ _ _) => ?_))
     ·exact fun h => absurd h (by decide)
    ·refine fun (hg : decide ((0 : Int) < (e.list.n : Int)) = false) => ?_
     repeat' (first | apply And.intro | exact trivial | exact rfl | exact lz fun _ => rfl | (refine fun (_ : guardP _ _ _ _) => ?_))
     ·refine fun (hg : decide ((0 : Int) < (e.ids.n : Int)) = true) => ?_
      have hn : 0 < e.ids.n := Int.ofNat_lt.1 (of_decide_eq_true hg)
      have z0 : (e.ids.n : Int) ≠ 0 := by omega
      have z1 : 0 <= m.tmod (e.ids.n : Int) := by rw [Int.tmod_eq_emod_of_nonneg m0]; exact Int.emod_nonneg _ z0
      have z2 : m.tmod (e.ids.n : Int) < (e.ids.n : Int) := by rw [Int.tmod_eq_emod_of_nonneg m0]; exact Int.emod_lt_of_pos _ (by omega)
      obtain ⟨g2, g3, g4, g5, g6, g8, g9, g11, g12, gk, gn, ge⟩ := factI z1 z2 n3
      repeat' (first | with_reducible exact q1 | with_reducible exact q2 | with_reducible exact z0 | apply And.intro | exact trivial | exact rfl | exact lz fun _ => rfl | (refine fun (_ : guardP _ _ _ _) => ?_))
      ·exact z1
      ·exact g2
      ·exact g3
      ·exact g4
      ·exact g5
      ·exact g6
      ·exact fun (j : Nat) (_ : j < (m.tmod (e.ids.n : Int)).toNat) => rfl
      ·exact g8
      ·exact g9
      ·exact fun (j : Nat) (_ : j < e.ids.n - (m.tmod (e.ids.n : Int) + 1).toNat) => rfl
      ·exact g11
      ·exact g12
      ·refine fun _ => ?_
       refine Exists.intro (ctI (m.tmod (e.ids.n : Int)).toNat e) (Exists.intro [] ?_)
       repeat' (first | exact ct_okI ho | apply And.intro | exact trivial | exact rfl | exact lz fun _ => rfl | (refine fun (_ : guardP _ _ _ _) => ?_))
       ·exact gn
       ·exact Nat.le_of_eq (Nat.zero_add _)
       ·exact fun (j : Nat) (_ : j < (m.tmod (e.ids.n : Int)).toNat + (e.ids.n - (m.tmod (e.ids.n : Int) + 1).toNat)) => EL.subC_eq (app2 (e0 := nthE .nil) (g := fun j => stL (e.ids.f j)) ge j) (sub_st ..)
       refine fun (y1 : Bool) (hy1 : y1 = frmV (ctI (m.tmod (e.ids.n : Int)).toNat e)) => ?_
       have ef : decide (y1 = decide ((2 : Int) < (e.ids.n : Int))) = true := by rw [hy1, few_ids hf gk]; exact decide_eq_true (decide_eq_decide.2 (by omega))
       repeat' (first | exact ef | apply And.intro | exact trivial | exact rfl | exact lz fun _ => rfl | (refine fun (_ : guardP _ _ _ _) => ?_))
      ·exact fun h => absurd h (by decide)
     ·refine fun (hg : decide ((0 : Int) < (e.ids.n : Int)) = false) => ?_
      repeat' (first | apply And.intro | exact trivial | exact rfl | exact lz fun _ => rfl | (refine fun (_ : guardP _ _ _ _) => ?_))
 ·refine fun (hc : (!(fewV e && fewV e)) = !false) => ?_
  have bad : (!(fewV e && fewV e)) = false -> False := fun h => by rw [h] at hc; cases hc
  repeat' (first | exact hc | exact fun (hg : guardP _ _ _ _) => (bad hg).elim | apply And.intro | exact trivial | exact rfl | exact lz fun _ => rfl)
  ·refine fun _ => ?_
   repeat' (first | apply And.intro | exact trivial | exact rfl)
  ·exact fun h => absurd h (by decide)
end F31
