/- A part of the proof. -/
import Derived.Test.YtlfdokecdilkcaaGreatDoorRT8
import Derived.Test.YtlfdokecdilkcaaGreatDoorF26
open Go Go.Eng Go.Proofs G1 G2 G3 G4 G6 G7 EV0 N1 N2 F1 F7 F9 F10 F12 F13 F20 F21 F22 F26 RT8
set_option maxRecDepth 100000
namespace F29
theorem okv_oth {e : Ev} (h : okV e) {s : B} (hs : okT s) : okV ⟨e.kind, e.day, e.a, e.b, e.off, e.id, s, e.txt, e.ids, e.names, e.num, e.pt, e.path, e.list⟩ := ⟨h.id, hs, h.txt, h.ids, h.names, h.num, h.path, h.list⟩
theorem okv_txt {e : Ev} (h : okV e) {s : B} (hs : okT s) : okV ⟨e.kind, e.day, e.a, e.b, e.off, e.id, e.oth, s, e.ids, e.names, e.num, e.pt, e.path, e.list⟩ := ⟨h.id, h.oth, hs, h.ids, h.names, h.num, h.path, h.list⟩
theorem okv_off {e : Ev} (h : okV e) {m : Int} : okV ⟨e.kind, e.day, e.a, e.b, m, e.id, e.oth, e.txt, e.ids, e.names, e.num, e.pt, e.path, e.list⟩ := ⟨h.id, h.oth, h.txt, h.ids, h.names, h.num, h.path, h.list⟩
theorem okv_ids {e : Ev} (h : okV e) {s : Sq B} (hs : okS s okT) : okV ⟨e.kind, e.day, e.a, e.b, e.off, e.id, e.oth, e.txt, s, e.names, e.num, e.pt, e.path, e.list⟩ := ⟨h.id, h.oth, h.txt, hs, h.names, h.num, h.path, h.list⟩
theorem okv_names {e : Ev} (h : okV e) {s : Sq Nm} (hs : okS s okN) : okV ⟨e.kind, e.day, e.a, e.b, e.off, e.id, e.oth, e.txt, e.ids, s, e.num, e.pt, e.path, e.list⟩ := ⟨h.id, h.oth, h.txt, h.ids, hs, h.num, h.path, h.list⟩
theorem okv_list {e : Ev} (h : okV e) {s : Sq En} (hs : s.n <= 900000 /\ ∀ i, i < s.n -> okE (s.f i)) : okV ⟨e.kind, e.day, e.a, e.b, e.off, e.id, e.oth, e.txt, e.ids, e.names, e.num, e.pt, e.path, s⟩ := ⟨h.id, h.oth, h.txt, h.ids, h.names, h.num, h.path, hs⟩
theorem okv_path {e : Ev} (h : okV e) {s : Pts} (hs : s.n <= 1000000) : okV ⟨e.kind, e.day, e.a, e.b, e.off, e.id, e.oth, e.txt, e.ids, e.names, e.num, e.pt, s, e.list⟩ := ⟨h.id, h.oth, h.txt, h.ids, h.names, h.num, hs, h.list⟩
theorem ans {b c : Bool} {i j : Nat} (h : b = false -> c = false) : pickB true (.s i) (.c (.bool false)) (pickB b (.c (.bool true)) (.s j) true (!c)) false = true := by
 rw [pickB_and, pickB_or]
 cases b with
 | true => rfl
 | false => rw [h rfl]; rfl
theorem n_dec {p : Prop} [Decidable p] (h : (!decide p) = false) : p := of_decide_eq_true (bn_f h)
def g5 : List Nat := [0, 17, 1, 31, 37, 43, 54, 62, 21, 71, 2, 5, 7, 6, 4]
def c5 : SCode :=
 .seq (.region g5 [(zo 2 (.box 31 (.s 0))), (zo 4 (.move (.c (.bool false))))]) (.seq (.region g5 [(zo 8 (.call (.c (.fn 10)) [])), (zo 5 (.move (.s 8)))]) (.seq (.seq (.region g5 [(zo 9 (.load 18 true (.s 2))), (zo 10 (.load 18 true (.s 2))), (zo 11 (.call (.c (.fn 11)) [.s 9, .s 10])), (zo 12 (.not (.s 11))), (zo 13 (.move (.s 12))), (zg 14 13 false (.load 18 true (.s 2))), (zg 15 13 false (.call (.c (.fn 16)) [.s 14])), (zg 16 13 false (.not (.s 15))), (zo 17 (.pick (.s 13) (.c (.bool true)) (.s 16)))]) (.cond (.s 17) (.seq (.region g5 [(zo 18 (.move (.s 5))), (zo 4 (.move (.s 18)))]) .ret) .skip)) (.seq (.region g5 [(zo 19 (.load 18 true (.s 2))), (zo 6 (.alloc 31 zEv)), ⟨none, none, .store 18 (.s 6) (.s 19), []⟩]) (.seq (.region g5 [(zo 7 (.move (.c (.bool false))))]) (.seq (.seq (.region g5 [(zo 20 (.move (.s 1))), (zo 21 (.bin (.rem) (.s 20) (.c (.int (.u8) 7))))]) (.block 0 (.seq (.region g5 [(zo 32 (.bin (.eql) (.s 21) (.c (.int (.u8) 0)))), (zo 31 (.move (.s 32)))]) (.cond (.s 31) (.seq (.region g5 [(zo 33 (.fldA 6 (.s 2))), (zo 34 (.load 1 false (.s 33))), (zo 35 (.bin (.neq) (.s 34) (.c (.str [])))), (zo 7 (.move (.s 35)))]) (.region g5 [(zo 36 (.fldA 6 (.s 6))), ⟨none, none, .store 1 (.s 36) (.c (.str [111, 116, 104, 101, 114])), []⟩])) (.seq (.region g5 [(zo 38 (.bin (.eql) (.s 21) (.c (.int (.u8) 1)))), (zo 37 (.move (.s 38)))]) (.cond (.s 37) (.seq (.region g5 [(zo 39 (.fldA 7 (.s 2))), (zo 40 (.load 1 false (.s 39))), (zo 41 (.bin (.neq) (.s 40) (.c (.str [])))), (zo 7 (.move (.s 41)))]) (.region g5 [(zo 42 (.fldA 7 (.s 6))), ⟨none, none, .store 1 (.s 42) (.c (.str [116, 101, 120, 116])), []⟩])) (.seq (.region g5 [(zo 44 (.bin (.eql) (.s 21) (.c (.int (.u8) 2)))), (zo 43 (.move (.s 44)))]) (.cond (.s 43) (.seq (.region g5 [(zo 45 (.fldA 4 (.s 2))), (zo 46 (.load 1 false (.s 45))), (zo 47 (.bin (.neq) (.s 46) (.c (.int .i64 0)))), (zo 48 (.move (.s 47))), (zg 49 48 false (.fldA 0 (.s 2))), (zg 50 48 false (.load 1 false (.s 49))), (zg 51 48 false (.bin (.eql) (.s 50) (.c (.int .i64 15)))), (zo 52 (.pick (.s 48) (.c (.bool true)) (.s 51))), (zo 7 (.move (.s 52)))]) (.region g5 [(zo 53 (.fldA 4 (.s 6))), ⟨none, none, .store 1 (.s 53) (.c (.int .i64 1)), []⟩])) (.seq (.region g5 [(zo 55 (.bin (.eql) (.s 21) (.c (.int (.u8) 3)))), (zo 54 (.move (.s 55)))]) (.cond (.s 54) (.seq (.region g5 [(zo 56 (.fldA 8 (.s 2))), (zo 57 (.load 1 false (.s 56))), (zo 58 (.lenSl (.s 57))), (zo 59 (.bin (.gtr) (.s 58) (.c (.int .i64 0)))), (zo 7 (.move (.s 59)))]) (.region g5 [(zo 60 (.buildSl 9 1 2 (.cons (.str []) .nil) [(0, 1, .c (.str [120, 49])), (1, 1, .c (.str [120, 50]))])), (zo 61 (.fldA 8 (.s 6))), ⟨none, none, .store 1 (.s 61) (.s 60), []⟩])) (.seq (.region g5 [(zo 63 (.bin (.eql) (.s 21) (.c (.int (.u8) 4)))), (zo 62 (.move (.s 63)))]) (.cond (.s 62) (.seq (.region g5 [(zo 64 (.fldA 9 (.s 2))), (zo 65 (.load 1 false (.s 64))), (zo 66 (.lenSl (.s 65))), (zo 67 (.bin (.gtr) (.s 66) (.c (.int .i64 0)))), (zo 7 (.move (.s 67)))]) (.region g5 [(zo 68 (.build (.cons (.str []) (.cons (.int .i64 0) (.cons (.str []) .nil))) [(0, 1, .c (.str [101, 110])), (2, 1, .c (.str [97]))])), (zo 69 (.buildSl 45 3 1 (.cons (.str []) (.cons (.int .i64 0) (.cons (.str []) .nil))) [(0, 3, .s 68)])), (zo 70 (.fldA 9 (.s 6))), ⟨none, none, .store 1 (.s 70) (.s 69), []⟩])) (.seq (.region g5 [(zo 72 (.bin (.eql) (.s 21) (.c (.int (.u8) 5)))), (zo 71 (.move (.s 72)))]) (.cond (.s 71) (.seq (.region g5 [(zo 73 (.fldA 17 (.s 2))), (zo 74 (.load 1 false (.s 73))), (zo 75 (.lenSl (.s 74))), (zo 76 (.bin (.gtr) (.s 75) (.c (.int .i64 0)))), (zo 7 (.move (.s 76)))]) (.region g5 [(zo 77 (.build zHn [(0, 1, .c (.int .i64 1))])), (zo 78 (.build zEn [(0, 1, .c (.str [120, 49])), (1, 4, .s 77)])), (zo 79 (.build zHn [(0, 1, .c (.int .i64 2))])), (zo 80 (.build zEn [(0, 1, .c (.str [120, 50])), (1, 4, .s 79)])), (zo 81 (.buildSl 47 7 2 zEn [(0, 7, .s 78), (7, 7, .s 80)])), (zo 82 (.fldA 17 (.s 6))), ⟨none, none, .store 1 (.s 82) (.s 81), []⟩])) (.seq (.region g5 [(zo 22 (.fldA 16 (.s 2))), (zo 23 (.load 1 false (.s 22))), (zo 24 (.lenSl (.s 23))), (zo 25 (.bin (.gtr) (.s 24) (.c (.int .i64 0)))), (zo 7 (.move (.s 25)))]) (.region g5 [(zo 26 (.build zPt [])), (zo 27 (.build zPt [(0, 1, .c (.int .i64 4))])), (zo 28 (.build zPt [(1, 1, .c (.int .i64 4))])), (zo 29 (.buildSl 27 2 3 zPt [(0, 2, .s 26), (2, 2, .s 27), (4, 2, .s 28)])), (zo 30 (.fldA 16 (.s 6))), ⟨none, none, .store 1 (.s 30) (.s 29), []⟩])))))))))))))))) (.seq (.region g5 [(zo 83 (.move (.s 5))), (zo 84 (.move (.s 83))), (zg 85 84 true (.move (.s 7))), (zg 86 84 true (.move (.s 85))), (zg 87 86 false (.load 18 true (.s 6))), (zg 88 86 false (.call (.c (.fn 16)) [.s 87])), (zg 89 86 false (.not (.s 88))), (zg 90 84 true (.pick (.s 86) (.c (.bool true)) (.s 89))), (zo 91 (.pick (.s 84) (.s 90) (.c (.bool false)))), (zo 4 (.move (.s 91)))]) .ret))))))
def r5 : List SRes := [.slot 4]
def k5 : List (Nat × Nat × SCode × Nat) := []
theorem e5 : cFunc Tryz.prog 5 g5 [] [] k5 = some (c5, r5, 92) := by kernel_rfl
theorem q5 : RgOk Tryz.prog k5 := RgOk.nil
def law5 : Eng.Spec where
 X := Ev × Int
 args := fun x => .cons (evE x.1) (.cons (.int .u8 x.2) .nil)
 pre := fun x => bigV x.1
 res := fun _ => .bool true
 inst := fun _ => none
attribute [local irreducible] frmV fewV
set_option maxHeartbeats 8000000 in
theorem law5_ok : law5.Ok Tryz.prog 5 := by
 refine Eng.Spec.okR e5 q5 (fun _ => [(10, .p headS), (11, .p fw2S), (16, .p frmS)])
  (fun _ _ => TabOk.p head_ok (TabOk.p fw2_ok (TabOk.p frm_ok TabOk.nil))) ?_
 rintro ⟨e, m⟩ (hb : bigV e)
 by_cases hfw : fewV e = true
 ·have ho := few_okV hfw
  refine ⟨trivial, ?_⟩
  have z7 : (7 : Int) ≠ 0 := by decide
  repeat' (first | exact hb | exact ho | apply And.intro | exact trivial | exact rfl | exact lz fun _ => rfl | (refine fun (_ : guardP _ _ _ _) => ?_))
  ·refine fun _ => ?_
   repeat' (first | apply And.intro | exact trivial | exact rfl | exact lz fun _ => rfl | (refine fun (_ : guardP _ _ _ _) => ?_))
  refine fun (hc : pickB (!(fewV e && fewV e)) (.c (.bool true)) (.s 16) true (!frmV e) = false) => ?_
  have hf : frmV e = true := by
   rw [pickB_or, hfw, Bool.and_self] at hc
   exact bn_f hc
  repeat' (first | exact z7 | apply And.intro | exact trivial | exact rfl | exact lz fun _ => rfl | (refine fun (_ : guardP _ _ _ _) => ?_))
  ·refine fun _ => ?_
   have ef : ∀ (i j : Nat), pickB true (.s i) (.c (.bool false)) (pickB (!decide (e.oth = [])) (.c (.bool true)) (.s j) true (!frmV ⟨e.kind, e.day, e.a, e.b, e.off, e.id, [111, 116, 104, 101, 114], e.txt, e.ids, e.names, e.num, e.pt, e.path, e.list⟩)) false = true := fun i j => ans fun h => no_oth hf (n_dec h) (by decide)
   have ok := okv_oth ho (s := [111, 116, 104, 101, 114]) (Nat.le_of_ble_eq_true rfl)
   repeat' (first | exact ok | exact ef 90 89 | apply And.intro | exact trivial | exact rfl | exact lz fun _ => rfl | (refine fun (_ : guardP _ _ _ _) => ?_))
  refine fun _ => ?_
  repeat' (first | apply And.intro | exact trivial | exact rfl | exact lz fun _ => rfl | (refine fun (_ : guardP _ _ _ _) => ?_))
  ·refine fun _ => ?_
   have ef : ∀ (i j : Nat), pickB true (.s i) (.c (.bool false)) (pickB (!decide (e.txt = [])) (.c (.bool true)) (.s j) true (!frmV ⟨e.kind, e.day, e.a, e.b, e.off, e.id, e.oth, [116, 101, 120, 116], e.ids, e.names, e.num, e.pt, e.path, e.list⟩)) false = true := fun i j => ans fun h => no_txt hf (n_dec h) (by decide)
   have ok := okv_txt ho (s := [116, 101, 120, 116]) (Nat.le_of_ble_eq_true rfl)
   repeat' (first | exact ok | exact ef 90 89 | apply And.intro | exact trivial | exact rfl | exact lz fun _ => rfl | (refine fun (_ : guardP _ _ _ _) => ?_))
  refine fun _ => ?_
  repeat' (first | apply And.intro | exact trivial | exact rfl | exact lz fun _ => rfl | (refine fun (_ : guardP _ _ _ _) => ?_))
  ·refine fun _ => ?_
   have ef : ∀ (i j k : Nat), pickB true (.s i) (.c (.bool false)) (pickB (pickB (!decide (e.off = 0)) (.c (.bool true)) (.s k) true (decide (e.kind = 15))) (.c (.bool true)) (.s j) true (!frmV ⟨e.kind, e.day, e.a, e.b, 1, e.id, e.oth, e.txt, e.ids, e.names, e.num, e.pt, e.path, e.list⟩)) false = true := fun i j k => ans fun h => no_off (by rw [pickB_or, Bool.or_eq_false_iff] at h; exact of_decide_eq_false h.2) (by decide)
   have ok := okv_off ho (m := 1)
   repeat' (first | exact ok | exact ef 90 89 51 | apply And.intro | exact trivial | exact rfl | exact lz fun _ => rfl | (refine fun (_ : guardP _ _ _ _) => ?_))
  refine fun _ => ?_
  repeat' (first | apply And.intro | exact trivial | exact rfl | exact lz fun _ => rfl | (refine fun (_ : guardP _ _ _ _) => ?_))
  ·refine fun _ => ?_
   have ef : ∀ (i j : Nat) (s : Sq B), 0 < s.n -> pickB true (.s i) (.c (.bool false)) (pickB (decide ((0 : Int) < (e.ids.n : Int))) (.c (.bool true)) (.s j) true (!frmV ⟨e.kind, e.day, e.a, e.b, e.off, e.id, e.oth, e.txt, s, e.names, e.num, e.pt, e.path, e.list⟩)) false = true := fun i j s hs => ans fun h => no_ids hf (by have := of_decide_eq_false h; omega) hs
   repeat' (first | exact ef 90 89 _ (Nat.le_of_ble_eq_true rfl) | exact okv_ids ho ⟨Nat.le_of_ble_eq_true rfl, fun i (hi : i < 2) => by rcases (by omega : i = 0 \/ i = 1) with rfl | rfl <;> exact Nat.le_of_ble_eq_true rfl⟩ | apply And.intro | exact trivial | exact rfl | exact lz fun _ => rfl | (refine fun (_ : guardP _ _ _ _) => ?_))
  refine fun _ => ?_
  repeat' (first | apply And.intro | exact trivial | exact rfl | exact lz fun _ => rfl | (refine fun (_ : guardP _ _ _ _) => ?_))
  ·refine fun _ => ?_
   have ef : ∀ (i j : Nat) (s : Sq Nm), 0 < s.n -> pickB true (.s i) (.c (.bool false)) (pickB (decide ((0 : Int) < (e.names.n : Int))) (.c (.bool true)) (.s j) true (!frmV ⟨e.kind, e.day, e.a, e.b, e.off, e.id, e.oth, e.txt, e.ids, s, e.num, e.pt, e.path, e.list⟩)) false = true := fun i j s hs => ans fun h => no_nam hf (by have := of_decide_eq_false h; omega) hs
   repeat' (first | exact ef 90 89 _ (Nat.le_of_ble_eq_true rfl) | exact okv_names ho ⟨Nat.le_of_ble_eq_true rfl, fun i (hi : i < 1) => by rcases (by omega : i = 0 \/ i = 0) with rfl | rfl <;> exact ⟨Nat.le_of_ble_eq_true rfl, Nat.le_of_ble_eq_true rfl⟩⟩ | apply And.intro | exact trivial | exact rfl | exact lz fun _ => rfl | (refine fun (_ : guardP _ _ _ _) => ?_))
  refine fun _ => ?_
  repeat' (first | apply And.intro | exact trivial | exact rfl | exact lz fun _ => rfl | (refine fun (_ : guardP _ _ _ _) => ?_))
  ·refine fun _ => ?_
   have ef : ∀ (i j : Nat) (s : Sq En), 0 < s.n -> pickB true (.s i) (.c (.bool false)) (pickB (decide ((0 : Int) < (e.list.n : Int))) (.c (.bool true)) (.s j) true (!frmV ⟨e.kind, e.day, e.a, e.b, e.off, e.id, e.oth, e.txt, e.ids, e.names, e.num, e.pt, e.path, s⟩)) false = true := fun i j s hs => ans fun h => no_lst hf (by have := of_decide_eq_false h; omega) hs
   repeat' (first | exact ef 90 89 _ (Nat.le_of_ble_eq_true rfl) | exact okv_list ho ⟨Nat.le_of_ble_eq_true rfl, fun i (hi : i < 2) => by rcases (by omega : i = 0 \/ i = 1) with rfl | rfl <;> exact ⟨Nat.le_of_ble_eq_true rfl, Nat.le_of_ble_eq_true rfl⟩⟩ | apply And.intro | exact trivial | exact rfl | exact lz fun _ => rfl | (refine fun (_ : guardP _ _ _ _) => ?_))
  refine fun _ => ?_
  have ef : ∀ (i j : Nat) (s : Pts), 0 < s.n -> pickB true (.s i) (.c (.bool false)) (pickB (decide ((0 : Int) < (e.path.n : Int))) (.c (.bool true)) (.s j) true (!frmV ⟨e.kind, e.day, e.a, e.b, e.off, e.id, e.oth, e.txt, e.ids, e.names, e.num, e.pt, s, e.list⟩)) false = true := fun i j s hs => ans fun h => no_pth hf (by have := of_decide_eq_false h; omega) hs
  repeat' (first | exact ef 90 89 _ (Nat.le_of_ble_eq_true rfl) | exact okv_path ho (Nat.le_of_ble_eq_true rfl) | apply And.intro | exact trivial | exact rfl | exact lz fun _ => rfl | (refine fun (_ : guardP _ _ _ _) => ?_))
 ·have hfw : fewV e = false := by simpa using hfw
  refine ⟨trivial, ?_⟩
  repeat' (first | exact hb | exact fun (hg : (!(fewV e && fewV e)) = false) => absurd hg (by rw [hfw]; decide) | apply And.intro | exact trivial | exact rfl | exact lz fun _ => rfl)
  ·refine fun _ => ?_
   repeat' (first | apply And.intro | exact trivial | exact rfl)
  ·refine fun (hc : pickB (!(fewV e && fewV e)) (.c (.bool true)) (.s 16) true (!frmV e) = false) => ?_
   rw [pickB_or, hfw] at hc
   exact absurd hc (by simp)
end F29
