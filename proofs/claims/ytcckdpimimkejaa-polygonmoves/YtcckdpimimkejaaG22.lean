/- A part of the proof: see the last text. -/
import Derived.Test.YtcckdpimimkejaaG21
open Go Go.Eng Go.Proofs G1 G2 G3 G4 G5 G6 G7 G8 G9 G10 G11 G12 G13 G14 G15 G16 G18 G19 G20 G21
set_option maxRecDepth 100000
namespace G22
structure X9 where
  a : Pts
  b : Pts
  p : Pt
  x : Int
  y : Int
  ex : Bool
def law9 : Eng.Spec where
  X := X9
  args := fun x => .cons (rgE x.a) (.cons (rgE x.b) (.cons (ptE x.p) (.cons (.int .i16 x.x) (.cons (.int .i16 x.y) (.cons (.bool x.ex) .nil)))))
  pre := fun x => ((x.a.n : Int) ≤ 9223372036854775806 ∧ (x.b.n : Int) ≤ 9223372036854775806) ∧ (-32768 ≤ x.x ∧ x.x ≤ 32767) ∧ (-32768 ≤ x.y ∧ x.y ≤ 32767)
  res := fun _ => .bool true
  inst := fun _ => none
/-- gazetteer/gazetteerlaw08.PolygonMoves -/
def g9 : List Nat := [2, 39, 3, 4, 14, 15, 5, 64, 82, 8, 18, 13, 19, 0, 1, 16, 17, 12]
def c9 : SCode :=
  .seq (.region g9 [⟨some 8, none, .box 24 (.s 2), []⟩, ⟨some 12, none, .move (.c (.bool false)), []⟩]) (.seq (.region g9 [⟨some 20, none, .call (.c (.fn 11)) [], []⟩, ⟨some 13, none, .move (.s 20), []⟩]) (.seq (.seq (.region g9 [⟨some 21, none, .move (.s 0), []⟩, ⟨some 22, none, .move (.s 1), []⟩, ⟨some 23, none, .call (.c (.fn 12)) [.s 21, .s 22], []⟩, ⟨some 24, none, .not (.s 23), []⟩, ⟨some 25, none, .move (.s 24), []⟩, ⟨some 26, some (25, false), .move (.s 0), []⟩, ⟨some 27, some (25, false), .call (.c (.fn 15)) [.s 26], []⟩, ⟨some 28, some (25, false), .not (.s 27), []⟩, ⟨some 29, none, .pick (.s 25) (.c (.bool true)) (.s 28), []⟩, ⟨some 30, none, .move (.s 29), []⟩, ⟨some 31, some (30, false), .move (.s 1), []⟩, ⟨some 32, some (30, false), .call (.c (.fn 15)) [.s 31], []⟩, ⟨some 33, some (30, false), .not (.s 32), []⟩, ⟨some 34, none, .pick (.s 30) (.c (.bool true)) (.s 33), []⟩, ⟨some 35, none, .move (.s 34), []⟩, ⟨some 36, some (35, false), .load 2 true (.s 8), []⟩, ⟨some 37, some (35, false), .call (.c (.fn 29)) [.s 36], []⟩, ⟨some 38, some (35, false), .not (.s 37), []⟩, ⟨some 39, none, .pick (.s 35) (.c (.bool true)) (.s 38), []⟩]) (.cond (.s 39) (.seq (.region g9 [⟨some 40, none, .move (.s 13), []⟩, ⟨some 12, none, .move (.s 40), []⟩]) .ret) .skip)) (.seq (.region g9 [⟨some 41, none, .move (.s 3), []⟩, ⟨some 42, none, .cnv .i64 (.s 41), []⟩, ⟨some 43, none, .move (.s 4), []⟩, ⟨some 44, none, .cnv .i64 (.s 43), []⟩, ⟨some 14, none, .move (.s 42), []⟩, ⟨some 15, none, .move (.s 44), []⟩]) (.seq (.region g9 [⟨some 45, none, .move (.s 0), []⟩, ⟨some 46, none, .move (.s 14), []⟩, ⟨some 47, none, .move (.s 15), []⟩, ⟨some 48, none, .move (.s 5), []⟩, ⟨some 49, none, .call (.c (.fn 30)) [.s 45, .s 46, .s 47, .s 48], []⟩, ⟨some 50, none, .move (.s 1), []⟩, ⟨some 51, none, .move (.s 14), []⟩, ⟨some 52, none, .move (.s 15), []⟩, ⟨some 53, none, .move (.s 5), []⟩, ⟨some 54, none, .call (.c (.fn 30)) [.s 50, .s 51, .s 52, .s 53], []⟩, ⟨some 16, none, .move (.s 49), []⟩, ⟨some 17, none, .move (.s 54), []⟩]) (.seq (.region g9 [⟨some 55, none, .fldA 0 (.s 8), []⟩, ⟨some 56, none, .load 1 false (.s 55), []⟩, ⟨some 57, none, .move (.s 14), []⟩, ⟨some 58, none, .bin (.add) (.s 56) (.s 57), []⟩, ⟨some 59, none, .fldA 1 (.s 8), []⟩, ⟨some 60, none, .load 1 false (.s 59), []⟩, ⟨some 61, none, .move (.s 15), []⟩, ⟨some 62, none, .bin (.add) (.s 60) (.s 61), []⟩, ⟨some 63, none, .build (.cons (.int .i64 0) (.cons (.int .i64 0) .nil)) [(0, 1, .s 58), (1, 1, .s 62)], []⟩, ⟨some 18, none, .alloc 24 (.cons (.int .i64 0) (.cons (.int .i64 0) .nil)), []⟩, ⟨none, none, .store 2 (.s 18) (.s 63), []⟩]) (.seq (.seq (.region g9 [⟨some 64, none, .move (.s 5), []⟩]) (.cond (.s 64) (.region g9 [⟨some 65, none, .fldA 1 (.s 8), []⟩, ⟨some 66, none, .load 1 false (.s 65), []⟩, ⟨some 67, none, .fldA 0 (.s 8), []⟩, ⟨some 68, none, .load 1 false (.s 67), []⟩, ⟨some 69, none, .build (.cons (.int .i64 0) (.cons (.int .i64 0) .nil)) [(0, 1, .s 66), (1, 1, .s 68)], []⟩, ⟨none, none, .store 2 (.s 18) (.s 69), []⟩]) .skip)) (.seq (.seq (.region g9 [⟨some 70, none, .move (.s 16), []⟩, ⟨some 71, none, .call (.c (.fn 31)) [.s 70], []⟩, ⟨some 72, none, .not (.s 71), []⟩, ⟨some 73, none, .move (.s 72), []⟩, ⟨some 74, some (73, false), .move (.s 17), []⟩, ⟨some 75, some (73, false), .call (.c (.fn 31)) [.s 74], []⟩, ⟨some 76, some (73, false), .not (.s 75), []⟩, ⟨some 77, none, .pick (.s 73) (.c (.bool true)) (.s 76), []⟩, ⟨some 78, none, .move (.s 77), []⟩, ⟨some 79, some (78, false), .load 2 true (.s 18), []⟩, ⟨some 80, some (78, false), .call (.c (.fn 29)) [.s 79], []⟩, ⟨some 81, some (78, false), .not (.s 80), []⟩, ⟨some 82, none, .pick (.s 78) (.c (.bool true)) (.s 81), []⟩]) (.cond (.s 82) (.seq (.region g9 [⟨some 83, none, .move (.s 13), []⟩, ⟨some 12, none, .move (.s 83), []⟩]) .ret) .skip)) (.seq (.drawn g9 (.pure 0 ⟨some 84, none, .move (.s 16), []⟩ (.pure 1 ⟨some 85, none, .call (.c (.fn 15)) [.s 84], []⟩ (.pure 2 ⟨some 86, none, .move (.s 85), []⟩ (.pure 3 ⟨some 87, some (86, true), .move (.s 17), []⟩ (.pure 4 ⟨some 88, some (86, true), .call (.c (.fn 15)) [.s 87], []⟩ (.pure 5 ⟨some 89, none, .pick (.s 86) (.s 88) (.c (.bool false)), []⟩ (.pure 6 ⟨some 90, none, .move (.s 89), []⟩ (.pure 7 ⟨some 91, some (90, true), .move (.s 0), []⟩ (.pure 8 ⟨some 92, some (90, true), .call (.c (.fn 17)) [.s 91], []⟩ (.pure 9 ⟨some 93, some (90, true), .move (.s 16), []⟩ (.pure 10 ⟨some 94, some (90, true), .call (.c (.fn 17)) [.s 93], []⟩ (.pure 11 ⟨some 95, some (90, true), .bin (.eql) (.s 92) (.s 94), []⟩ (.pure 12 ⟨some 96, none, .pick (.s 90) (.s 95) (.c (.bool false)), []⟩ (.pure 13 ⟨some 97, none, .move (.s 96), []⟩ (.pure 14 ⟨some 98, some (97, true), .move (.s 0), []⟩ (.pure 15 ⟨some 99, some (97, true), .load 2 true (.s 8), []⟩ (.pure 16 ⟨some 100, some (97, true), .call (.c (.fn 19)) [.s 98, .s 99], []⟩ (.pure 17 ⟨some 101, some (97, true), .move (.s 16), []⟩ (.pure 18 ⟨some 102, some (97, true), .load 2 true (.s 18), []⟩ (.pure 19 ⟨some 103, some (97, true), .call (.c (.fn 19)) [.s 101, .s 102], []⟩ (.pure 20 ⟨some 104, some (97, true), .bin (.eql) (.s 100) (.s 103), []⟩ (.pure 21 ⟨some 105, none, .pick (.s 97) (.s 104) (.c (.bool false)), []⟩ (.pure 22 ⟨some 19, none, .move (.s 105), []⟩ .done)))))))))))))))))))))))) (.seq (.region g9 [⟨some 106, none, .move (.s 13), []⟩, ⟨some 107, none, .move (.s 106), []⟩, ⟨some 108, some (107, true), .move (.s 19), []⟩, ⟨some 109, none, .pick (.s 107) (.s 108) (.c (.bool false)), []⟩, ⟨some 110, none, .move (.s 109), []⟩, ⟨some 111, some (110, true), .move (.s 0), []⟩, ⟨some 112, some (110, true), .move (.s 1), []⟩, ⟨some 113, some (110, true), .call (.c (.fn 21)) [.s 111, .s 112], []⟩, ⟨some 114, some (110, true), .move (.s 16), []⟩, ⟨some 115, some (110, true), .move (.s 17), []⟩, ⟨some 116, some (110, true), .call (.c (.fn 21)) [.s 114, .s 115], []⟩, ⟨some 117, some (110, true), .eqB false (.s 113) (.s 116), []⟩, ⟨some 118, none, .pick (.s 110) (.s 117) (.c (.bool false)), []⟩, ⟨some 119, none, .move (.s 118), []⟩, ⟨some 120, some (119, true), .move (.s 0), []⟩, ⟨some 121, some (119, true), .move (.s 1), []⟩, ⟨some 122, some (119, true), .call (.c (.fn 23)) [.s 120, .s 121], []⟩, ⟨some 123, some (119, true), .move (.s 16), []⟩, ⟨some 124, some (119, true), .move (.s 17), []⟩, ⟨some 125, some (119, true), .call (.c (.fn 23)) [.s 123, .s 124], []⟩, ⟨some 126, some (119, true), .eqB false (.s 122) (.s 125), []⟩, ⟨some 127, none, .pick (.s 119) (.s 126) (.c (.bool false)), []⟩, ⟨some 12, none, .move (.s 127), []⟩]) .ret)))))))))
def r9 : List SRes := [.slot 12]
def k9 : List (Nat × Nat × SCode × Nat) := []
theorem e9 : cFunc Try.prog 9 g9 [] [] k9 = some (c9, r9, 128) := by kernel_rfl
theorem q9_ : RgOk Try.prog k9 := RgOk.nil
def q9 (p : Pt) (t : Pt) : Bool → Pt
  | true => sw p
  | false => mv t p
/-- The law, plainly. -/
theorem moves {a b : Pts} {p t : Pt} {ex : Bool} (ha : valX a = true) (hb : valX b = true) (hp : onB p = true) (hc : orB (offI (movR a t ex)) (movR a t ex).n = false) (hd : orB (offI (movR b t ex)) (movR b t ex).n = false) (hq : onB (q9 p t ex) = true) :
    valX (movR a t ex) = true ∧ valX (movR b t ex) = true ∧ twiX a = twiX (movR a t ex) ∧ wheX a p = wheX (movR a t ex) (q9 p t ex) ∧ witX a b = witX (movR a t ex) (movR b t ex) ∧ apaX a b = apaX (movR a t ex) (movR b t ex) := by
  rw [valX_eq] at ha hb
  cases ex with
  | true => exact img_all mvs_sw ha hb (img_sw ha) (img_sw hb) hp hq
  | false => exact img_all (mvs_mv t) ha hb (img_mv ha fun i hi => off_on hc i hi) (img_mv hb fun i hi => off_on hd i hi) hp hq
set_option maxHeartbeats 4000000 in
theorem law9_ok : law9.Ok Try.prog 9 := by
  refine Eng.Spec.ok_of e9 q9_ (fun _ => [(11, .p headS), (12, .p Few), (15, .p ValidX), (29, .p On), (30, .p movedS), (31, .p onAl), (17, .p TwiceX), (19, .p WhereX), (21, .p WithinX), (23, .p ApartX)]) (fun _ _ => TabOk.p head_ok (TabOk.p Few_ok (TabOk.p ValidX_ok (TabOk.p On_ok (TabOk.p movedS_ok (TabOk.p onAl_ok (TabOk.p TwiceX_ok (TabOk.p WhereX_ok (TabOk.p WithinX_ok (TabOk.p ApartX_ok TabOk.nil)))))))))) ?_
  rintro ⟨a, b, p, x, y, ex⟩ ⟨⟨ha, hb⟩, ⟨hx0, hx1⟩, ⟨hy0, hy1⟩⟩
  replace ha : (a.n : Int) ≤ 9223372036854775806 := ha
  replace hb : (b.n : Int) ≤ 9223372036854775806 := hb
  replace hx0 : -32768 ≤ x := hx0
  replace hx1 : x ≤ 32767 := hx1
  replace hy0 : -32768 ≤ y := hy0
  replace hy1 : y ≤ 32767 := hy1
  cases ex with
  | true =>
    refine ⟨trivial, ?_⟩
    repeat' (first | refine And.intro ?_ ?_ | exact trivial | exact rfl | exact fun (j : Nat) (hj : j < _) => Or.inl (sub_ptN _ _ _ _) | (refine fun (_ : guardP _ _ _ _) => ?_) | exact ha | exact hb)
    · refine fun (_ : pickB _ _ _ _ _ = true) => ?_
      repeat' (first | refine And.intro ?_ ?_ | exact trivial | exact rfl | exact fun (j : Nat) (hj : j < _) => Or.inl (sub_ptN _ _ _ _))
    refine fun (h : pickB (pickB (pickB (!few a b) _ _ _ (!valX a)) _ _ _ (!valX b)) _ _ _ (!onB p) = false) => ?_
    rw [pickB_or, pickB_or, pickB_or] at h
    simp only [Bool.or_eq_false_iff] at h
    have hva := not_f h.1.1.2
    have hvb := not_f h.1.2
    have hp := not_f h.2
    have hva' := hva
    have hvb' := hvb
    rw [valX_eq] at hva' hvb'
    have va := (val_ok hva').1
    have vb := (val_ok hvb').1
    have a50 := va.1
    have aon := va.2
    have b50 := vb.1
    have bon := vb.2
    have hpi := onB_iff.1 hp
    have g1 : -9223372036854775808 ≤ x := by omega
    have g2 : x ≤ 9223372036854775807 := by omega
    have g3 : -9223372036854775808 ≤ y := by omega
    have g4 : y ≤ 9223372036854775807 := by omega
    have g5 : -9223372036854775808 ≤ p.1 + x := by omega
    have g6 : p.1 + x ≤ 9223372036854775807 := by omega
    have g7 : -9223372036854775808 ≤ p.2 + y := by omega
    have g8 : p.2 + y ≤ 9223372036854775807 := by omega
    have g9 : -32768 ≤ x := hx0
    have g10 : x ≤ 32768 := by omega
    have g11 : -32768 ≤ y := hy0
    have g12 : y ≤ 32768 := by omega
    repeat' (first | (refine fun (_ : true = true) => ?_) | exact fun (h : true = false) => Bool.noConfusion h | with_reducible exact g1 | with_reducible exact g2 | with_reducible exact g3 | with_reducible exact g4 | with_reducible exact g5 | with_reducible exact g6 | with_reducible exact g7 | with_reducible exact g8 | with_reducible exact g9 | with_reducible exact g10 | with_reducible exact g11 | with_reducible exact g12 | refine And.intro ?_ ?_ | exact trivial | exact rfl | exact fun (j : Nat) (hj : j < _) => Or.inl (sub_ptN _ _ _ _) | (refine fun (_ : guardP _ _ _ _) => ?_) | exact a50 | exact b50 | exact aon | exact bon)
    · refine fun (_ : pickB _ _ _ _ _ = true) => ?_
      repeat' (first | refine And.intro ?_ ?_ | exact trivial | exact rfl | exact fun (j : Nat) (hj : j < _) => Or.inl (sub_ptN _ _ _ _))
    refine fun (h2 : pickB (pickB (!(!orB (offI (movR a (x, y) true)) (movR a (x, y) true).n)) _ _ _ (!(!orB (offI (movR b (x, y) true)) (movR b (x, y) true).n))) _ _ _ (!onB (q9 p (x, y) true)) = false) => ?_
    rw [pickB_or, pickB_or] at h2
    simp only [Bool.or_eq_false_iff] at h2
    have k := moves (ex := true) hva hvb hp (not_t (not_f h2.1.1)) (not_t (not_f h2.1.2)) (not_f h2.2)
    have c3 := decide_eq_true k.2.2.1
    have c4 := decide_eq_true k.2.2.2.1
    have c5 : (witX a b == witX (movR a (x, y) true) (movR b (x, y) true)) = true := by rw [k.2.2.2.2.1]; exact beq_self_eq_true _
    have c6 : (apaX a b == apaX (movR a (x, y) true) (movR b (x, y) true)) = true := by rw [k.2.2.2.2.2]; exact beq_self_eq_true _
    have d1 := pand (pand (pand k.1 k.2.1 (i := 88)) c3 (i := 95)) c4 (i := 104)
    have d2 := pand (pand (pand (show true = true from rfl) d1 (i := 108)) c5 (i := 117)) c6 (i := 126)
    repeat' (first | refine And.intro ?_ ?_ | exact trivial | exact rfl | exact fun (j : Nat) (hj : j < _) => Or.inl (sub_ptN _ _ _ _) | (refine fun (_ : guardP _ _ _ _) => ?_) | exact ha | exact hb)
    exact d2
  | false =>
    refine ⟨trivial, ?_⟩
    repeat' (first | refine And.intro ?_ ?_ | exact trivial | exact rfl | exact fun (j : Nat) (hj : j < _) => Or.inl (sub_ptN _ _ _ _) | (refine fun (_ : guardP _ _ _ _) => ?_) | exact ha | exact hb)
    · refine fun (_ : pickB _ _ _ _ _ = true) => ?_
      repeat' (first | refine And.intro ?_ ?_ | exact trivial | exact rfl | exact fun (j : Nat) (hj : j < _) => Or.inl (sub_ptN _ _ _ _))
    refine fun (h : pickB (pickB (pickB (!few a b) _ _ _ (!valX a)) _ _ _ (!valX b)) _ _ _ (!onB p) = false) => ?_
    rw [pickB_or, pickB_or, pickB_or] at h
    simp only [Bool.or_eq_false_iff] at h
    have hva := not_f h.1.1.2
    have hvb := not_f h.1.2
    have hp := not_f h.2
    have hva' := hva
    have hvb' := hvb
    rw [valX_eq] at hva' hvb'
    have va := (val_ok hva').1
    have vb := (val_ok hvb').1
    have a50 := va.1
    have aon := va.2
    have b50 := vb.1
    have bon := vb.2
    have hpi := onB_iff.1 hp
    have g1 : -9223372036854775808 ≤ x := by omega
    have g2 : x ≤ 9223372036854775807 := by omega
    have g3 : -9223372036854775808 ≤ y := by omega
    have g4 : y ≤ 9223372036854775807 := by omega
    have g5 : -9223372036854775808 ≤ p.1 + x := by omega
    have g6 : p.1 + x ≤ 9223372036854775807 := by omega
    have g7 : -9223372036854775808 ≤ p.2 + y := by omega
    have g8 : p.2 + y ≤ 9223372036854775807 := by omega
    have g9 : -32768 ≤ x := hx0
    have g10 : x ≤ 32768 := by omega
    have g11 : -32768 ≤ y := hy0
    have g12 : y ≤ 32768 := by omega
    repeat' (first | (refine fun (_ : false = false) => ?_) | exact fun (h : false = true) => Bool.noConfusion h | with_reducible exact g1 | with_reducible exact g2 | with_reducible exact g3 | with_reducible exact g4 | with_reducible exact g5 | with_reducible exact g6 | with_reducible exact g7 | with_reducible exact g8 | with_reducible exact g9 | with_reducible exact g10 | with_reducible exact g11 | with_reducible exact g12 | refine And.intro ?_ ?_ | exact trivial | exact rfl | exact fun (j : Nat) (hj : j < _) => Or.inl (sub_ptN _ _ _ _) | (refine fun (_ : guardP _ _ _ _) => ?_) | exact a50 | exact b50 | exact aon | exact bon)
    · refine fun (_ : pickB _ _ _ _ _ = true) => ?_
      repeat' (first | refine And.intro ?_ ?_ | exact trivial | exact rfl | exact fun (j : Nat) (hj : j < _) => Or.inl (sub_ptN _ _ _ _))
    refine fun (h2 : pickB (pickB (!(!orB (offI (movR a (x, y) false)) (movR a (x, y) false).n)) _ _ _ (!(!orB (offI (movR b (x, y) false)) (movR b (x, y) false).n))) _ _ _ (!onB (q9 p (x, y) false)) = false) => ?_
    rw [pickB_or, pickB_or] at h2
    simp only [Bool.or_eq_false_iff] at h2
    have k := moves (ex := false) hva hvb hp (not_t (not_f h2.1.1)) (not_t (not_f h2.1.2)) (not_f h2.2)
    have c3 := decide_eq_true k.2.2.1
    have c4 := decide_eq_true k.2.2.2.1
    have c5 : (witX a b == witX (movR a (x, y) false) (movR b (x, y) false)) = true := by rw [k.2.2.2.2.1]; exact beq_self_eq_true _
    have c6 : (apaX a b == apaX (movR a (x, y) false) (movR b (x, y) false)) = true := by rw [k.2.2.2.2.2]; exact beq_self_eq_true _
    have d1 := pand (pand (pand k.1 k.2.1 (i := 88)) c3 (i := 95)) c4 (i := 104)
    have d2 := pand (pand (pand (show true = true from rfl) d1 (i := 108)) c5 (i := 117)) c6 (i := 126)
    repeat' (first | refine And.intro ?_ ?_ | exact trivial | exact rfl | exact fun (j : Nat) (hj : j < _) => Or.inl (sub_ptN _ _ _ _) | (refine fun (_ : guardP _ _ _ _) => ?_) | exact ha | exact hb)
    exact d2
end G22
