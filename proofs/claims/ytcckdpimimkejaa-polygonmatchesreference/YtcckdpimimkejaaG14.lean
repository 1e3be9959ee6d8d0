/- A part of the proof: see the last text. -/
import Derived.Test.YtcckdpimimkejaaG13
open Go Go.Eng Go.Proofs G1 G2 G3 G4 G5 G6 G7 G8 G9 G10 G11 G12 G13
set_option maxRecDepth 100000
namespace G14
/-! ### The answers, not to be unfolded -/
@[irreducible] def valX (r : Pts) : Bool := valV r
@[irreducible] def twiX (r : Pts) : Int := twiV r
@[irreducible] def wheX (r : Pts) (p : Pt) : Int := wheV r p
@[irreducible] def boxX (r : Pts) : Pt × Pt × Int := boxV r
@[irreducible] def witX (a b : Pts) : Bool := witV a b
@[irreducible] def apaX (a b : Pts) : Bool := apaV a b
theorem valX_eq : valX = valV := by funext r; unfold valX; rfl
theorem twiX_eq : twiX = twiV := by funext r; unfold twiX; rfl
theorem wheX_eq : wheX = wheV := by funext r p; unfold wheX; rfl
theorem boxX_eq : boxX = boxV := by funext r; unfold boxX; rfl
theorem witX_eq : witX = witV := by funext a b; unfold witX; rfl
theorem apaX_eq : apaX = apaV := by funext a b; unfold apaX; rfl
def ptsS : SV → Option Pts
  | .cons a .nil => ptsD a
  | _ => none
def ValidX : Eng.Spec where
  X := Pts
  args := fun r => .cons (rgE r) .nil
  pre := fun r => (r.n : Int) ≤ 9223372036854775806
  res := fun r => .bool (valX r)
  inst := ptsS
def TwiceX : Eng.Spec where
  X := Pts
  args := fun r => .cons (rgE r) .nil
  pre := fun r => (r.n : Int) ≤ 9223372036854775806
  res := fun r => .int .i64 (twiX r)
  inst := ptsS
def WhereX : Eng.Spec where
  X := Pts × Pt
  args := fun x => .cons (rgE x.1) (.cons (ptE x.2) .nil)
  pre := fun x => (x.1.n : Int) ≤ 9223372036854775806
  res := fun x => .int .i64 (wheX x.1 x.2)
  inst := ptsPt
def BoxX : Eng.Spec where
  X := Pts
  args := fun r => .cons (rgE r) .nil
  pre := fun r => (r.n : Int) ≤ 9223372036854775806
  res := fun r => .tup (.cons (ptE (boxX r).1) (.cons (ptE (boxX r).2.1) (.cons (.int .i64 (boxX r).2.2) .nil)))
  inst := ptsS
def WithinX : Eng.Spec where
  X := Pts × Pts
  args := fun x => .cons (rgE x.1) (.cons (rgE x.2) .nil)
  pre := fun x => (x.1.n : Int) ≤ 9223372036854775806 ∧ (x.2.n : Int) ≤ 9223372036854775806
  res := fun x => .bool (witX x.1 x.2)
  inst := twoR
def ApartX : Eng.Spec where
  X := Pts × Pts
  args := fun x => .cons (rgE x.1) (.cons (rgE x.2) .nil)
  pre := fun x => (x.1.n : Int) ≤ 9223372036854775806 ∧ (x.2.n : Int) ≤ 9223372036854775806
  res := fun x => .bool (apaX x.1 x.2)
  inst := twoR
theorem ValidX_ok : ValidX.Ok Try.prog 15 := by unfold ValidX; rw [valX_eq]; exact ⟨Valid_ok.call, Valid_ok.does⟩
theorem TwiceX_ok : TwiceX.Ok Try.prog 17 := by unfold TwiceX; rw [twiX_eq]; exact ⟨Twice_ok.call, Twice_ok.does⟩
theorem WhereX_ok : WhereX.Ok Try.prog 19 := by unfold WhereX; rw [wheX_eq]; exact ⟨Where_ok.call, Where_ok.does⟩
theorem BoxX_ok : BoxX.Ok Try.prog 13 := by unfold BoxX; rw [boxX_eq]; exact ⟨Box_ok.call, Box_ok.does⟩
theorem WithinX_ok : WithinX.Ok Try.prog 21 := by unfold WithinX; rw [witX_eq]; exact ⟨Within_ok.call, Within_ok.does⟩
theorem ApartX_ok : ApartX.Ok Try.prog 23 := by unfold ApartX; rw [apaX_eq]; exact ⟨Apart_ok.call, Apart_ok.does⟩
/-! ### The examples -/
def sqL : SV := .cons (ptL (0, 0)) (.cons (ptL (4, 0)) (.cons (ptL (4, 4)) (.cons (ptL (0, 4)) .nil)))
def bL : SV := .cons (ptL (0, 0)) (.cons (ptL (4, 0)) (.cons (ptL (4, 4)) (.cons (ptL (2, 2)) (.cons (ptL (0, 4)) .nil))))
def cL : SV := .cons (ptL (0, 4)) (.cons (ptL (2, 2)) (.cons (ptL (4, 4)) .nil))
def dL : SV := .cons (ptL (0, 4)) (.cons (ptL (4, 4)) (.cons (ptL (4, 0)) (.cons (ptL (0, 0)) .nil)))
def eL : SV := .cons (ptL (0, 0)) (.cons (ptL (2, 0)) (.cons (ptL (4, 0)) (.cons (ptL (4, 4)) .nil)))
def rA : Pts := ⟨4, sl1 sqL⟩
def rB : Pts := ⟨5, sl1 bL⟩
def rC : Pts := ⟨3, sl1 cL⟩
def rD : Pts := ⟨4, sl1 dL⟩
def rE : Pts := ⟨4, sl1 eL⟩
theorem x1 : twiX rA = 32 := by rw [twiX_eq]; kernel_rfl
theorem x2 : twiX rB = 24 := by rw [twiX_eq]; kernel_rfl
theorem x3 : wheX rA (2, 3) = 1 := by rw [wheX_eq]; kernel_rfl
theorem x4 : wheX rB (2, 3) = -1 := by rw [wheX_eq]; kernel_rfl
theorem x5 : wheX rB (2, 2) = 0 := by rw [wheX_eq]; kernel_rfl
theorem x6 : wheX rA (5, 5) = -1 := by rw [wheX_eq]; kernel_rfl
theorem x7 : witX rB rA = true := by rw [witX_eq]; kernel_rfl
theorem x8 : witX rA rB = false := by rw [witX_eq]; kernel_rfl
theorem x9 : apaX rB rC = true := by rw [apaX_eq]; kernel_rfl
theorem x10 : apaX rA rC = false := by rw [apaX_eq]; kernel_rfl
theorem x11 : valX rD = false := by rw [valX_eq]; kernel_rfl
theorem x12 : valX rE = false := by rw [valX_eq]; kernel_rfl
theorem x13 : boxX rB = ((0, 0), (4, 4), 0) := by rw [boxX_eq]; kernel_rfl
def square : Eng.Spec where
  X := Unit
  args := fun _ => .nil
  pre := fun _ => True
  res := fun _ => .slice 2 4 (nthE sqL)
  inst := fun _ => some ()
  fresh := false
/-- gazetteer/gazetteerlaw08.square -/
def g32 : List Nat := [0]
def c32 : SCode :=
  .seq (.region g32 [⟨some 0, none, .move (.c (.nilsl)), []⟩]) (.seq (.region g32 [⟨some 1, none, .build (.cons (.int .i64 0) (.cons (.int .i64 0) .nil)) [], []⟩, ⟨some 2, none, .build (.cons (.int .i64 0) (.cons (.int .i64 0) .nil)) [(0, 1, .c (.int .i64 4))], []⟩, ⟨some 3, none, .build (.cons (.int .i64 0) (.cons (.int .i64 0) .nil)) [(0, 1, .c (.int .i64 4)), (1, 1, .c (.int .i64 4))], []⟩, ⟨some 4, none, .build (.cons (.int .i64 0) (.cons (.int .i64 0) .nil)) [(1, 1, .c (.int .i64 4))], []⟩, ⟨some 5, none, .buildSl 24 2 4 (.cons (.int .i64 0) (.cons (.int .i64 0) .nil)) [(0, 2, .s 1), (2, 2, .s 2), (4, 2, .s 3), (6, 2, .s 4)], []⟩, ⟨some 0, none, .move (.s 5), []⟩]) .ret)
def r32 : List SRes := [.slot 0]
def k32 : List (Nat × Nat × SCode × Nat) := []
theorem e32 : cFunc Try.prog 32 g32 [] [] k32 = some (c32, r32, 6) := by kernel_rfl
theorem q32 : RgOk Try.prog k32 := RgOk.nil
theorem square_ok : square.Ok Try.prog 32 := by
  refine Eng.Spec.ok_of e32 q32 (fun _ => []) (fun _ _ => TabOk.nil) ?_
  intro _ _
  refine ⟨trivial, ?_⟩
  repeat' (first | refine And.intro ?_ ?_ | exact trivial | exact rfl)
theorem pand {a b : Bool} {i : Nat} (ha : a = true) (hb : b = true) : pickB a (.s i) (.c (.bool false)) b false = true := by rw [pickB_and, ha, hb]; rfl
theorem le3 : ((3 : Nat) : Int) ≤ 9223372036854775806 := by decide
theorem le4 : ((4 : Nat) : Int) ≤ 9223372036854775806 := by decide
theorem le5 : ((5 : Nat) : Int) ≤ 9223372036854775806 := by decide
theorem sub_sq {k : Keep} {hp : List (Nat × HObj)} {m : Nat} : ∀ j, j < 4 → SubC k (sub k hp (m + 4)) (nthE sqL j) (ptL (sl1 sqL j)) := by
  intro j hj
  match j, hj with
  | 0, _ => exact Or.inl (sub_ptN _ _ _ _)
  | 1, _ => exact Or.inl (sub_ptN _ _ _ _)
  | 2, _ => exact Or.inl (sub_ptN _ _ _ _)
  | 3, _ => exact Or.inl (sub_ptN _ _ _ _)
def headS : Eng.Spec where
  X := Unit
  args := fun _ => .nil
  pre := fun _ => True
  res := fun _ => .bool true
  inst := fun _ => some ()
/-- gazetteer/gazetteerlaw08.head -/
def g11 : List Nat := [2, 1, 3, 7, 8, 6, 4, 5, 0]
def c11 : SCode :=
  .seq (.region g11 [⟨some 0, none, .move (.c (.bool false)), []⟩]) (.seq (.region g11 [⟨some 9, none, .call (.c (.fn 32)) [], []⟩, ⟨some 1, none, .move (.s 9), []⟩]) (.seq (.region g11 [⟨some 10, none, .build (.cons (.int .i64 0) (.cons (.int .i64 0) .nil)) [], []⟩, ⟨some 11, none, .build (.cons (.int .i64 0) (.cons (.int .i64 0) .nil)) [(0, 1, .c (.int .i64 4))], []⟩, ⟨some 12, none, .build (.cons (.int .i64 0) (.cons (.int .i64 0) .nil)) [(0, 1, .c (.int .i64 4)), (1, 1, .c (.int .i64 4))], []⟩, ⟨some 13, none, .build (.cons (.int .i64 0) (.cons (.int .i64 0) .nil)) [(0, 1, .c (.int .i64 2)), (1, 1, .c (.int .i64 2))], []⟩, ⟨some 14, none, .build (.cons (.int .i64 0) (.cons (.int .i64 0) .nil)) [(1, 1, .c (.int .i64 4))], []⟩, ⟨some 15, none, .buildSl 24 2 5 (.cons (.int .i64 0) (.cons (.int .i64 0) .nil)) [(0, 2, .s 10), (2, 2, .s 11), (4, 2, .s 12), (6, 2, .s 13), (8, 2, .s 14)], []⟩, ⟨some 2, none, .move (.s 15), []⟩]) (.seq (.region g11 [⟨some 16, none, .build (.cons (.int .i64 0) (.cons (.int .i64 0) .nil)) [(1, 1, .c (.int .i64 4))], []⟩, ⟨some 17, none, .build (.cons (.int .i64 0) (.cons (.int .i64 0) .nil)) [(0, 1, .c (.int .i64 2)), (1, 1, .c (.int .i64 2))], []⟩, ⟨some 18, none, .build (.cons (.int .i64 0) (.cons (.int .i64 0) .nil)) [(0, 1, .c (.int .i64 4)), (1, 1, .c (.int .i64 4))], []⟩, ⟨some 19, none, .buildSl 24 2 3 (.cons (.int .i64 0) (.cons (.int .i64 0) .nil)) [(0, 2, .s 16), (2, 2, .s 17), (4, 2, .s 18)], []⟩, ⟨some 3, none, .move (.s 19), []⟩]) (.seq (.region g11 [⟨some 21, none, .move (.s 2), []⟩, ⟨some 22, none, .call (.c (.fn 13)) [.s 21], []⟩, ⟨some 20, none, .move (.s 22), []⟩, ⟨some 23, none, .extract 0 (.s 20), []⟩, ⟨some 24, none, .extract 1 (.s 20), []⟩, ⟨some 25, none, .extract 2 (.s 20), []⟩, ⟨some 4, none, .alloc 24 (.cons (.int .i64 0) (.cons (.int .i64 0) .nil)), []⟩, ⟨some 5, none, .alloc 24 (.cons (.int .i64 0) (.cons (.int .i64 0) .nil)), []⟩, ⟨none, none, .store 2 (.s 4) (.s 23), []⟩, ⟨none, none, .store 2 (.s 5) (.s 24), []⟩, ⟨some 6, none, .move (.s 25), []⟩]) (.seq (.region g11 [⟨some 26, none, .move (.s 1), []⟩, ⟨some 27, none, .call (.c (.fn 17)) [.s 26], []⟩, ⟨some 28, none, .bin (.eql) (.s 27) (.c (.int .i64 32)), []⟩, ⟨some 29, none, .move (.s 28), []⟩, ⟨some 30, some (29, true), .move (.s 2), []⟩, ⟨some 31, some (29, true), .call (.c (.fn 17)) [.s 30], []⟩, ⟨some 32, some (29, true), .bin (.eql) (.s 31) (.c (.int .i64 24)), []⟩, ⟨some 33, none, .pick (.s 29) (.s 32) (.c (.bool false)), []⟩, ⟨some 34, none, .move (.s 33), []⟩, ⟨some 35, some (34, true), .move (.s 1), []⟩, ⟨some 36, some (34, true), .build (.cons (.int .i64 0) (.cons (.int .i64 0) .nil)) [(0, 1, .c (.int .i64 2)), (1, 1, .c (.int .i64 3))], []⟩, ⟨some 37, some (34, true), .call (.c (.fn 19)) [.s 35, .s 36], []⟩, ⟨some 38, some (34, true), .bin (.eql) (.s 37) (.c (.int .i64 1)), []⟩, ⟨some 39, none, .pick (.s 34) (.s 38) (.c (.bool false)), []⟩, ⟨some 40, none, .move (.s 39), []⟩, ⟨some 41, some (40, true), .move (.s 2), []⟩, ⟨some 42, some (40, true), .build (.cons (.int .i64 0) (.cons (.int .i64 0) .nil)) [(0, 1, .c (.int .i64 2)), (1, 1, .c (.int .i64 3))], []⟩, ⟨some 43, some (40, true), .call (.c (.fn 19)) [.s 41, .s 42], []⟩, ⟨some 44, some (40, true), .bin (.eql) (.s 43) (.c (.int .i64 (-1))), []⟩, ⟨some 45, none, .pick (.s 40) (.s 44) (.c (.bool false)), []⟩, ⟨some 46, none, .move (.s 45), []⟩, ⟨some 47, some (46, true), .move (.s 2), []⟩, ⟨some 48, some (46, true), .build (.cons (.int .i64 0) (.cons (.int .i64 0) .nil)) [(0, 1, .c (.int .i64 2)), (1, 1, .c (.int .i64 2))], []⟩, ⟨some 49, some (46, true), .call (.c (.fn 19)) [.s 47, .s 48], []⟩, ⟨some 50, some (46, true), .bin (.eql) (.s 49) (.c (.int .i64 0)), []⟩, ⟨some 51, none, .pick (.s 46) (.s 50) (.c (.bool false)), []⟩, ⟨some 52, none, .move (.s 51), []⟩, ⟨some 53, some (52, true), .move (.s 1), []⟩, ⟨some 54, some (52, true), .build (.cons (.int .i64 0) (.cons (.int .i64 0) .nil)) [(0, 1, .c (.int .i64 5)), (1, 1, .c (.int .i64 5))], []⟩, ⟨some 55, some (52, true), .call (.c (.fn 19)) [.s 53, .s 54], []⟩, ⟨some 56, some (52, true), .bin (.eql) (.s 55) (.c (.int .i64 (-1))), []⟩, ⟨some 57, none, .pick (.s 52) (.s 56) (.c (.bool false)), []⟩, ⟨some 7, none, .move (.s 57), []⟩]) (.seq (.region g11 [⟨some 58, none, .move (.s 2), []⟩, ⟨some 59, none, .move (.s 1), []⟩, ⟨some 60, none, .call (.c (.fn 21)) [.s 58, .s 59], []⟩, ⟨some 61, none, .move (.s 60), []⟩, ⟨some 62, some (61, true), .move (.s 1), []⟩, ⟨some 63, some (61, true), .move (.s 2), []⟩, ⟨some 64, some (61, true), .call (.c (.fn 21)) [.s 62, .s 63], []⟩, ⟨some 65, some (61, true), .not (.s 64), []⟩, ⟨some 66, none, .pick (.s 61) (.s 65) (.c (.bool false)), []⟩, ⟨some 67, none, .move (.s 66), []⟩, ⟨some 68, some (67, true), .move (.s 2), []⟩, ⟨some 69, some (67, true), .move (.s 3), []⟩, ⟨some 70, some (67, true), .call (.c (.fn 23)) [.s 68, .s 69], []⟩, ⟨some 71, none, .pick (.s 67) (.s 70) (.c (.bool false)), []⟩, ⟨some 72, none, .move (.s 71), []⟩, ⟨some 73, some (72, true), .move (.s 1), []⟩, ⟨some 74, some (72, true), .move (.s 3), []⟩, ⟨some 75, some (72, true), .call (.c (.fn 23)) [.s 73, .s 74], []⟩, ⟨some 76, some (72, true), .not (.s 75), []⟩, ⟨some 77, none, .pick (.s 72) (.s 76) (.c (.bool false)), []⟩, ⟨some 8, none, .move (.s 77), []⟩]) (.seq (.region g11 [⟨some 78, none, .move (.s 7), []⟩, ⟨some 79, none, .move (.s 78), []⟩, ⟨some 80, some (79, true), .move (.s 8), []⟩, ⟨some 81, none, .pick (.s 79) (.s 80) (.c (.bool false)), []⟩, ⟨some 82, none, .move (.s 81), []⟩, ⟨some 83, some (82, true), .build (.cons (.int .i64 0) (.cons (.int .i64 0) .nil)) [(1, 1, .c (.int .i64 4))], []⟩, ⟨some 84, some (82, true), .build (.cons (.int .i64 0) (.cons (.int .i64 0) .nil)) [(0, 1, .c (.int .i64 4)), (1, 1, .c (.int .i64 4))], []⟩, ⟨some 85, some (82, true), .build (.cons (.int .i64 0) (.cons (.int .i64 0) .nil)) [(0, 1, .c (.int .i64 4))], []⟩, ⟨some 86, some (82, true), .build (.cons (.int .i64 0) (.cons (.int .i64 0) .nil)) [], []⟩, ⟨some 87, some (82, true), .buildSl 24 2 4 (.cons (.int .i64 0) (.cons (.int .i64 0) .nil)) [(0, 2, .s 83), (2, 2, .s 84), (4, 2, .s 85), (6, 2, .s 86)], []⟩, ⟨some 88, some (82, true), .call (.c (.fn 15)) [.s 87], []⟩, ⟨some 89, some (82, true), .not (.s 88), []⟩, ⟨some 90, none, .pick (.s 82) (.s 89) (.c (.bool false)), []⟩, ⟨some 91, none, .move (.s 90), []⟩, ⟨some 92, some (91, true), .build (.cons (.int .i64 0) (.cons (.int .i64 0) .nil)) [], []⟩, ⟨some 93, some (91, true), .build (.cons (.int .i64 0) (.cons (.int .i64 0) .nil)) [(0, 1, .c (.int .i64 2))], []⟩, ⟨some 94, some (91, true), .build (.cons (.int .i64 0) (.cons (.int .i64 0) .nil)) [(0, 1, .c (.int .i64 4))], []⟩, ⟨some 95, some (91, true), .build (.cons (.int .i64 0) (.cons (.int .i64 0) .nil)) [(0, 1, .c (.int .i64 4)), (1, 1, .c (.int .i64 4))], []⟩, ⟨some 96, some (91, true), .buildSl 24 2 4 (.cons (.int .i64 0) (.cons (.int .i64 0) .nil)) [(0, 2, .s 92), (2, 2, .s 93), (4, 2, .s 94), (6, 2, .s 95)], []⟩, ⟨some 97, some (91, true), .call (.c (.fn 15)) [.s 96], []⟩, ⟨some 98, some (91, true), .not (.s 97), []⟩, ⟨some 99, none, .pick (.s 91) (.s 98) (.c (.bool false)), []⟩, ⟨some 100, none, .move (.s 99), []⟩, ⟨some 101, some (100, true), .move (.s 6), []⟩, ⟨some 102, some (100, true), .bin (.eql) (.s 101) (.c (.int .i64 0)), []⟩, ⟨some 103, none, .pick (.s 100) (.s 102) (.c (.bool false)), []⟩, ⟨some 104, none, .move (.s 103), []⟩, ⟨some 105, some (104, true), .load 2 true (.s 4), []⟩, ⟨some 106, some (104, true), .build (.cons (.int .i64 0) (.cons (.int .i64 0) .nil)) [], []⟩, ⟨some 107, some (104, true), .eqS false [(0, 1), (1, 1)] (.s 105) (.s 106), []⟩, ⟨some 108, none, .pick (.s 104) (.s 107) (.c (.bool false)), []⟩, ⟨some 109, none, .move (.s 108), []⟩, ⟨some 110, some (109, true), .load 2 true (.s 5), []⟩, ⟨some 111, some (109, true), .build (.cons (.int .i64 0) (.cons (.int .i64 0) .nil)) [(0, 1, .c (.int .i64 4)), (1, 1, .c (.int .i64 4))], []⟩, ⟨some 112, some (109, true), .eqS false [(0, 1), (1, 1)] (.s 110) (.s 111), []⟩, ⟨some 113, none, .pick (.s 109) (.s 112) (.c (.bool false)), []⟩, ⟨some 0, none, .move (.s 113), []⟩]) .ret)))))))
def r11 : List SRes := [.slot 0]
def k11 : List (Nat × Nat × SCode × Nat) := []
theorem e11 : cFunc Try.prog 11 g11 [] [] k11 = some (c11, r11, 114) := by kernel_rfl
theorem q11 : RgOk Try.prog k11 := RgOk.nil
set_option maxHeartbeats 4000000 in
theorem head_ok : headS.Ok Try.prog 11 := by
  refine Eng.Spec.ok_of e11 q11 (fun _ => [(32, .p square), (13, .p BoxX), (17, .p TwiceX), (19, .p WhereX), (21, .p WithinX), (23, .p ApartX), (15, .p ValidX)]) (fun _ _ => TabOk.p square_ok (TabOk.p BoxX_ok (TabOk.p TwiceX_ok (TabOk.p WhereX_ok (TabOk.p WithinX_ok (TabOk.p ApartX_ok (TabOk.p ValidX_ok TabOk.nil))))))) ?_
  intro _ _
  refine ⟨trivial, ?_⟩
  have c1 := pand (pand (pand (pand (pand (decide_eq_true x1) (decide_eq_true x2) (i := 32)) (decide_eq_true x3) (i := 38)) (decide_eq_true x4) (i := 44)) (decide_eq_true x5) (i := 50)) (decide_eq_true x6) (i := 56)
  have c2 := pand (pand (pand x7 (show (!witX rA rB) = true by rw [x8]; rfl) (i := 65)) x9 (i := 70)) (show (!apaX rA rC) = true by rw [x10]; rfl) (i := 76)
  have c3 : eqP (boxX rB).1 (0, 0) = true := by rw [x13]; rfl
  have c4 : eqP (boxX rB).2.1 (4, 4) = true := by rw [x13]; rfl
  have c5 : decide ((boxX rB).2.2 = 0) = true := by rw [x13]; rfl
  have c6 := pand (pand (pand (pand (pand (pand c1 c2 (i := 80)) (show (!valX rD) = true by rw [x11]; rfl) (i := 89)) (show (!valX rE) = true by rw [x12]; rfl) (i := 98)) c5 (i := 102)) c3 (i := 107)) c4 (i := 112)
  repeat' (first | refine And.intro ?_ ?_ | exact trivial | exact rfl | exact sub_sq | (refine fun (_ : guardP _ _ _ _) => ?_) | exact le4 | exact le5 | exact le3)
  exact c6
end G14
