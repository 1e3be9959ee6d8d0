/- A part of the proof: see the last text. -/
import Derived.Test.YtjfjbkgkafgofaaR10b
open Go Go.Eng Go.Proofs R2 R3 R4 R1 R5 R6 R7 R8 R9 R10 R10b
set_option maxRecDepth 100000
namespace R11
/-- gazetteer/reverse.ring$1 -/
def g43 : List Nat := [18, 40, 1, 2, 50, 0, 67, 5, 6, 4]
def c43 : SCode :=
  .seq (.region g43 [⟨some 7, none, .idxArr 2 1 (.s 1) (.c (.int .i64 0)), []⟩, ⟨some 8, none, .load 1 false (.s 7), []⟩, ⟨some 9, none, .load 1 false (.s 2), []⟩, ⟨some 10, none, .bin (.sub) (.s 8) (.s 9), []⟩, ⟨some 11, none, .mm true (.c (.int .i64 0)) (.s 10), []⟩, ⟨some 4, none, .move (.s 11), []⟩]) (.block 0 (.loop 0 [12, 13, 14, 15, 16, 17, 18, 21, 22, 23, 24, 25, 26, 27, 28, 29, 30, 31, 32, 33, 34, 35, 36, 37, 38, 39, 40, 5, 41, 42, 43, 44, 45, 46, 47, 48, 49, 50, 54, 55, 56, 57, 58, 59, 60, 61, 62, 63, 64, 65, 66, 67, 51, 52, 53, 6, 19, 20, 4] (.seq (.seq (.region g43 [⟨some 12, none, .move (.s 4), []⟩, ⟨some 13, none, .idxArr 2 1 (.s 1) (.c (.int .i64 0)), []⟩, ⟨some 14, none, .load 1 false (.s 13), []⟩, ⟨some 15, none, .load 1 false (.s 2), []⟩, ⟨some 16, none, .bin (.add) (.s 14) (.s 15), []⟩, ⟨some 17, none, .mm false (.c (.int .i64 31)) (.s 16), []⟩, ⟨some 18, none, .bin (.leq) (.s 12) (.s 17), []⟩]) (.cond (.s 18) .skip (.exit 0))) (.seq (.block 1 (.seq (.region g43 [⟨some 21, none, .load 1 false (.s 2), []⟩, ⟨some 22, none, .bin (.mul) (.c (.int .i64 2)) (.s 21), []⟩, ⟨some 5, none, .move (.s 22), []⟩]) (.seq (.seq (.region g43 [⟨some 23, none, .move (.s 4), []⟩, ⟨some 24, none, .idxArr 2 1 (.s 1) (.c (.int .i64 0)), []⟩, ⟨some 25, none, .load 1 false (.s 24), []⟩, ⟨some 26, none, .load 1 false (.s 2), []⟩, ⟨some 27, none, .bin (.sub) (.s 25) (.s 26), []⟩, ⟨some 28, none, .bin (.eql) (.s 23) (.s 27), []⟩, ⟨some 29, none, .move (.s 28), []⟩, ⟨some 30, some (29, false), .move (.s 4), []⟩, ⟨some 31, some (29, false), .idxArr 2 1 (.s 1) (.c (.int .i64 0)), []⟩, ⟨some 32, some (29, false), .load 1 false (.s 31), []⟩, ⟨some 33, some (29, false), .load 1 false (.s 2), []⟩, ⟨some 34, some (29, false), .bin (.add) (.s 32) (.s 33), []⟩, ⟨some 35, some (29, false), .bin (.eql) (.s 30) (.s 34), []⟩, ⟨some 36, none, .pick (.s 29) (.c (.bool true)) (.s 35), []⟩, ⟨some 37, none, .move (.s 36), []⟩, ⟨some 38, some (37, false), .load 1 false (.s 2), []⟩, ⟨some 39, some (37, false), .bin (.eql) (.s 38) (.c (.int .i64 0)), []⟩, ⟨some 40, none, .pick (.s 37) (.c (.bool true)) (.s 39), []⟩]) (.cond (.s 40) (.region g43 [⟨some 5, none, .move (.c (.int .i64 1)), []⟩]) .skip)) (.seq (.region g43 [⟨some 41, none, .idxArr 2 1 (.s 1) (.c (.int .i64 1)), []⟩, ⟨some 42, none, .load 1 false (.s 41), []⟩, ⟨some 43, none, .load 1 false (.s 2), []⟩, ⟨some 44, none, .bin (.sub) (.s 42) (.s 43), []⟩, ⟨some 6, none, .move (.s 44), []⟩]) (.block 2 (.loop 1 [45, 46, 47, 48, 49, 50, 54, 55, 56, 57, 58, 59, 60, 61, 62, 63, 64, 65, 66, 67, 51, 52, 53, 6] (.seq (.seq (.region g43 [⟨some 45, none, .move (.s 6), []⟩, ⟨some 46, none, .idxArr 2 1 (.s 1) (.c (.int .i64 1)), []⟩, ⟨some 47, none, .load 1 false (.s 46), []⟩, ⟨some 48, none, .load 1 false (.s 2), []⟩, ⟨some 49, none, .bin (.add) (.s 47) (.s 48), []⟩, ⟨some 50, none, .bin (.leq) (.s 45) (.s 49), []⟩]) (.cond (.s 50) .skip (.exit 2))) (.seq (.block 3 (.seq (.region g43 [⟨some 54, none, .move (.s 6), []⟩, ⟨some 55, none, .bin (.geq) (.s 54) (.c (.int .i64 0)), []⟩, ⟨some 56, none, .move (.s 55), []⟩, ⟨some 57, some (56, true), .move (.s 6), []⟩, ⟨some 58, some (56, true), .bin (.lss) (.s 57) (.c (.int .i64 32)), []⟩, ⟨some 59, none, .pick (.s 56) (.s 58) (.c (.bool false)), []⟩, ⟨some 60, none, .move (.s 59), []⟩, ⟨some 61, some (60, true), .move (.s 0), []⟩, ⟨some 62, some (60, true), .move (.s 4), []⟩, ⟨some 63, some (60, true), .move (.s 6), []⟩, ⟨some 64, some (60, true), .build (.cons (.int .i64 0) (.cons (.int .i64 0) .nil)) [(0, 1, .s 62), (1, 1, .s 63)], []⟩, ⟨some 65, some (60, true), .call (.s 61) [.s 64], []⟩, ⟨some 66, some (60, true), .not (.s 65), []⟩, ⟨some 67, none, .pick (.s 60) (.s 66) (.c (.bool false)), []⟩]) (.cond (.s 67) .ret .skip))) (.region g43 [⟨some 51, none, .move (.s 6), []⟩, ⟨some 52, none, .move (.s 5), []⟩, ⟨some 53, none, .bin (.add) (.s 51) (.s 52), []⟩, ⟨some 6, none, .move (.s 53), []⟩]))))))))) (.region g43 [⟨some 19, none, .move (.s 4), []⟩, ⟨some 20, none, .bin (.add) (.s 19) (.c (.int .i64 1)), []⟩, ⟨some 4, none, .move (.s 20), []⟩])))))
def r43 : List SRes := []
def k43 : List (Nat × Nat × SCode × Nat) := []
theorem e43 : cFunc Try.prog 43 g43 [] [] k43 = some (c43, r43, 68) := by kernel_rfl
theorem q43 : RgOk Try.prog k43 := RgOk.nil
/-- (*gazetteer/reverse.Grid).Near -/
def g16 : List Nat := [0, 1, 32, 38, 39, 12, 50, 48, 3, 13, 4, 70, 72, 69, 17, 15, 80, 71, 14, 90, 11, 2, 9, 10, 6, 7, 8]
def c16 : SCode :=
  .seq (.region g16 [⟨some 3, none, .box 27 (.s 0), []⟩, ⟨some 4, none, .box 38 (.s 1), []⟩, ⟨some 6, none, .move (.c (.nilsl)), []⟩, ⟨some 7, none, .move (.c (.int .i64 0)), []⟩, ⟨some 8, none, .move (.c (.int .i64 0)), []⟩]) (.seq (.seq (.region g16 [⟨some 18, none, .load 1 false (.s 3), []⟩, ⟨some 19, none, .ptrEq false (.s 18) (.c (.nilptr)), []⟩, ⟨some 20, none, .move (.s 19), []⟩, ⟨some 21, some (20, false), .load 2 true (.s 4), []⟩, ⟨some 22, some (20, false), .call (.c (.fn 19)) [.s 21], []⟩, ⟨some 23, some (20, false), .not (.s 22), []⟩, ⟨some 24, none, .pick (.s 20) (.c (.bool true)) (.s 23), []⟩, ⟨some 25, none, .move (.s 24), []⟩, ⟨some 26, some (25, false), .move (.s 2), []⟩, ⟨some 27, some (25, false), .bin (.lss) (.s 26) (.c (.int .i64 1)), []⟩, ⟨some 28, none, .pick (.s 25) (.c (.bool true)) (.s 27), []⟩, ⟨some 29, none, .move (.s 28), []⟩, ⟨some 30, some (29, false), .move (.s 2), []⟩, ⟨some 31, some (29, false), .bin (.gtr) (.s 30) (.c (.int .i64 8)), []⟩, ⟨some 32, none, .pick (.s 29) (.c (.bool true)) (.s 31), []⟩]) (.cond (.s 32) (.seq (.region g16 [⟨some 6, none, .move (.c (.nilsl)), []⟩, ⟨some 7, none, .move (.c (.int .i64 0)), []⟩, ⟨some 8, none, .move (.c (.int .i64 1)), []⟩]) .ret) .skip)) (.seq (.region g16 [⟨some 9, none, .alloc 42 (.cons (.nilsl) .nil), []⟩]) (.seq (.region g16 [⟨some 10, none, .alloc 3 (.cons (.int .i64 0) .nil), []⟩, ⟨none, none, .store 1 (.s 10) (.c (.int .i64 0)), []⟩]) (.seq (.seq (.region g16 [⟨some 11, none, .move (.c (.int .i64 0)), []⟩]) (.block 0 (.loop 0 [35, 36, 37, 38, 66, 67, 68, 15, 69, 70, 72, 73, 74, 17, 75, 76, 77, 78, 79, 80, 81, 82, 14, 83, 71, 84, 85, 86, 87, 88, 89, 90, 33, 34, 11] (.seq (.block 1 (.seq (.seq (.region g16 [⟨some 35, none, .load 2 true (.s 4), []⟩, ⟨some 36, none, .call (.c (.fn 25)) [.s 35], []⟩, ⟨some 37, none, .move (.s 11), []⟩, ⟨some 38, none, .call (.c (.fn 29)) [.s 36, .s 37], []⟩]) (.block 2 (.range 1 (.s 38) 43 (c43) 68 [39] (.region g16 [⟨some 12, none, .alloc 65 (.cons (.int .i64 0) (.cons (.int .i64 0) .nil)), []⟩, ⟨none, none, .store 2 (.s 12) (.s 39), []⟩]) (.block 3 (.seq (.region g16 [⟨some 40, none, .load 1 false (.s 10), []⟩, ⟨some 41, none, .bin (.add) (.s 40) (.c (.int .i64 1)), []⟩, ⟨none, none, .store 1 (.s 10) (.s 41), []⟩]) (.seq (.drawn g16 (.pure 0 ⟨some 42, none, .load 1 false (.s 3), []⟩ (.pure 1 ⟨some 43, none, .nilCheck (.s 42), []⟩ (.pure 2 ⟨some 44, none, .fldA 1 (.s 43), []⟩ (.pure 3 ⟨some 45, none, .load 1 false (.s 44), []⟩ (.pure 4 ⟨some 46, none, .load 2 true (.s 12), []⟩ (.eff 5 ⟨some 47, none, .mlook (.nilmap) false (.a) (.s 45) (.s 46), []⟩ [] (.eff 6 ⟨some 48, none, .mrange (.s 47), []⟩ [] .done .none) .none))))))) (.block 4 (.loop 4 [49, 50, 51, 52, 13, 53, 54, 55, 56, 57, 58, 59, 60, 61, 62, 63, 64, 65] (.seq (.region g16 [⟨some 49, none, .mnext (.s 48), []⟩, ⟨some 50, none, .extract 0 (.s 49), []⟩]) (.seq (.cond (.s 50) .skip (.exit 4)) (.block 5 (.seq (.region g16 [⟨some 51, none, .mentry (.s 48), []⟩, ⟨some 52, none, .extract 0 (.s 51), []⟩, ⟨some 13, none, .move (.s 52), []⟩]) (.drawn g16 (.pure 0 ⟨some 53, none, .load 1 false (.s 9), []⟩ (.pure 1 ⟨some 54, none, .move (.s 13), []⟩ (.pure 2 ⟨some 55, none, .load 1 false (.s 3), []⟩ (.pure 3 ⟨some 56, none, .nilCheck (.s 55), []⟩ (.pure 4 ⟨some 57, none, .fldA 0 (.s 56), []⟩ (.pure 5 ⟨some 58, none, .load 1 false (.s 57), []⟩ (.pure 6 ⟨some 59, none, .move (.s 13), []⟩ (.pure 8 ⟨some 61, none, .load 2 true (.s 4), []⟩ (.eff 7 ⟨some 60, none, .mlook (.agg (.cons (.int .i64 0) (.cons (.int .i64 0) .nil))) false (.s) (.s 58) (.s 59), []⟩ [⟨some 61, none, .load 2 true (.s 4), []⟩, ⟨some 53, none, .load 1 false (.s 9), []⟩] (.pure 9 ⟨some 62, none, .call (.c (.fn 21)) [.s 60, .s 61], []⟩ (.pure 10 ⟨some 63, none, .build (.cons (.str []) (.cons (.int .i64 0) .nil)) [(0, 1, .s 54), (1, 1, .s 62)], []⟩ (.pure 11 ⟨some 64, none, .buildSl 50 2 1 (.cons (.str []) (.cons (.int .i64 0) .nil)) [(0, 2, .s 63)], []⟩ (.eff 12 ⟨some 65, none, .app 50 2 24 (.s 53) (.s 64), []⟩ [] (.eff 13 ⟨none, none, .store 1 (.s 9) (.s 65), []⟩ [] .done .none) .none)))) .none)))))))))))))))))))))) (.seq (.region g16 [⟨some 66, none, .load 2 true (.s 4), []⟩, ⟨some 67, none, .move (.s 11), []⟩, ⟨some 68, none, .call (.c (.fn 30)) [.s 66, .s 67], []⟩, ⟨some 14, none, .move (.c (.int .i64 0)), []⟩, ⟨some 15, none, .move (.s 68), []⟩]) (.seq (.seq (.region g16 [⟨some 69, none, .load 1 false (.s 9), []⟩, ⟨some 70, none, .lenSl (.s 69), []⟩, ⟨some 71, none, .move (.c (.int .i64 0)), []⟩]) (.block 6 (.loop 5 [72, 73, 74, 17, 75, 76, 77, 78, 79, 80, 81, 82, 14, 83, 71] (.seq (.region g16 [⟨some 72, none, .bin (.lss) (.s 71) (.s 70), []⟩]) (.seq (.cond (.s 72) .skip (.exit 6)) (.seq (.block 7 (.seq (.region g16 [⟨some 73, none, .idxSl 2 (.s 69) (.s 71), []⟩, ⟨some 74, none, .load 2 true (.s 73), []⟩, ⟨some 17, none, .alloc 50 (.cons (.str []) (.cons (.int .i64 0) .nil)), []⟩, ⟨none, none, .store 2 (.s 17) (.s 74), []⟩]) (.seq (.region g16 [⟨some 75, none, .fldA 1 (.s 17), []⟩, ⟨some 76, none, .load 1 false (.s 75), []⟩, ⟨some 77, none, .move (.s 15), []⟩, ⟨some 78, none, .move (.s 15), []⟩, ⟨some 79, none, .bin (.mul) (.s 77) (.s 78), []⟩, ⟨some 80, none, .bin (.lss) (.s 76) (.s 79), []⟩]) (.cond (.s 80) (.region g16 [⟨some 81, none, .move (.s 14), []⟩, ⟨some 82, none, .bin (.add) (.s 81) (.c (.int .i64 1)), []⟩, ⟨some 14, none, .move (.s 82), []⟩]) .skip)))) (.region g16 [⟨some 83, none, .bin (.add) (.s 71) (.c (.int .i64 1)), []⟩, ⟨some 71, none, .move (.s 83), []⟩]))))))) (.seq (.region g16 [⟨some 84, none, .move (.s 14), []⟩, ⟨some 85, none, .move (.s 2), []⟩, ⟨some 86, none, .bin (.geq) (.s 84) (.s 85), []⟩, ⟨some 87, none, .move (.s 86), []⟩, ⟨some 88, some (87, false), .load 1 false (.s 10), []⟩, ⟨some 89, some (87, false), .bin (.eql) (.s 88) (.c (.int .i64 1024)), []⟩, ⟨some 90, none, .pick (.s 87) (.c (.bool true)) (.s 89), []⟩]) (.cond (.s 90) (.exit 0) .skip)))))) (.region g16 [⟨some 33, none, .move (.s 11), []⟩, ⟨some 34, none, .bin (.add) (.s 33) (.c (.int .i64 1)), []⟩, ⟨some 11, none, .move (.s 34), []⟩]))))) (.seq (.region g16 [⟨some 91, none, .load 1 false (.s 9), []⟩, ⟨some 92, none, .call (.c (.fn 31)) [.s 91, .c (.fn 32)], []⟩]) (.seq (.drawn g16 (.pure 0 ⟨some 93, none, .load 1 false (.s 9), []⟩ (.pure 1 ⟨some 94, none, .move (.s 2), []⟩ (.pure 2 ⟨some 95, none, .load 1 false (.s 9), []⟩ (.pure 3 ⟨some 96, none, .lenSl (.s 95), []⟩ (.pure 4 ⟨some 97, none, .mm false (.s 94) (.s 96), []⟩ (.pure 5 ⟨some 98, none, .sliceSl 2 (.s 93) none (some (.s 97)), []⟩ (.pure 6 ⟨some 99, none, .load 1 false (.s 10), []⟩ (.pure 7 ⟨some 6, none, .move (.s 98), []⟩ (.pure 8 ⟨some 7, none, .move (.s 99), []⟩ (.pure 9 ⟨some 8, none, .move (.c (.int .i64 0)), []⟩ .done))))))))))) .ret))))))
def r16 : List SRes := [.slot 6, .slot 7, .slot 8]
def k16 : List (Nat × Nat × SCode × Nat) := [(1, 43, c43, 68)]
theorem e16 : cFunc Try.prog 16 g16 [] [] k16 = some (c16, r16, 100) := by kernel_rfl
theorem q16 : RgOk Try.prog k16 := RgOk.cons (RgOk.nil) q43 e43
def listE (L : List Fnd) : SV := .slice 2 L.length (fnAt L)
def Near : Eng.MSpec where
  X := G × (Int × Int) × Int
  Y := List Fnd × Int × Int
  args := fun x => .cons (.own 0 0) (.cons (ptE x.2.1) (.cons (.int .i64 x.2.2) .nil))
  pre := fun x => GOk x.1 ∧ x.1.d.length ≤ 20000
  h0 := fun x => heap x.1
  nx0 := 4
  post := fun x y => nearP x.1 x.2.1 x.2.2 y
  res := fun _ y => .tup (.cons (listE y.1) (.cons (.int .i64 y.2.1) (.cons (.int .i64 y.2.2) .nil)))
  h1 := fun x _ => heap x.1
  nx1 := 4
structure X0 where
  r : Nat
  L : List Fnd
  n : Int
def foundO (a : Nat) (L : List Fnd) (more : List (Nat × HObj)) : List (Nat × HObj) :=
  (6, .cells 42 (.cons (.lsl a 2 L.length) .nil)) :: (a, .arr 50 2 L.length (fnAt L)) :: more
def foundH (a : Nat) (L : List Fnd) (n : Int) (more : List (Nat × HObj)) : List (Nat × HObj) :=
  (7, .cells 3 (.cons (.int .i64 n) .nil)) :: foundO a L more
def I0 (g : G) (p : Int × Int) (most : Int) (x : X0) : Prop :=
  x.r ≤ 31 ∧ (∀ r' : Nat, r' < x.r → ¬ stopR g p most r') ∧ FI g p x.L (V0 (cellOf p) x.r) ∧ CI x.n (V0 (cellOf p) x.r)
def Inv0 (g : G) (p : Int × Int) (most : Int) : Inv := ⟨X0, I0 g p most, fun x => [(11, .int .i64 (x.r : Int))], fun x => foundH 20 x.L x.n [], fun x => 32 - x.r⟩
structure X2 where
  i : Int
  L : List Fnd
  n : Int
def I2 (g : G) (p : Int × Int) (r : Nat) (x : X2) : Prop :=
  (loI (p.1 / 1024) r ≤ x.i ∧ x.i ≤ hiI (p.1 / 1024) r + 1) ∧ FI g p x.L (V2 (cellOf p) r x.i) ∧ CI x.n (V2 (cellOf p) r x.i)
def Inv2 (g : G) (p : Int × Int) (r : Nat) : Inv := ⟨X2, I2 g p r, fun x => [(4, .int .i64 x.i)], fun x => foundH 40 x.L x.n [(20, .gone)], fun x => (hiI (p.1 / 1024) r + 1 - x.i).toNat⟩
def I3 (g : G) (p : Int × Int) (r : Nat) (i step : Int) (x : X2) : Prop :=
  Kok p r i step x.i ∧ FI g p x.L (V3 (cellOf p) r i x.i) ∧ CI x.n (V3 (cellOf p) r i x.i)
def Inv3 (g : G) (p : Int × Int) (r : Nat) (i step : Int) : Inv := ⟨X2, I3 g p r i step, fun x => [(6, .int .i64 x.i)], fun x => foundH 40 x.L x.n [(20, .gone)], fun x => (p.2 / 1024 + r + 1 - x.i).toNat⟩
def Inv4 (g : G) (p : Int × Int) (v : Int → Int → Prop) (i k : Int) (il : IL) (ic c : Nat) : Inv :=
  ⟨X4, F4 g p v i k il, fun _ => [(48, .own 60 0)], fun x => (60, .iter (.fmref 3 c) ic x.seen ic) :: foundO 56 x.L [(20, .gone), (40, .gone)], fun x => left il x.seen⟩
def Inv4n : Inv := ⟨Unit, fun _ => True, fun _ => [(48, .own 60 0)], fun _ => [(60, .iter (.val (.map none)) 0 [] 0)], fun _ => 0⟩
theorem app_len1 {L : List Fnd} {f : Fnd} : L.length + 1 = (L ++ [f]).length := by simp
theorem min_len' {most : Int} {L S : List Fnd} (hm : 1 ≤ most) (h : S.Perm L) : (min most ((L.length : Nat) : Int)).toNat = (S.take most.toNat).length := by
  rw [List.length_take, h.length_eq]
  omega
theorem min_le' {most : Int} {L S : List Fnd} (h : S.Perm L) : 0 + (min most ((L.length : Nat) : Int)).toNat ≤ S.length := by
  rw [h.length_eq]
  omega
set_option maxHeartbeats 60000000 in
theorem Near_ok : Near.Ok Try.prog 16 := by
  refine Eng.MSpec.ok_of e16 q16 (fun _ => [(19, .p On), (25, .p ofP), (29, .p ringS), (21, .p Dist), (30, .p reach), (31, .m SortF)]) (fun _ _ => TabOk.p On_ok (TabOk.p ofP_ok (TabOk.p ringS_ok (TabOk.p Dist_ok (TabOk.p reach_ok (TabOk.m SortF_ok TabOk.nil)))))) ?_
  intro (x : G × (Int × Int) × Int) ⟨hg, hd⟩
  replace hg : GOk x.1 := hg
  replace hd : x.1.d.length ≤ 20000 := hd
  refine ⟨trivial, ?_⟩
  have hcond : ∀ a b c, pickB (pickB (pickB false (.c (.bool true)) (.s a) true (!onB x.2.1)) (.c (.bool true)) (.s b) true (decide (x.2.2 < 1))) (.c (.bool true)) (.s c) true (decide (8 < x.2.2)) = !decide (onB x.2.1 = true ∧ 1 ≤ x.2.2 ∧ x.2.2 ≤ 8) := by
    intro a b c
    rw [pickB_or, pickB_or, pickB_or]
    cases onB x.2.1 <;> simp
    by_cases h1 : x.2.2 < 1 <;> by_cases h2 : 8 < x.2.2 <;> simp [h1, h2] <;> omega
  by_cases hv : onB x.2.1 = true ∧ 1 ≤ x.2.2 ∧ x.2.2 ≤ 8
  · have hb0 := fun a b c => (hcond a b c).trans (by rw [decide_eq_true hv]; rfl : _ = false)
    repeat' (first | refine And.intro ?_ ?_ | exact trivial | exact rfl | (refine fun (_ : guardP _ _ _ _) => ?_) | (refine fun (hb : pickB _ _ _ _ _ = true) => absurd (hb.symm.trans (hb0 _ _ _)) (by decide)) | (refine fun (hb : pickB _ _ _ _ _ = false) => ?_))
    clear hcond hb0
    refine ⟨Inv0 x.1 x.2.1 x.2.2, ⟨0, [], 0⟩, ⟨Nat.zero_le _, (fun _ h => absurd h (Nat.not_lt_zero _)), FI.zero _ _, CI.zero _⟩, ?_, ?_⟩
    · repeat' (first | refine And.intro ?_ ?_ | exact trivial | exact rfl | exact same_ent (p := sub _ _ 20) (sub_pt _ _) | (refine same_ent (p := sub _ _ 20) ?_; exact fun v => And.intro rfl rfl) | exact fun (i : Nat) => same_in _ _ _ | exact fun (j : Nat) (hj : j < _) => sub_at _ _ _ _ hj | omega | (dsimp only; omega))
    rintro ⟨r, L, n⟩ ⟨hr, hns, hF, hC⟩
    replace hr : r ≤ 31 := hr
    replace hns : ∀ r' : Nat, r' < r → ¬ stopR x.1 x.2.1 x.2.2 r' := hns
    replace hF : FI x.1 x.2.1 L (V0 (cellOf x.2.1) r) := hF
    replace hC : CI n (V0 (cellOf x.2.1) r) := hC
    have hon := onB_iff.1 hv.1
    have hcl := on_cell hv.1
    have hF2 : FI x.1 x.2.1 L (V2 (cellOf x.2.1) r (loI (x.2.1.1 / 1024) r)) := hF.congr hg (v2_start hv.1)
    have hC2 : CI n (V2 (cellOf x.2.1) r (loI (x.2.1.1 / 1024) r)) := hC.congr (v2_start hv.1)
    have hlo : loI (x.2.1.1 / 1024) r ≤ hiI (x.2.1.1 / 1024) r + 1 := by unfold loI hiI; omega
    repeat' (first | refine And.intro ?_ ?_ | exact trivial | exact rfl | exact hv.1 | omega | (dsimp only; omega))
    refine ⟨Inv2 x.1 x.2.1 r, ⟨loI (x.2.1.1 / 1024) r, _, n⟩, ⟨⟨Int.le_refl _, hlo⟩, hF2, hC2⟩, ?_, ?_⟩
    · repeat' (first | refine And.intro ?_ ?_ | exact trivial | exact rfl | exact same_ent (p := sub _ _ 20) (sub_pt _ _) | (refine same_ent (p := sub _ _ 20) ?_; exact fun v => And.intro rfl rfl) | exact fun (i : Nat) => same_in _ _ _ | exact fun (j : Nat) (hj : j < _) => sub_at _ _ _ _ hj | omega | (dsimp only; omega))
    rintro ⟨i, L, n⟩ ⟨⟨hi1, hi2⟩, hF, hC⟩
    replace hi1 : loI (x.2.1.1 / 1024) r ≤ i := hi1
    replace hi2 : i ≤ hiI (x.2.1.1 / 1024) r + 1 := hi2
    replace hF : FI x.1 x.2.1 L (V2 (cellOf x.2.1) r i) := hF
    replace hC : CI n (V2 (cellOf x.2.1) r i) := hC
    repeat' (first | refine And.intro ?_ ?_ | exact trivial | exact rfl | omega | (dsimp only; omega))
    · refine fun hb => ?_
      replace hb : i ≤ hiI (x.2.1.1 / 1024) r := of_decide_eq_true hb
      have hbi := hb
      have hin : 0 ≤ i ∧ i < 32 := by unfold loI at hi1; unfold hiI at hb; omega
      repeat' (first | refine And.intro ?_ ?_ | exact trivial | exact rfl | omega | (dsimp only; omega) | (refine fun (_ : guardP _ _ _ _) => ?_) | (refine fun (hp : pickB _ _ _ _ _ = _) => ?_))
      ·
        have hrow : i = x.2.1.1 / 1024 - r ∨ i = x.2.1.1 / 1024 + r ∨ r = 0 := row_true hp
        have hF3 := hF.congr hg (v3_start hv.1 (r := r) (i := i))
        have hC3 := hC.congr (v3_start hv.1 (r := r) (i := i))
        refine ⟨Inv3 x.1 x.2.1 r i (1), ⟨x.2.1.2 / 1024 - r, _, _⟩, ⟨⟨Int.le_refl _, .inl ⟨rfl, by dsimp only; omega, hrow⟩⟩, hF3, hC3⟩, ?_, ?_⟩
        · repeat' (first | refine And.intro ?_ ?_ | exact trivial | exact rfl | exact same_ent (p := sub _ _ 20) (sub_pt _ _) | (refine same_ent (p := sub _ _ 20) ?_; exact fun v => And.intro rfl rfl) | exact fun (i : Nat) => same_in _ _ _ | exact fun (j : Nat) (hj : j < _) => sub_at _ _ _ _ hj | omega | (dsimp only; omega))
        rintro ⟨k, L, n⟩ ⟨hk, hF, hC⟩
        replace hk : Kok x.2.1 r i (1) k := hk
        replace hF : FI x.1 x.2.1 L (V3 (cellOf x.2.1) r i k) := hF
        replace hC : CI n (V3 (cellOf x.2.1) r i k) := hC
        have hn := hC.le
        have hk1 : x.2.1.2 / 1024 - r ≤ k := hk.1
        refine And.intro ⟨by dsimp only; omega, by dsimp only; omega⟩ (And.intro (fun hb => ?_) (fun hb => ?_))
        · replace hb : k ≤ x.2.1.2 / 1024 + r := of_decide_eq_true hb
          have hnv := v3_not hi1 hbi hk hb
          have hst := kok_step hk hb
          refine And.intro (fun hc => ?_) (fun hc => ?_)
          · replace hc : 0 ≤ k ∧ k < 32 := in_true hc
            repeat' (first | refine And.intro ?_ ?_ | exact trivial | exact rfl | omega | (dsimp only; omega))
            refine cell_split hg ⟨hin, hc⟩ (fun hm hno => ?_) (fun v t il ic hm hf hcok => ?_)
            ·
              have hF5 := fi_none hg hF hno (v3_step hi1 hbi hk hb)
              have hC5 := hC.add (i := i) (k := k) ⟨hin, hc⟩ hnv (v3_step hi1 hbi hk hb)
              refine MLook.of_none hm ?_
              repeat' (first | refine And.intro ?_ ?_ | exact trivial | exact rfl)
              refine ⟨Inv4n, (), trivial, ?_, ?_⟩
              · repeat' (first | refine And.intro ?_ ?_ | exact trivial | exact rfl | exact same_ent (p := sub _ _ 20) (sub_pt _ _) | (refine same_ent (p := sub _ _ 20) ?_; exact fun v => And.intro rfl rfl) | exact fun (i : Nat) => same_in _ _ _ | exact fun (j : Nat) (hj : j < _) => sub_at _ _ _ _ hj | omega | (dsimp only; omega))
              intro _ _
              repeat' (first | refine And.intro ?_ ?_ | exact trivial | exact rfl | (refine fun (hb : false = true) => absurd hb (by decide)) | (refine fun (hb : false = false) => ?_) | (refine fun (hp : pickB _ _ _ _ _ = true) => no_out hp) | (refine fun (hp : pickB _ _ _ _ _ = false) => ?_) | omega | (dsimp only; omega))
              refine Exists.intro (X2.mk (k + (1)) _ (n + 1)) (And.intro (And.intro hst.1 (And.intro hF5 hC5)) (And.intro ?_ ?_))
              · repeat' (first | refine And.intro ?_ ?_ | exact trivial | exact rfl | exact same_ent (p := sub _ _ 20) (sub_pt _ _) | (refine same_ent (p := sub _ _ 20) ?_; exact fun v => And.intro rfl rfl) | exact fun (i : Nat) => same_in _ _ _ | exact fun (j : Nat) (hj : j < _) => sub_at _ _ _ _ hj | omega | (dsimp only; omega))
              · show (x.2.1.2 / 1024 + r + 1 - (k + (1))).toNat < (x.2.1.2 / 1024 + r + 1 - k).toNat
                omega
            ·
              refine MLook.of_some hm ?_
              repeat' (first | refine And.intro ?_ ?_ | exact trivial | exact rfl)
              refine Exists.intro (.map Bool .s il ic SV.bool boD) (And.intro (congrArg inO hf) ?_)
              repeat' (first | refine And.intro ?_ ?_ | exact trivial | exact rfl)
              refine ⟨Inv4 x.1 x.2.1 (V3 (cellOf x.2.1) r i k) i k il ic v, ⟨[], _⟩, f4_start hF i k il, ?_, ?_⟩
              · repeat' (first | refine And.intro ?_ ?_ | exact trivial | exact rfl | exact same_ent (p := sub _ _ 20) (sub_pt _ _) | (refine same_ent (p := sub _ _ 20) ?_; exact fun v => And.intro rfl rfl) | exact fun (i : Nat) => same_in _ _ _ | exact fun (j : Nat) (hj : j < _) => sub_at _ _ _ _ hj | omega | (dsimp only; omega))
              rintro ⟨seen, L⟩ hF4
              replace hF4 : F4 x.1 x.2.1 (V3 (cellOf x.2.1) r i k) i k il ⟨seen, L⟩ := hF4
              have hlen := f4_len hF4
              dsimp only at hlen
              repeat' (first | refine And.intro ?_ ?_ | exact trivial | exact rfl)
              refine Exists.intro (.map Bool .s il ic SV.bool boD) (And.intro (congrArg inO hf) ?_)
              refine And.intro hcok.tk (And.intro (Nat.le_refl _) (And.intro ?_ ?_))
              · refine all_keys hg hcok (fun s yb yt q u hy hns' he hd' hq1 hq2 => ?_)
                have hF5 : F4 x.1 x.2.1 (V3 (cellOf x.2.1) r i k) i k il ⟨seen ++ [yt], _ ++ [(s, distV q x.2.1)]⟩ := f4_step hcok hg hF4 hnv hy hns' he rfl hq1 hq2
                repeat' (first | refine And.intro ?_ ?_ | exact trivial | exact rfl | (refine fun (hb : true = true) => ?_) | (refine fun (hb : true = false) => absurd hb (by decide)))
                refine Exists.intro (.map Bool .s il ic SV.bool boD) (And.intro (congrArg inO hf) (And.intro rfl (Exists.intro _ (And.intro hy (And.intro (fun z hz hzt => nodup_tick hcok.nt hz hy hzt) (And.intro ⟨_, rfl⟩ ?_))))))
                repeat' (first | refine And.intro ?_ ?_ | exact trivial | exact rfl | exact roomA hlen hd | exact roomB hlen hd | refine MLook.of_some hd' ?_ | omega | (dsimp only; omega))
                refine Exists.intro (X4.mk (seen ++ [yt]) (L ++ [(s, distV q x.2.1)])) (And.intro hF5 (And.intro ?_ ?_))
                · repeat' (first | refine And.intro ?_ ?_ | exact trivial | exact rfl | exact app_sub (L := L) (f := (s, distV q x.2.1)) rfl | exact app_len1 (L := L) (f := (s, distV q x.2.1)) | exact same_ent (p := sub _ _ 20) (sub_pt _ _) | (refine same_ent (p := sub _ _ 20) ?_; exact fun v => And.intro rfl rfl) | exact fun (i : Nat) => same_in _ _ _ | omega | (dsimp only; omega))
                · exact left_step hy hns'
              · intro hall
                have hF5 := f4_done hcok hg hF4 hall (v3_step hi1 hbi hk hb)
                have hC5 := hC.add (i := i) (k := k) ⟨hin, hc⟩ hnv (v3_step hi1 hbi hk hb)
                repeat' (first | refine And.intro ?_ ?_ | exact trivial | exact rfl | (refine fun (hb : false = true) => absurd hb (by decide)) | (refine fun (hb : false = false) => ?_) | (refine fun (hp : pickB _ _ _ _ _ = true) => no_out hp) | (refine fun (hp : pickB _ _ _ _ _ = false) => ?_) | omega | (dsimp only; omega))
                refine Exists.intro (X2.mk (k + (1)) _ (n + 1)) (And.intro (And.intro hst.1 (And.intro hF5 hC5)) (And.intro ?_ ?_))
                · repeat' (first | refine And.intro ?_ ?_ | exact trivial | exact rfl | exact same_ent (p := sub _ _ 20) (sub_pt _ _) | (refine same_ent (p := sub _ _ 20) ?_; exact fun v => And.intro rfl rfl) | exact fun (i : Nat) => same_in _ _ _ | exact fun (j : Nat) (hj : j < _) => sub_at _ _ _ _ hj | omega | (dsimp only; omega))
                · show (x.2.1.2 / 1024 + r + 1 - (k + (1))).toNat < (x.2.1.2 / 1024 + r + 1 - k).toNat
                  omega
          · replace hc : ¬ (0 ≤ k ∧ k < 32) := in_false hc
            have hF5 := hF.congr hg (v3_skip hi1 hbi hk hb hc)
            have hC5 := hC.congr (v3_skip hi1 hbi hk hb hc)
            repeat' (first | refine And.intro ?_ ?_ | exact trivial | exact rfl | exact out_false hc | (refine fun (hg : guardP _ _ _ _) => no_guard hc hg) | omega | (dsimp only; omega) | (refine fun (h : false = true) => absurd h (by decide)) | (refine fun (_ : false = false) => ?_))
            refine Exists.intro (X2.mk (k + (1)) _ n) (And.intro (And.intro hst.1 (And.intro hF5 hC5)) (And.intro ?_ ?_))
            · repeat' (first | refine And.intro ?_ ?_ | exact trivial | exact rfl | exact same_ent (p := sub _ _ 20) (sub_pt _ _) | (refine same_ent (p := sub _ _ 20) ?_; exact fun v => And.intro rfl rfl) | exact fun (i : Nat) => same_in _ _ _ | exact fun (j : Nat) (hj : j < _) => sub_at _ _ _ _ hj | omega | (dsimp only; omega))
            · show (x.2.1.2 / 1024 + r + 1 - (k + (1))).toNat < (x.2.1.2 / 1024 + r + 1 - k).toNat
              omega
        · replace hb : ¬ k ≤ x.2.1.2 / 1024 + r := of_decide_eq_false hb
          have hF5 := hF.congr hg (v3_end hv.1 (r := r) (i := i) (k := k) (by omega))
          have hC5 := hC.congr (v3_end hv.1 (r := r) (i := i) (k := k) (by omega))
          repeat' (first | refine And.intro ?_ ?_ | exact trivial | exact rfl | omega | (dsimp only; omega))
          refine Exists.intro (X2.mk (i + 1) _ n) (And.intro (And.intro ⟨by dsimp only; omega, by dsimp only; omega⟩ (And.intro hF5 hC5)) (And.intro ?_ ?_))
          · repeat' (first | refine And.intro ?_ ?_ | exact trivial | exact rfl | exact same_ent (p := sub _ _ 20) (sub_pt _ _) | (refine same_ent (p := sub _ _ 20) ?_; exact fun v => And.intro rfl rfl) | exact fun (i : Nat) => same_in _ _ _ | exact fun (j : Nat) (hj : j < _) => sub_at _ _ _ _ hj | omega | (dsimp only; omega))
          · show (hiI (x.2.1.1 / 1024) r + 1 - (i + 1)).toNat < (hiI (x.2.1.1 / 1024) r + 1 - i).toNat
            omega
      ·
        have hrow : i ≠ x.2.1.1 / 1024 - r ∧ i ≠ x.2.1.1 / 1024 + r ∧ 0 < r := row_false hp
        have hF3 := hF.congr hg (v3_start hv.1 (r := r) (i := i))
        have hC3 := hC.congr (v3_start hv.1 (r := r) (i := i))
        refine ⟨Inv3 x.1 x.2.1 r i (2 * (r : Int)), ⟨x.2.1.2 / 1024 - r, _, _⟩, ⟨⟨Int.le_refl _, .inr ⟨rfl, by omega, by unfold loI at hi1; unfold hiI at hbi; omega, by unfold loI at hi1; unfold hiI at hbi; omega, .inl rfl⟩⟩, hF3, hC3⟩, ?_, ?_⟩
        · repeat' (first | refine And.intro ?_ ?_ | exact trivial | exact rfl | exact same_ent (p := sub _ _ 20) (sub_pt _ _) | (refine same_ent (p := sub _ _ 20) ?_; exact fun v => And.intro rfl rfl) | exact fun (i : Nat) => same_in _ _ _ | exact fun (j : Nat) (hj : j < _) => sub_at _ _ _ _ hj | omega | (dsimp only; omega))
        rintro ⟨k, L, n⟩ ⟨hk, hF, hC⟩
        replace hk : Kok x.2.1 r i (2 * (r : Int)) k := hk
        replace hF : FI x.1 x.2.1 L (V3 (cellOf x.2.1) r i k) := hF
        replace hC : CI n (V3 (cellOf x.2.1) r i k) := hC
        have hn := hC.le
        have hk1 : x.2.1.2 / 1024 - r ≤ k := hk.1
        refine And.intro ⟨by dsimp only; omega, by dsimp only; omega⟩ (And.intro (fun hb => ?_) (fun hb => ?_))
        · replace hb : k ≤ x.2.1.2 / 1024 + r := of_decide_eq_true hb
          have hnv := v3_not hi1 hbi hk hb
          have hst := kok_step hk hb
          refine And.intro (fun hc => ?_) (fun hc => ?_)
          · replace hc : 0 ≤ k ∧ k < 32 := in_true hc
            repeat' (first | refine And.intro ?_ ?_ | exact trivial | exact rfl | omega | (dsimp only; omega))
            refine cell_split hg ⟨hin, hc⟩ (fun hm hno => ?_) (fun v t il ic hm hf hcok => ?_)
            ·
              have hF5 := fi_none hg hF hno (v3_step hi1 hbi hk hb)
              have hC5 := hC.add (i := i) (k := k) ⟨hin, hc⟩ hnv (v3_step hi1 hbi hk hb)
              refine MLook.of_none hm ?_
              repeat' (first | refine And.intro ?_ ?_ | exact trivial | exact rfl)
              refine ⟨Inv4n, (), trivial, ?_, ?_⟩
              · repeat' (first | refine And.intro ?_ ?_ | exact trivial | exact rfl | exact same_ent (p := sub _ _ 20) (sub_pt _ _) | (refine same_ent (p := sub _ _ 20) ?_; exact fun v => And.intro rfl rfl) | exact fun (i : Nat) => same_in _ _ _ | exact fun (j : Nat) (hj : j < _) => sub_at _ _ _ _ hj | omega | (dsimp only; omega))
              intro _ _
              repeat' (first | refine And.intro ?_ ?_ | exact trivial | exact rfl | (refine fun (hb : false = true) => absurd hb (by decide)) | (refine fun (hb : false = false) => ?_) | (refine fun (hp : pickB _ _ _ _ _ = true) => no_out hp) | (refine fun (hp : pickB _ _ _ _ _ = false) => ?_) | omega | (dsimp only; omega))
              refine Exists.intro (X2.mk (k + (2 * (r : Int))) _ (n + 1)) (And.intro (And.intro hst.1 (And.intro hF5 hC5)) (And.intro ?_ ?_))
              · repeat' (first | refine And.intro ?_ ?_ | exact trivial | exact rfl | exact same_ent (p := sub _ _ 20) (sub_pt _ _) | (refine same_ent (p := sub _ _ 20) ?_; exact fun v => And.intro rfl rfl) | exact fun (i : Nat) => same_in _ _ _ | exact fun (j : Nat) (hj : j < _) => sub_at _ _ _ _ hj | omega | (dsimp only; omega))
              · show (x.2.1.2 / 1024 + r + 1 - (k + (2 * (r : Int)))).toNat < (x.2.1.2 / 1024 + r + 1 - k).toNat
                omega
            ·
              refine MLook.of_some hm ?_
              repeat' (first | refine And.intro ?_ ?_ | exact trivial | exact rfl)
              refine Exists.intro (.map Bool .s il ic SV.bool boD) (And.intro (congrArg inO hf) ?_)
              repeat' (first | refine And.intro ?_ ?_ | exact trivial | exact rfl)
              refine ⟨Inv4 x.1 x.2.1 (V3 (cellOf x.2.1) r i k) i k il ic v, ⟨[], _⟩, f4_start hF i k il, ?_, ?_⟩
              · repeat' (first | refine And.intro ?_ ?_ | exact trivial | exact rfl | exact same_ent (p := sub _ _ 20) (sub_pt _ _) | (refine same_ent (p := sub _ _ 20) ?_; exact fun v => And.intro rfl rfl) | exact fun (i : Nat) => same_in _ _ _ | exact fun (j : Nat) (hj : j < _) => sub_at _ _ _ _ hj | omega | (dsimp only; omega))
              rintro ⟨seen, L⟩ hF4
              replace hF4 : F4 x.1 x.2.1 (V3 (cellOf x.2.1) r i k) i k il ⟨seen, L⟩ := hF4
              have hlen := f4_len hF4
              dsimp only at hlen
              repeat' (first | refine And.intro ?_ ?_ | exact trivial | exact rfl)
              refine Exists.intro (.map Bool .s il ic SV.bool boD) (And.intro (congrArg inO hf) ?_)
              refine And.intro hcok.tk (And.intro (Nat.le_refl _) (And.intro ?_ ?_))
              · refine all_keys hg hcok (fun s yb yt q u hy hns' he hd' hq1 hq2 => ?_)
                have hF5 : F4 x.1 x.2.1 (V3 (cellOf x.2.1) r i k) i k il ⟨seen ++ [yt], _ ++ [(s, distV q x.2.1)]⟩ := f4_step hcok hg hF4 hnv hy hns' he rfl hq1 hq2
                repeat' (first | refine And.intro ?_ ?_ | exact trivial | exact rfl | (refine fun (hb : true = true) => ?_) | (refine fun (hb : true = false) => absurd hb (by decide)))
                refine Exists.intro (.map Bool .s il ic SV.bool boD) (And.intro (congrArg inO hf) (And.intro rfl (Exists.intro _ (And.intro hy (And.intro (fun z hz hzt => nodup_tick hcok.nt hz hy hzt) (And.intro ⟨_, rfl⟩ ?_))))))
                repeat' (first | refine And.intro ?_ ?_ | exact trivial | exact rfl | exact roomA hlen hd | exact roomB hlen hd | refine MLook.of_some hd' ?_ | omega | (dsimp only; omega))
                refine Exists.intro (X4.mk (seen ++ [yt]) (L ++ [(s, distV q x.2.1)])) (And.intro hF5 (And.intro ?_ ?_))
                · repeat' (first | refine And.intro ?_ ?_ | exact trivial | exact rfl | exact app_sub (L := L) (f := (s, distV q x.2.1)) rfl | exact app_len1 (L := L) (f := (s, distV q x.2.1)) | exact same_ent (p := sub _ _ 20) (sub_pt _ _) | (refine same_ent (p := sub _ _ 20) ?_; exact fun v => And.intro rfl rfl) | exact fun (i : Nat) => same_in _ _ _ | omega | (dsimp only; omega))
                · exact left_step hy hns'
              · intro hall
                have hF5 := f4_done hcok hg hF4 hall (v3_step hi1 hbi hk hb)
                have hC5 := hC.add (i := i) (k := k) ⟨hin, hc⟩ hnv (v3_step hi1 hbi hk hb)
                repeat' (first | refine And.intro ?_ ?_ | exact trivial | exact rfl | (refine fun (hb : false = true) => absurd hb (by decide)) | (refine fun (hb : false = false) => ?_) | (refine fun (hp : pickB _ _ _ _ _ = true) => no_out hp) | (refine fun (hp : pickB _ _ _ _ _ = false) => ?_) | omega | (dsimp only; omega))
                refine Exists.intro (X2.mk (k + (2 * (r : Int))) _ (n + 1)) (And.intro (And.intro hst.1 (And.intro hF5 hC5)) (And.intro ?_ ?_))
                · repeat' (first | refine And.intro ?_ ?_ | exact trivial | exact rfl | exact same_ent (p := sub _ _ 20) (sub_pt _ _) | (refine same_ent (p := sub _ _ 20) ?_; exact fun v => And.intro rfl rfl) | exact fun (i : Nat) => same_in _ _ _ | exact fun (j : Nat) (hj : j < _) => sub_at _ _ _ _ hj | omega | (dsimp only; omega))
                · show (x.2.1.2 / 1024 + r + 1 - (k + (2 * (r : Int)))).toNat < (x.2.1.2 / 1024 + r + 1 - k).toNat
                  omega
          · replace hc : ¬ (0 ≤ k ∧ k < 32) := in_false hc
            have hF5 := hF.congr hg (v3_skip hi1 hbi hk hb hc)
            have hC5 := hC.congr (v3_skip hi1 hbi hk hb hc)
            repeat' (first | refine And.intro ?_ ?_ | exact trivial | exact rfl | exact out_false hc | (refine fun (hg : guardP _ _ _ _) => no_guard hc hg) | omega | (dsimp only; omega) | (refine fun (h : false = true) => absurd h (by decide)) | (refine fun (_ : false = false) => ?_))
            refine Exists.intro (X2.mk (k + (2 * (r : Int))) _ n) (And.intro (And.intro hst.1 (And.intro hF5 hC5)) (And.intro ?_ ?_))
            · repeat' (first | refine And.intro ?_ ?_ | exact trivial | exact rfl | exact same_ent (p := sub _ _ 20) (sub_pt _ _) | (refine same_ent (p := sub _ _ 20) ?_; exact fun v => And.intro rfl rfl) | exact fun (i : Nat) => same_in _ _ _ | exact fun (j : Nat) (hj : j < _) => sub_at _ _ _ _ hj | omega | (dsimp only; omega))
            · show (x.2.1.2 / 1024 + r + 1 - (k + (2 * (r : Int)))).toNat < (x.2.1.2 / 1024 + r + 1 - k).toNat
              omega
        · replace hb : ¬ k ≤ x.2.1.2 / 1024 + r := of_decide_eq_false hb
          have hF5 := hF.congr hg (v3_end hv.1 (r := r) (i := i) (k := k) (by omega))
          have hC5 := hC.congr (v3_end hv.1 (r := r) (i := i) (k := k) (by omega))
          repeat' (first | refine And.intro ?_ ?_ | exact trivial | exact rfl | omega | (dsimp only; omega))
          refine Exists.intro (X2.mk (i + 1) _ n) (And.intro (And.intro ⟨by dsimp only; omega, by dsimp only; omega⟩ (And.intro hF5 hC5)) (And.intro ?_ ?_))
          · repeat' (first | refine And.intro ?_ ?_ | exact trivial | exact rfl | exact same_ent (p := sub _ _ 20) (sub_pt _ _) | (refine same_ent (p := sub _ _ 20) ?_; exact fun v => And.intro rfl rfl) | exact fun (i : Nat) => same_in _ _ _ | exact fun (j : Nat) (hj : j < _) => sub_at _ _ _ _ hj | omega | (dsimp only; omega))
          · show (hiI (x.2.1.1 / 1024) r + 1 - (i + 1)).toNat < (hiI (x.2.1.1 / 1024) r + 1 - i).toNat
            omega
    ·
      refine fun hb => ?_
      replace hb : ¬ i ≤ hiI (x.2.1.1 / 1024) r := of_decide_eq_false hb
      have hF1 := hF.congr hg (v2_end hv.1 (r := r) (i := i) (by omega))
      have hC1 := hC.congr (v2_end hv.1 (r := r) (i := i) (by omega))
      have hstop := stop_iff (most := x.2.2) hg hv.1 hF1 hC1
      have hdom := fi_dom hF1
      have hn := hC1.le
      have hlim := reach_bd hv.1 hr
      have hsq := mul_bd (a := reachP x.2.1 r) (b := reachP x.2.1 r) (B := 32768) (by omega) (by omega) (by omega) (by omega)
      have hlen := fi_len' hF1
      have hsq1 : -9223372036854775808 ≤ reachP x.2.1 r * reachP x.2.1 r := by omega
      have hsq2 : reachP x.2.1 r * reachP x.2.1 r ≤ 9223372036854775807 := by omega
      repeat' (first | refine And.intro ?_ ?_ | exact trivial | exact rfl | exact hv.1 | omega | (dsimp only; omega))
      refine ⟨⟨Nat, fun j => j ≤ L.length, fun j => [(71, .int .i64 (j : Int)), (14, .int .i64 (cntB (reachP x.2.1 r) (L.take j) : Int))], fun _ => [], fun j => L.length - j⟩, 0, Nat.zero_le _, ?_, ?_⟩
      · repeat' (first | refine And.intro ?_ ?_ | exact trivial | exact rfl | exact same_ent (p := sub _ _ 20) (sub_pt _ _) | (refine same_ent (p := sub _ _ 20) ?_; exact fun v => And.intro rfl rfl) | exact fun (i : Nat) => same_in _ _ _ | exact fun (j : Nat) (hj : j < _) => sub_at _ _ _ _ hj | omega | (dsimp only; omega))
      rintro (j : Nat) hj
      replace hj : j ≤ L.length := hj
      refine And.intro (fun hb => ?_) (fun hb => ?_)
      · have hjl : j < L.length := by have h1 : (j : Int) < ((L.length : Nat) : Int) := of_decide_eq_true hb; omega
        repeat' (first | refine And.intro ?_ ?_ | exact trivial | exact rfl | exact hsq1 | exact hsq2 | omega | (dsimp only; omega))
        · refine fun hw => ?_
          have hw1 : (L.getD (0 + ((j : Nat) : Int).toNat) ([], 0)).2 < reachP x.2.1 r * reachP x.2.1 r := of_decide_eq_true hw
          rw [Nat.zero_add, Int.toNat_natCast] at hw1
          have hcnt := cntB_succ hjl hw1
          have hcb := cntB_le (reachP x.2.1 r) (L.take j)
          have hcb2 : (L.take j).length ≤ 20001 := by rw [List.length_take]; omega
          repeat' (first | refine And.intro ?_ ?_ | exact trivial | exact rfl | omega | (dsimp only; omega))
          refine Exists.intro (j + 1) (And.intro hjl (And.intro ?_ ?_))
          · repeat' (first | refine And.intro ?_ ?_ | exact trivial | exact rfl | exact hcnt.symm | exact same_ent (p := sub _ _ 20) (sub_pt _ _) | (refine same_ent (p := sub _ _ 20) ?_; exact fun v => And.intro rfl rfl) | exact fun (i : Nat) => same_in _ _ _ | exact fun (j : Nat) (hj : j < _) => sub_at _ _ _ _ hj | omega | (dsimp only; omega))
          · show L.length - (j + 1) < L.length - j
            omega
        · refine fun hw => ?_
          have hw1 : ¬ (L.getD (0 + ((j : Nat) : Int).toNat) ([], 0)).2 < reachP x.2.1 r * reachP x.2.1 r := of_decide_eq_false hw
          rw [Nat.zero_add, Int.toNat_natCast] at hw1
          have hcnt := cntB_same hjl hw1
          repeat' (first | refine And.intro ?_ ?_ | exact trivial | exact rfl | omega | (dsimp only; omega))
          refine Exists.intro (j + 1) (And.intro hjl (And.intro ?_ ?_))
          · repeat' (first | refine And.intro ?_ ?_ | exact trivial | exact rfl | exact hcnt.symm | exact same_ent (p := sub _ _ 20) (sub_pt _ _) | (refine same_ent (p := sub _ _ 20) ?_; exact fun v => And.intro rfl rfl) | exact fun (i : Nat) => same_in _ _ _ | exact fun (j : Nat) (hj : j < _) => sub_at _ _ _ _ hj | omega | (dsimp only; omega))
          · show L.length - (j + 1) < L.length - j
            omega
      have hj0 : j = L.length := by have h1 : ¬ (j : Int) < ((L.length : Nat) : Int) := of_decide_eq_false hb; omega
      have hall : L.take j = L := by rw [hj0]; simp
      repeat' (first | refine And.intro ?_ ?_ | exact trivial | exact rfl | (refine fun (_ : guardP _ _ _ _) => ?_) | omega | (dsimp only; omega))
      · refine fun hw => ?_
        have hs : stopR x.1 x.2.1 x.2.2 r := hstop.2 (by have h1 := stop_t hw; rw [hall] at h1; exact h1)
        refine Exists.intro L (Exists.intro [40] ?_)
        repeat' (first | refine And.intro ?_ ?_ | exact trivial | exact rfl | exact hdom | exact fun (j : Nat) (hj : j < _) => sub_to _ _ 17 L hj rfl | omega | (dsimp only; omega))
        refine fun (S : List Fnd) (hpm : S.Perm L ∧ S.Pairwise (fun x y => ltOf cmpF y x = false)) => ?_
        repeat' (first | refine And.intro ?_ ?_ | exact trivial | exact rfl | omega | (dsimp only; omega))
        refine Exists.intro (S.take x.2.2.toNat, cellsN x.2.1 r, 0) (And.intro (near_post hg hv hr hns hs hF1 hpm) ?_)
        have hnc := hC1.cells hv.1 (by omega)
        have hkn := min_len' (most := x.2.2) hv.2.1 hpm.1
        have hkl := min_le' (most := x.2.2) hpm.1
        repeat' (first | refine And.intro ?_ ?_ | exact trivial | exact rfl | exact hnc | exact hkn | exact hkl | exact fun (i : Nat) (hi : i < _) => res_sub (Nat.lt_of_lt_of_eq hi hkn) | exact same_ent (p := sub _ _ 20) (sub_pt _ _) | (refine same_ent (p := sub _ _ 20) ?_; exact fun v => And.intro rfl rfl) | exact fun (i : Nat) => same_in _ _ _ | omega | (dsimp only; omega))
      · refine fun hw => ?_
        have hs : ¬ stopR x.1 x.2.1 x.2.2 r := fun h => by have h1 := stop_f hw; rw [hall] at h1; exact h1 (hstop.1 h)
        repeat' (first | refine And.intro ?_ ?_ | exact trivial | exact rfl | omega | (dsimp only; omega))
        refine Exists.intro (X0.mk (r + 1) _ n) (And.intro ⟨more_rings hv.1 hr hs, not_before hns hs, hF1, hC1⟩ (And.intro ?_ ?_))
        · repeat' (first | refine And.intro ?_ ?_ | exact trivial | exact rfl | exact same_ent (p := sub _ _ 20) (sub_pt _ _) | (refine same_ent (p := sub _ _ 20) ?_; exact fun v => And.intro rfl rfl) | exact fun (i : Nat) => same_in _ _ _ | exact fun (j : Nat) (hj : j < _) => sub_at _ _ _ _ hj | omega | (dsimp only; omega))
        · show 32 - (r + 1) < 32 - r
          omega
  · have e : nearP x.1 x.2.1 x.2.2 ([], 0, 1) := by unfold nearP; rw [if_neg hv]
    have hb1 := fun a b c => (hcond a b c).trans (by rw [decide_eq_false hv]; rfl : _ = true)
    repeat' (first | refine And.intro ?_ ?_ | exact trivial | exact rfl | (refine fun (_ : guardP _ _ _ _) => ?_) | (refine fun (hb : pickB _ _ _ _ _ = false) => absurd (hb.symm.trans (hb1 _ _ _)) (by decide)) | refine Exists.intro ([], 0, 1) (And.intro e ?_) | exact same_ent (p := sub _ _ 20) (sub_pt _ _) | (refine same_ent (p := sub _ _ 20) ?_; exact fun v => And.intro rfl rfl) | exact fun (i : Nat) => same_in _ _ _ | (refine fun (hb : pickB _ _ _ _ _ = true) => ?_))
end R11
