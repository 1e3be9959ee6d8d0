/- A part of the proof: see the last text. -/
import Derived.Test.YtjfjbkgkafgofaaR19
open Go Go.Eng Go.Proofs R2 R3 R4 R1 R5 R6 R7 R8 R9 R10 R10b R11 R12 R13 R14 R15 R16 R17 R18 R19
set_option maxRecDepth 100000
namespace R20
theorem near_bad {g : G} {p : Int × Int} {most : Int} {Q : List Fnd × Int × Int → Prop} (hv : ¬ (onB p = true ∧ 1 ≤ most ∧ most ≤ 8)) (hQ : Q ([], 0, 1)) : ∀ y, nearP g p most y → Q y := by
  intro y hy
  unfold nearP at hy
  rw [if_neg hv] at hy
  rw [hy]
  exact hQ
theorem or2_t {f e : Bool} {i : Nat} (h : e = true) : pickB (!f) (.c (.bool true)) (.s i) true e = true := by
  rw [pickB_or, h]
  cases f <;> rfl
theorem or2_f {f e : Bool} {i : Nat} (h1 : e = false) : pickB (!f) (.c (.bool true)) (.s i) true e = !f := by
  rw [pickB_or, h1]
  cases f <;> rfl
theorem fin4bad {p : Int × Int} {most : Int} (hv : ¬ (onB p = true ∧ 1 ≤ most ∧ most ≤ 8)) {a b c d e f : Nat} :
    pickB (pickB (pickB (pickB true (.s a) (.c (.bool false)) (decide ((1 : Int) = 1)) false) (.s b) (.c (.bool false)) (decide (((([] : List Fnd).length : Nat) : Int) = 0)) false) (.s c) (.c (.bool false)) (decide ((0 : Int) = 0)) false) (.s d) (.c (.bool false)) (pickB (pickB (!onB p) (.c (.bool true)) (.s e) true (decide (most < 1))) (.c (.bool true)) (.s f) true (decide (8 < most))) false = true := by
  rw [pickB_and, pickB_and, pickB_and, pickB_and, pickB_or, pickB_or]
  simp only [List.length_nil, Int.natCast_zero, decide_true, Bool.and_true, Bool.true_and]
  simp only [Bool.or_eq_true, Bool.not_eq_true', decide_eq_true_eq]
  cases h : onB p with
  | false => exact .inl (.inl rfl)
  | true =>
    by_cases h1 : most < 1
    · exact .inl (.inr h1)
    · exact .inr (Int.not_le.1 fun h2 => hv ⟨h, by omega, h2⟩)
theorem cells_pos {p : Int × Int} (hp : onB p = true) {r : Nat} (hr : r ≤ 31) : 1 ≤ cellsN p r ∧ cellsN p r ≤ 1024 := by
  have h := cw_bd hp hr
  refine ⟨?_, (cells_bd hp hr).2⟩
  have h1 : 0 < cw (p.1 / 1024) r * cw (p.2 / 1024) r := Int.mul_pos (by omega) (by omega)
  unfold cellsN
  omega
theorem chk4 {L : List Fnd} {m k n : Int} (h1 : (L.length : Int) = min m k) (h2 : 1 ≤ n ∧ n ≤ 1024) {i j : Nat} :
    pickB (pickB (!decide ((L.length : Int) = min m k)) (.c (.bool true)) (.s i) true (decide (n < 1))) (.c (.bool true)) (.s j) true (decide (1024 < n)) = false := by
  rw [pickB_or, pickB_or, decide_eq_true h1, decide_eq_false (by omega : ¬ n < 1), decide_eq_false (by omega : ¬ 1024 < n)]
  rfl
theorem fin4 {a b : Int} {i : Nat} (h : a = b) : pickB true (.s i) (.c (.bool false)) (decide (a = b)) false = true := by
  rw [pickB_and, decide_eq_true h]
  rfl
theorem here_sub {L : List Fnd} {f : Fnd} {k i : Nat} (hk : k < L.length) : pickB (hereB L f k) (.c (.bool true)) (.s i) true (decide ((L.getD ((k : Nat) : Int).toNat ([], 0)).1 = f.1) && (decide ((L.getD ((k : Nat) : Int).toNat ([], 0)).2 = f.2) && true)) = hereB L f (k + 1) := by
  rw [pickB_or, here_step hk, Int.toNat_natCast, Bool.and_true, ← Bool.decide_and]
  congr 1
  refine decide_eq_decide.2 ⟨fun h => Prod.ext h.1 h.2, fun h => by rw [h]; exact ⟨rfl, rfl⟩⟩
theorem fnd_t {l : Adrs} {p : Int × Int} {L : List Fnd} {i : Nat} (h : ownF l p i ∈ L) : ((fndN l p L i : Nat) : Int) + 1 = ((fndN l p L (i + 1) : Nat) : Int) := by rw [fndN_t h]; rfl
theorem fnd_f {l : Adrs} {p : Int × Int} {L : List Fnd} {i : Nat} (h : ¬ ownF l p i ∈ L) : ((fndN l p L i : Nat) : Int) = ((fndN l p L (i + 1) : Nat) : Int) := by rw [fndN_f h]
theorem last4 {L : List Fnd} {f : Fnd} {i : Nat} (h : 0 < L.length → befB (L.getD (L.length - 1) ([], 0)) f = true) : pickB (decide ((0 : Int) < (L.length : Int))) (.s i) (.c (.bool false)) (!befB (L.getD ((L.length : Int) - 1).toNat ([], 0)) f) false = false := by
  rw [pickB_and]
  by_cases h0 : 0 < L.length
  · have e : ((L.length : Int) - 1).toNat = L.length - 1 := by omega
    rw [e, h h0]
    simp
  · rw [decide_eq_false (by omega : ¬ (0 : Int) < (L.length : Int))]
    rfl
theorem tf {b : Bool} (h : b = false) (h2 : b = true) : False := by rw [h] at h2; cases h2
structure X4 where
  l : Adrs
  p : Int × Int
  most : Int
/-- gazetteer/gazetteerlaw39.ReverseNearest -/
def g4 : List Nat := [1, 9, 31, 8, 42, 12, 2, 11, 84, 88, 101, 13, 105, 0, 4, 124, 18, 17, 136, 16, 152, 15, 7, 14, 10, 6]
def c4 : SCode :=
  .seq (.region g4 [⟨some 4, none, .box 38 (.s 1), []⟩, ⟨some 6, none, .move (.c (.bool false)), []⟩]) (.seq (.region g4 [⟨some 19, none, .call (.c (.fn 8)) [], []⟩, ⟨some 7, none, .move (.s 19), []⟩]) (.seq (.region g4 [⟨some 21, none, .move (.s 0), []⟩, ⟨some 22, none, .call (.c (.fn 10)) [.s 21], []⟩, ⟨some 20, none, .move (.s 22), []⟩, ⟨some 23, none, .extract 0 (.s 20), []⟩, ⟨some 24, none, .extract 1 (.s 20), []⟩, ⟨some 8, none, .move (.s 23), []⟩, ⟨some 9, none, .move (.s 24), []⟩]) (.seq (.seq (.region g4 [⟨some 25, none, .move (.s 0), []⟩, ⟨some 26, none, .call (.c (.fn 9)) [.s 25], []⟩, ⟨some 27, none, .not (.s 26), []⟩, ⟨some 28, none, .move (.s 27), []⟩, ⟨some 29, some (28, false), .move (.s 9), []⟩, ⟨some 30, some (28, false), .bin (.neq) (.s 29) (.c (.int .i64 0)), []⟩, ⟨some 31, none, .pick (.s 28) (.c (.bool true)) (.s 30), []⟩]) (.cond (.s 31) (.seq (.region g4 [⟨some 32, none, .move (.s 7), []⟩, ⟨some 6, none, .move (.s 32), []⟩]) .ret) .skip)) (.seq (.region g4 [⟨some 34, none, .move (.s 8), []⟩, ⟨some 35, none, .load 2 true (.s 4), []⟩, ⟨some 36, none, .move (.s 2), []⟩, ⟨some 37, none, .call (.c (.fn 16)) [.s 34, .s 35, .s 36], []⟩, ⟨some 33, none, .move (.s 37), []⟩, ⟨some 38, none, .extract 0 (.s 33), []⟩, ⟨some 39, none, .extract 1 (.s 33), []⟩, ⟨some 40, none, .extract 2 (.s 33), []⟩, ⟨some 10, none, .move (.s 38), []⟩, ⟨some 11, none, .move (.s 39), []⟩, ⟨some 12, none, .move (.s 40), []⟩]) (.seq (.seq (.region g4 [⟨some 41, none, .move (.s 12), []⟩, ⟨some 42, none, .bin (.neq) (.s 41) (.c (.int .i64 0)), []⟩]) (.cond (.s 42) (.seq (.region g4 [⟨some 43, none, .move (.s 7), []⟩, ⟨some 44, none, .move (.s 43), []⟩, ⟨some 45, some (44, true), .move (.s 12), []⟩, ⟨some 46, some (44, true), .bin (.eql) (.s 45) (.c (.int .i64 1)), []⟩, ⟨some 47, none, .pick (.s 44) (.s 46) (.c (.bool false)), []⟩, ⟨some 48, none, .move (.s 47), []⟩, ⟨some 49, some (48, true), .move (.s 10), []⟩, ⟨some 50, some (48, true), .lenSl (.s 49), []⟩, ⟨some 51, some (48, true), .bin (.eql) (.s 50) (.c (.int .i64 0)), []⟩, ⟨some 52, none, .pick (.s 48) (.s 51) (.c (.bool false)), []⟩, ⟨some 53, none, .move (.s 52), []⟩, ⟨some 54, some (53, true), .move (.s 11), []⟩, ⟨some 55, some (53, true), .bin (.eql) (.s 54) (.c (.int .i64 0)), []⟩, ⟨some 56, none, .pick (.s 53) (.s 55) (.c (.bool false)), []⟩, ⟨some 57, none, .move (.s 56), []⟩, ⟨some 58, some (57, true), .load 2 true (.s 4), []⟩, ⟨some 59, some (57, true), .call (.c (.fn 19)) [.s 58], []⟩, ⟨some 60, some (57, true), .not (.s 59), []⟩, ⟨some 61, some (57, true), .move (.s 60), []⟩, ⟨some 62, some (61, false), .move (.s 2), []⟩, ⟨some 63, some (61, false), .bin (.lss) (.s 62) (.c (.int .i64 1)), []⟩, ⟨some 64, some (57, true), .pick (.s 61) (.c (.bool true)) (.s 63), []⟩, ⟨some 65, some (57, true), .move (.s 64), []⟩, ⟨some 66, some (65, false), .move (.s 2), []⟩, ⟨some 67, some (65, false), .bin (.gtr) (.s 66) (.c (.int .i64 8)), []⟩, ⟨some 68, some (57, true), .pick (.s 65) (.c (.bool true)) (.s 67), []⟩, ⟨some 69, none, .pick (.s 57) (.s 68) (.c (.bool false)), []⟩, ⟨some 6, none, .move (.s 69), []⟩]) .ret) .skip)) (.seq (.seq (.region g4 [⟨some 70, none, .move (.s 10), []⟩, ⟨some 71, none, .lenSl (.s 70), []⟩, ⟨some 72, none, .move (.s 2), []⟩, ⟨some 73, none, .move (.s 0), []⟩, ⟨some 74, none, .lenSl (.s 73), []⟩, ⟨some 75, none, .mm false (.s 72) (.s 74), []⟩, ⟨some 76, none, .bin (.neq) (.s 71) (.s 75), []⟩, ⟨some 77, none, .move (.s 76), []⟩, ⟨some 78, some (77, false), .move (.s 11), []⟩, ⟨some 79, some (77, false), .bin (.lss) (.s 78) (.c (.int .i64 1)), []⟩, ⟨some 80, none, .pick (.s 77) (.c (.bool true)) (.s 79), []⟩, ⟨some 81, none, .move (.s 80), []⟩, ⟨some 82, some (81, false), .move (.s 11), []⟩, ⟨some 83, some (81, false), .bin (.gtr) (.s 82) (.c (.int .i64 1024)), []⟩, ⟨some 84, none, .pick (.s 81) (.c (.bool true)) (.s 83), []⟩]) (.cond (.s 84) (.seq (.region g4 [⟨some 6, none, .move (.c (.bool false)), []⟩]) .ret) .skip)) (.seq (.seq (.region g4 [⟨some 13, none, .move (.c (.int .i64 1)), []⟩]) (.block 0 (.loop 0 [85, 86, 87, 88, 91, 92, 93, 94, 95, 96, 97, 98, 99, 100, 101, 6, 89, 90, 13] (.seq (.seq (.region g4 [⟨some 85, none, .move (.s 13), []⟩, ⟨some 86, none, .move (.s 10), []⟩, ⟨some 87, none, .lenSl (.s 86), []⟩, ⟨some 88, none, .bin (.lss) (.s 85) (.s 87), []⟩]) (.cond (.s 88) .skip (.exit 0))) (.seq (.block 1 (.seq (.drawn g4 (.pure 0 ⟨some 91, none, .move (.s 10), []⟩ (.pure 1 ⟨some 92, none, .move (.s 13), []⟩ (.pure 2 ⟨some 93, none, .bin (.sub) (.s 92) (.c (.int .i64 1)), []⟩ (.pure 3 ⟨some 94, none, .idxSl 2 (.s 91) (.s 93), []⟩ (.pure 4 ⟨some 95, none, .load 2 true (.s 94), []⟩ (.pure 5 ⟨some 96, none, .move (.s 10), []⟩ (.pure 6 ⟨some 97, none, .move (.s 13), []⟩ (.pure 7 ⟨some 98, none, .idxSl 2 (.s 96) (.s 97), []⟩ (.pure 8 ⟨some 99, none, .load 2 true (.s 98), []⟩ (.pure 9 ⟨some 100, none, .call (.c (.fn 20)) [.s 95, .s 99], []⟩ (.pure 10 ⟨some 101, none, .not (.s 100), []⟩ .done)))))))))))) (.cond (.s 101) (.seq (.region g4 [⟨some 6, none, .move (.c (.bool false)), []⟩]) .ret) .skip))) (.region g4 [⟨some 89, none, .move (.s 13), []⟩, ⟨some 90, none, .bin (.add) (.s 89) (.c (.int .i64 1)), []⟩, ⟨some 13, none, .move (.s 90), []⟩])))))) (.seq (.region g4 [⟨some 14, none, .move (.c (.int .i64 0)), []⟩]) (.seq (.seq (.region g4 [⟨some 15, none, .move (.c (.int .i64 0)), []⟩]) (.block 2 (.loop 1 [102, 103, 104, 105, 108, 109, 110, 111, 112, 113, 114, 115, 116, 117, 118, 119, 120, 16, 121, 122, 123, 124, 127, 128, 129, 130, 131, 132, 133, 134, 135, 17, 125, 126, 18, 136, 137, 138, 14, 139, 140, 141, 142, 143, 144, 145, 146, 147, 148, 149, 150, 151, 152, 6, 106, 107, 15] (.seq (.seq (.region g4 [⟨some 102, none, .move (.s 15), []⟩, ⟨some 103, none, .move (.s 0), []⟩, ⟨some 104, none, .lenSl (.s 103), []⟩, ⟨some 105, none, .bin (.lss) (.s 102) (.s 104), []⟩]) (.cond (.s 105) .skip (.exit 2))) (.seq (.block 3 (.seq (.drawn g4 (.pure 0 ⟨some 108, none, .move (.s 0), []⟩ (.pure 1 ⟨some 109, none, .move (.s 15), []⟩ (.pure 2 ⟨some 110, none, .idxSl 11 (.s 108) (.s 109), []⟩ (.pure 3 ⟨some 111, none, .fldA 0 (.s 110), []⟩ (.pure 4 ⟨some 112, none, .load 1 false (.s 111), []⟩ (.pure 5 ⟨some 113, none, .move (.s 0), []⟩ (.pure 6 ⟨some 114, none, .move (.s 15), []⟩ (.pure 7 ⟨some 115, none, .idxSl 11 (.s 113) (.s 114), []⟩ (.pure 8 ⟨some 116, none, .fldA 9 (.s 115), []⟩ (.pure 9 ⟨some 117, none, .load 2 true (.s 116), []⟩ (.pure 10 ⟨some 118, none, .load 2 true (.s 4), []⟩ (.pure 11 ⟨some 119, none, .call (.c (.fn 21)) [.s 117, .s 118], []⟩ (.pure 12 ⟨some 120, none, .build (.cons (.str []) (.cons (.int .i64 0) .nil)) [(0, 1, .s 112), (1, 1, .s 119)], []⟩ (.eff 13 ⟨some 16, none, .alloc 50 (.cons (.str []) (.cons (.int .i64 0) .nil)), []⟩ [⟨some 119, none, .call (.c (.fn 21)) [.s 117, .s 118], []⟩, ⟨some 118, none, .load 2 true (.s 4), []⟩, ⟨some 117, none, .load 2 true (.s 116), []⟩, ⟨some 112, none, .load 1 false (.s 111), []⟩] (.eff 14 ⟨none, none, .store 2 (.s 16) (.s 120), []⟩ [] .done .none) .none))))))))))))))) (.seq (.region g4 [⟨some 17, none, .move (.c (.bool false)), []⟩]) (.seq (.seq (.region g4 [⟨some 18, none, .move (.c (.int .i64 0)), []⟩]) (.block 4 (.loop 2 [121, 122, 123, 124, 127, 128, 129, 130, 131, 132, 133, 134, 135, 17, 125, 126, 18] (.seq (.seq (.region g4 [⟨some 121, none, .move (.s 18), []⟩, ⟨some 122, none, .move (.s 10), []⟩, ⟨some 123, none, .lenSl (.s 122), []⟩, ⟨some 124, none, .bin (.lss) (.s 121) (.s 123), []⟩]) (.cond (.s 124) .skip (.exit 4))) (.seq (.block 5 (.seq (.drawn [1, 9, 31, 8, 42, 12, 2, 11, 84, 88, 101, 13, 105, 0, 4, 124, 18, 17, 136, 16, 152, 15, 7, 14, 10, 6, 135] (.pure 0 ⟨some 127, none, .move (.s 17), []⟩ (.pure 1 ⟨some 128, none, .move (.s 127), []⟩ (.pure 2 ⟨some 129, some (128, false), .move (.s 10), []⟩ (.pure 3 ⟨some 130, some (128, false), .move (.s 18), []⟩ (.pure 4 ⟨some 131, some (128, false), .idxSl 2 (.s 129) (.s 130), []⟩ (.pure 5 ⟨some 132, some (128, false), .load 2 true (.s 131), []⟩ (.pure 6 ⟨some 133, some (128, false), .load 2 true (.s 16), []⟩ (.pure 7 ⟨some 134, some (128, false), .eqS false [(0, 2), (1, 1)] (.s 132) (.s 133), []⟩ (.pure 8 ⟨some 135, none, .pick (.s 128) (.c (.bool true)) (.s 134), []⟩ .done)))))))))) (.region g4 [⟨some 17, none, .move (.s 135), []⟩]))) (.region g4 [⟨some 125, none, .move (.s 18), []⟩, ⟨some 126, none, .bin (.add) (.s 125) (.c (.int .i64 1)), []⟩, ⟨some 18, none, .move (.s 126), []⟩])))))) (.seq (.region g4 [⟨some 136, none, .move (.s 17), []⟩]) (.cond (.s 136) (.region g4 [⟨some 137, none, .move (.s 14), []⟩, ⟨some 138, none, .bin (.add) (.s 137) (.c (.int .i64 1)), []⟩, ⟨some 14, none, .move (.s 138), []⟩]) (.seq (.drawn g4 (.pure 0 ⟨some 139, none, .move (.s 10), []⟩ (.pure 1 ⟨some 140, none, .lenSl (.s 139), []⟩ (.pure 2 ⟨some 141, none, .bin (.gtr) (.s 140) (.c (.int .i64 0)), []⟩ (.pure 3 ⟨some 142, none, .move (.s 141), []⟩ (.pure 4 ⟨some 143, some (142, true), .move (.s 10), []⟩ (.pure 5 ⟨some 144, some (142, true), .move (.s 10), []⟩ (.pure 6 ⟨some 145, some (142, true), .lenSl (.s 144), []⟩ (.pure 7 ⟨some 146, some (142, true), .bin (.sub) (.s 145) (.c (.int .i64 1)), []⟩ (.pure 8 ⟨some 147, some (142, true), .idxSl 2 (.s 143) (.s 146), []⟩ (.pure 9 ⟨some 148, some (142, true), .load 2 true (.s 147), []⟩ (.pure 10 ⟨some 149, some (142, true), .load 2 true (.s 16), []⟩ (.pure 11 ⟨some 150, some (142, true), .call (.c (.fn 20)) [.s 148, .s 149], []⟩ (.pure 12 ⟨some 151, some (142, true), .not (.s 150), []⟩ (.pure 13 ⟨some 152, none, .pick (.s 142) (.s 151) (.c (.bool false)), []⟩ .done))))))))))))))) (.cond (.s 152) (.seq (.region g4 [⟨some 6, none, .move (.c (.bool false)), []⟩]) .ret) .skip)))))))) (.region g4 [⟨some 106, none, .move (.s 15), []⟩, ⟨some 107, none, .bin (.add) (.s 106) (.c (.int .i64 1)), []⟩, ⟨some 15, none, .move (.s 107), []⟩])))))) (.seq (.region g4 [⟨some 153, none, .move (.s 7), []⟩, ⟨some 154, none, .move (.s 153), []⟩, ⟨some 155, some (154, true), .move (.s 14), []⟩, ⟨some 156, some (154, true), .move (.s 10), []⟩, ⟨some 157, some (154, true), .lenSl (.s 156), []⟩, ⟨some 158, some (154, true), .bin (.eql) (.s 155) (.s 157), []⟩, ⟨some 159, none, .pick (.s 154) (.s 158) (.c (.bool false)), []⟩, ⟨some 6, none, .move (.s 159), []⟩]) .ret))))))))))
def r4 : List SRes := [.slot 6]
def k4 : List (Nat × Nat × SCode × Nat) := []
theorem e4 : cFunc Try.prog 4 g4 [] [] k4 = some (c4, r4, 160) := by kernel_rfl
theorem q4 : RgOk Try.prog k4 := RgOk.nil

def law4 : Eng.Spec where
  X := X4
  args := fun x => .cons (.slice 11 x.l.n fun i => adL (x.l.a i)) (.cons (ptE x.p) (.cons (.int .i64 x.most) .nil))
  pre := fun x => (x.l.n : Int) ≤ 9223372036854775806 ∧ ∀ i, i < x.l.n → ((x.l.a i).door.length : Int) ≤ 9223372036854775807
  res := fun _ => .bool true
  inst := fun _ => none
set_option maxHeartbeats 4000000 in
theorem law4_ok : law4.Ok Try.prog 4 := by
  refine Eng.Spec.ok_of e4 q4 (fun _ => [(8, .p headS), (10, .m New), (9, .p Few), (19, .p On), (16, .m Near), (20, .p Before), (21, .p Dist)]) (fun _ _ => TabOk.p head_ok (TabOk.m New_ok (TabOk.p Few_ok (TabOk.p On_ok (TabOk.m Near_ok (TabOk.p Before_ok (TabOk.p Dist_ok TabOk.nil))))))) ?_
  rintro ⟨l, p, most⟩ ⟨hn, hs⟩
  replace hn : (l.n : Int) ≤ 9223372036854775806 := hn
  replace hs : ∀ i, i < l.n → ((l.a i).door.length : Int) ≤ 9223372036854775807 := hs
  refine ⟨trivial, ?_⟩
  repeat' (first | refine And.intro ?_ ?_ | exact trivial | exact rfl)
  refine Exists.intro l (Exists.intro [] ?_)
  repeat' (first | refine And.intro ?_ ?_ | exact trivial | exact rfl | exact hn | exact hs | exact fun (j : Nat) (hj : j < _) => sub_ad _ _ _ _)
  refine new_split (fun hc => ?_) (fun c hc => ?_)
  · have hg := putN_ok l.a l.n
    have hD := new_D hc
    have hK := DX_keys hc
    cases hv : fewB l with
    | true =>
      have hcond := fun i => (or2_f (f := fewB l) (e := !decide ((0 : Int) = 0)) (i := i) rfl).trans (by rw [hv]; rfl : _ = false)
      have hn30 := few_n hv
      have hdl : (putN l.a l.n).d.length ≤ 20000 := by
        rw [← DG_len, hD, DX_len]
        omega
      repeat' (first | refine And.intro ?_ ?_ | exact trivial | exact rfl | exact hn | exact fun (j : Nat) (hj : j < _) => sub_ad _ _ _ _ | (refine fun (_ : guardP _ _ _ _) => ?_) | (refine fun (hb : pickB _ _ _ _ _ = true) => absurd (hb.symm.trans (hcond _)) (by decide)) | (refine fun (hb : pickB _ _ _ _ _ = false) => ?_) | omega | (dsimp only; omega))
      refine Exists.intro (putN l.a l.n, p, most) (Exists.intro [1, 2, 3, 4] ?_)
      repeat' (first | refine And.intro ?_ ?_ | exact trivial | exact rfl | exact same_ent2 (p := sub _ _ 20) (fun v => sub_pt _ _ v) | exact same_ent2 (p := sub _ _ 20) (fun v => And.intro rfl rfl) | exact same_ent (p := sub _ _ 20) (sub_pt _ _) | (refine same_ent (p := sub _ _ 20) ?_; exact fun v => And.intro rfl rfl) | exact fun (i : Nat) => same_in _ _ _ | exact fun (i : Nat) => same_rn _ _ _ _ _ | exact fun (i : Nat) => same_rr _ _ _ _ _ _ _ | exact hg | exact hdl)
      by_cases hvd : onB p = true ∧ 1 ≤ most ∧ most ≤ 8
      · have hSl : (allS (DX l) p).length = l.n := by rw [allS_len, DX_len]
        refine near_var (most := most) hg hD hvd (fun L n r hr hmin hstop hL hnr => ?_)
        have hLl : L.length = min most.toNat l.n := by rw [hL, List.length_take, hSl]
        have hcb := cells_pos hvd.1 hr
        rw [← hnr] at hcb
        have hck := fun i j => chk4 (L := L) (m := most) (k := (l.n : Int)) (n := n) (by omega) hcb (i := i) (j := j)
        have hL8 : L.length ≤ 8 := by omega
        repeat' (first | refine And.intro ?_ ?_ | exact trivial | exact rfl | (refine fun (h : false = true) => absurd h (by decide)) | (refine fun (_ : false = false) => ?_) | (refine fun (_ : true = true) => ?_) | (refine fun (h : true = false) => absurd h (by decide)) | (refine fun (_ : guardP _ _ _ _) => ?_) | (refine fun (hb : pickB _ _ _ _ _ = true) => absurd (hb.symm.trans (hck _ _)) (by decide)) | (refine fun (hb : pickB _ _ _ _ _ = false) => ?_) | omega | (dsimp only; omega))
        refine ⟨⟨Nat, fun i => 1 ≤ i ∧ i ≤ L.length + 1, fun i => [(13, .int .i64 (i : Int))], fun _ => [], fun i => L.length + 1 - i⟩, 1, ⟨Nat.le_refl _, by omega⟩, ?_, ?_⟩
        · repeat' (first | refine And.intro ?_ ?_ | exact trivial | exact rfl | exact fun (j : Nat) (hj : j < _) => sub_ad _ _ _ _ | exact fun (i : Nat) (hi : i < _) => sub_fn _ _ 16 _ | exact same_ent2 (p := sub _ _ 20) (fun v => sub_pt _ _ v) | exact same_ent2 (p := sub _ _ 20) (fun v => And.intro rfl rfl) | exact same_ent (p := sub _ _ 20) (sub_pt _ _) | (refine same_ent (p := sub _ _ 20) ?_; exact fun v => And.intro rfl rfl) | exact fun (i : Nat) => same_in _ _ _ | exact fun (i : Nat) => same_rn _ _ _ _ _ | exact fun (i : Nat) => same_rr _ _ _ _ _ _ _)
        rintro (i : Nat) ⟨hi1, hi2⟩
        replace hi1 : 1 ≤ i := hi1
        replace hi2 : i ≤ L.length + 1 := hi2
        refine And.intro (fun hb => ?_) (fun hb => ?_)
        · have hil : i < L.length := by have h1 : (i : Int) < ((L.length : Nat) : Int) := of_decide_eq_true hb; omega
          have hbf : befB (L.getD ((i : Int) - 1).toNat ([], 0)) (L.getD ((i : Nat) : Int).toNat ([], 0)) = true := by
            rw [hL] at hil ⊢
            exact adj (allS_srt (DX l) p) (allS_nodup hK p) hi1 hil
          repeat' (first | refine And.intro ?_ ?_ | exact trivial | exact rfl | (refine fun (h : false = true) => absurd h (by decide)) | (refine fun (_ : false = false) => ?_) | (refine fun (_ : true = true) => ?_) | (refine fun (h : true = false) => absurd h (by decide)) | (refine fun (_ : guardP _ _ _ _) => ?_) | omega | (dsimp only; omega))
          · exact fun (hb : (!befB _ _) = true) => (nb hbf hb).elim
          · refine fun (hb : (!befB _ _) = false) => ?_
            repeat' (first | refine And.intro ?_ ?_ | exact trivial | exact rfl | omega | (dsimp only; omega))
            refine Exists.intro (i + 1) (And.intro ⟨by omega, by omega⟩ (And.intro ?_ ?_))
            · repeat' (first | refine And.intro ?_ ?_ | exact trivial | exact rfl | exact fun (j : Nat) (hj : j < _) => sub_ad _ _ _ _ | exact fun (i : Nat) (hi : i < _) => sub_fn _ _ 16 _ | exact same_ent2 (p := sub _ _ 20) (fun v => sub_pt _ _ v) | exact same_ent2 (p := sub _ _ 20) (fun v => And.intro rfl rfl) | exact same_ent (p := sub _ _ 20) (sub_pt _ _) | (refine same_ent (p := sub _ _ 20) ?_; exact fun v => And.intro rfl rfl) | exact fun (i : Nat) => same_in _ _ _ | exact fun (i : Nat) => same_rn _ _ _ _ _ | exact fun (i : Nat) => same_rr _ _ _ _ _ _ _)
            · show L.length + 1 - (i + 1) < L.length + 1 - i
              omega
        · repeat' (first | refine And.intro ?_ ?_ | exact trivial | exact rfl | (refine fun (h : false = true) => absurd h (by decide)) | (refine fun (_ : false = false) => ?_) | (refine fun (_ : true = true) => ?_) | (refine fun (h : true = false) => absurd h (by decide)) | (refine fun (_ : guardP _ _ _ _) => ?_) | omega | (dsimp only; omega))
          refine ⟨⟨Nat, fun i => i ≤ l.n, fun i => [(14, .int .i64 (fndN l p L i : Int)), (15, .int .i64 (i : Int))], fun _ => [], fun i => l.n - i⟩, 0, Nat.zero_le _, ?_, ?_⟩
          · repeat' (first | refine And.intro ?_ ?_ | exact trivial | exact rfl | exact fun (j : Nat) (hj : j < _) => sub_ad _ _ _ _ | exact fun (i : Nat) (hi : i < _) => sub_fn _ _ 16 _ | exact same_ent2 (p := sub _ _ 20) (fun v => sub_pt _ _ v) | exact same_ent2 (p := sub _ _ 20) (fun v => And.intro rfl rfl) | exact same_ent (p := sub _ _ 20) (sub_pt _ _) | (refine same_ent (p := sub _ _ 20) ?_; exact fun v => And.intro rfl rfl) | exact fun (i : Nat) => same_in _ _ _ | exact fun (i : Nat) => same_rn _ _ _ _ _ | exact fun (i : Nat) => same_rr _ _ _ _ _ _ _)
          rintro (j : Nat) hj
          replace hj : j ≤ l.n := hj
          have hfl := fndN_le l p L j
          refine And.intro (fun hb => ?_) (fun hb => ?_)
          · have hjl : j < l.n := by have h1 : (j : Int) < ((l.n : Nat) : Int) := of_decide_eq_true hb; omega
            repeat' (first | refine And.intro ?_ ?_ | exact trivial | exact rfl | (refine fun (h : false = true) => absurd h (by decide)) | (refine fun (_ : false = false) => ?_) | (refine fun (_ : true = true) => ?_) | (refine fun (h : true = false) => absurd h (by decide)) | (refine fun (_ : guardP _ _ _ _) => ?_) | omega | (dsimp only; omega))
            refine ⟨⟨Nat, fun k => k ≤ L.length, fun k => [(17, .bool (hereB L (ownF l p j) k)), (18, .int .i64 (k : Int))], fun _ => [], fun k => L.length - k⟩, 0, Nat.zero_le _, ?_, ?_⟩
            · repeat' (first | refine And.intro ?_ ?_ | exact trivial | exact rfl | exact fun (j : Nat) (hj : j < _) => sub_ad _ _ _ _ | exact fun (i : Nat) (hi : i < _) => sub_fn _ _ 16 _ | exact same_ent2 (p := sub _ _ 20) (fun v => sub_pt _ _ v) | exact same_ent2 (p := sub _ _ 20) (fun v => And.intro rfl rfl) | exact same_ent (p := sub _ _ 20) (sub_pt _ _) | (refine same_ent (p := sub _ _ 20) ?_; exact fun v => And.intro rfl rfl) | exact fun (i : Nat) => same_in _ _ _ | exact fun (i : Nat) => same_rn _ _ _ _ _ | exact fun (i : Nat) => same_rr _ _ _ _ _ _ _)
            rintro (k : Nat) hk
            replace hk : k ≤ L.length := hk
            refine And.intro (fun hb2 => ?_) (fun hb2 => ?_)
            · have hkl : k < L.length := by have h1 : (k : Int) < ((L.length : Nat) : Int) := of_decide_eq_true hb2; omega
              repeat' (first | refine And.intro ?_ ?_ | exact trivial | exact rfl | (refine fun (h : false = true) => absurd h (by decide)) | (refine fun (_ : false = false) => ?_) | (refine fun (_ : true = true) => ?_) | (refine fun (h : true = false) => absurd h (by decide)) | (refine fun (_ : guardP _ _ _ _) => ?_) | omega | (dsimp only; omega))
              refine Exists.intro (k + 1) (And.intro hkl (And.intro ?_ ?_))
              · repeat' (first | refine And.intro ?_ ?_ | exact trivial | exact rfl | exact fun (j : Nat) (hj : j < _) => sub_ad _ _ _ _ | exact fun (i : Nat) (hi : i < _) => sub_fn _ _ 16 _ | exact same_ent2 (p := sub _ _ 20) (fun v => sub_pt _ _ v) | exact same_ent2 (p := sub _ _ 20) (fun v => And.intro rfl rfl) | exact same_ent (p := sub _ _ 20) (sub_pt _ _) | (refine same_ent (p := sub _ _ 20) ?_; exact fun v => And.intro rfl rfl) | exact fun (i : Nat) => same_in _ _ _ | exact fun (i : Nat) => same_rn _ _ _ _ _ | exact fun (i : Nat) => same_rr _ _ _ _ _ _ _)
                exact here_sub hkl
              · show L.length - (k + 1) < L.length - k
                omega
            · have hkl : k = L.length := by have h1 : ¬ (k : Int) < ((L.length : Nat) : Int) := of_decide_eq_false hb2; omega
              repeat' (first | refine And.intro ?_ ?_ | exact trivial | exact rfl | (refine fun (_ : guardP _ _ _ _) => ?_) | omega | (dsimp only; omega))
              · refine fun (hh : hereB L (ownF l p j) k = true) => ?_
                have hin : ownF l p j ∈ L := by
                  rw [hkl, here_all] at hh
                  exact of_decide_eq_true hh
                repeat' (first | refine And.intro ?_ ?_ | exact trivial | exact rfl | (refine fun (_ : guardP _ _ _ _) => ?_) | omega | (dsimp only; omega))
                refine Exists.intro (j + 1) (And.intro hjl (And.intro ?_ ?_))
                · repeat' (first | refine And.intro ?_ ?_ | exact trivial | exact rfl | exact fun (j : Nat) (hj : j < _) => sub_ad _ _ _ _ | exact fun (i : Nat) (hi : i < _) => sub_fn _ _ 16 _ | exact same_ent2 (p := sub _ _ 20) (fun v => sub_pt _ _ v) | exact same_ent2 (p := sub _ _ 20) (fun v => And.intro rfl rfl) | exact same_ent (p := sub _ _ 20) (sub_pt _ _) | (refine same_ent (p := sub _ _ 20) ?_; exact fun v => And.intro rfl rfl) | exact fun (i : Nat) => same_in _ _ _ | exact fun (i : Nat) => same_rn _ _ _ _ _ | exact fun (i : Nat) => same_rr _ _ _ _ _ _ _)
                  exact fnd_t hin
                · show l.n - (j + 1) < l.n - j
                  omega
              · refine fun (hh : hereB L (ownF l p j) k = false) => ?_
                have hin : ¬ ownF l p j ∈ L := by
                  rw [hkl, here_all] at hh
                  exact of_decide_eq_false hh
                have hlast : 0 < L.length → befB (L.getD (L.length - 1) ([], 0)) (ownF l p j) = true := by
                  rw [hL] at hin ⊢
                  exact fun h0 => last_bef (allS_srt (DX l) p) (allS_nodup hK p) (own_in l p hjl) hin h0
                repeat' (first | refine And.intro ?_ ?_ | exact trivial | exact rfl | (refine fun (_ : guardP _ _ _ _) => ?_) | omega | (dsimp only; omega))
                · exact fun (hz : pickB _ _ _ _ _ = true) => (tf (last4 hlast) hz).elim
                · refine fun (_ : pickB _ _ _ _ _ = false) => ?_
                  repeat' (first | refine And.intro ?_ ?_ | exact trivial | exact rfl | (refine fun (_ : guardP _ _ _ _) => ?_) | omega | (dsimp only; omega))
                  refine Exists.intro (j + 1) (And.intro hjl (And.intro ?_ ?_))
                  · repeat' (first | refine And.intro ?_ ?_ | exact trivial | exact rfl | exact fun (j : Nat) (hj : j < _) => sub_ad _ _ _ _ | exact fun (i : Nat) (hi : i < _) => sub_fn _ _ 16 _ | exact same_ent2 (p := sub _ _ 20) (fun v => sub_pt _ _ v) | exact same_ent2 (p := sub _ _ 20) (fun v => And.intro rfl rfl) | exact same_ent (p := sub _ _ 20) (sub_pt _ _) | (refine same_ent (p := sub _ _ 20) ?_; exact fun v => And.intro rfl rfl) | exact fun (i : Nat) => same_in _ _ _ | exact fun (i : Nat) => same_rn _ _ _ _ _ | exact fun (i : Nat) => same_rr _ _ _ _ _ _ _)
                    exact fnd_f hin
                  · show l.n - (j + 1) < l.n - j
                    omega
          · have hjl : j = l.n := by have h1 : ¬ (j : Int) < ((l.n : Nat) : Int) := of_decide_eq_false hb; omega
            have hfin : (fndN l p L j : Int) = (L.length : Int) := by
              rw [hjl, hL, fndN_all (allS_nodup hK p)]
            repeat' (first | refine And.intro ?_ ?_ | exact trivial | exact rfl | (refine fun (h : false = true) => absurd h (by decide)) | (refine fun (_ : false = false) => ?_) | (refine fun (_ : true = true) => ?_) | (refine fun (h : true = false) => absurd h (by decide)) | (refine fun (_ : guardP _ _ _ _) => ?_) | omega | (dsimp only; omega))
            exact fin4 hfin
      · refine near_bad hvd ?_
        repeat' (first | refine And.intro ?_ ?_ | exact trivial | exact rfl | (refine fun (h : false = true) => absurd h (by decide)) | (refine fun (_ : false = false) => ?_) | (refine fun (_ : true = true) => ?_) | (refine fun (h : true = false) => absurd h (by decide)) | (refine fun (_ : guardP _ _ _ _) => ?_) | omega | (dsimp only; omega))
        exact fin4bad hvd
    | false =>
      have hcond := fun i => (or2_f (f := fewB l) (e := !decide ((0 : Int) = 0)) (i := i) rfl).trans (by rw [hv]; rfl : _ = true)
      repeat' (first | refine And.intro ?_ ?_ | exact trivial | exact rfl | exact hn | exact fun (j : Nat) (hj : j < _) => sub_ad _ _ _ _ | (refine fun (_ : guardP _ _ _ _) => ?_) | (refine fun (hb : pickB _ _ _ _ _ = false) => absurd (hb.symm.trans (hcond _)) (by decide)) | (refine fun (hb : pickB _ _ _ _ _ = true) => ?_))
  · have hcond := fun i => or2_t (f := fewB l) (e := !decide (c = 0)) (i := i) (by rw [decide_eq_false hc]; rfl)
    repeat' (first | refine And.intro ?_ ?_ | exact trivial | exact rfl | exact hn | exact fun (j : Nat) (hj : j < _) => sub_ad _ _ _ _ | (refine fun (_ : guardP _ _ _ _) => ?_) | (refine fun (hb : pickB _ _ _ _ _ = false) => absurd (hb.symm.trans (hcond _)) (by decide)) | (refine fun (hb : pickB _ _ _ _ _ = true) => ?_))
end R20
