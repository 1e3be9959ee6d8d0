/- A part of the proof: see the last text. -/
import Derived.Test.YtnkkbbjljmbjbaaA18
import Derived.Test.YtnkkbbjljmbjbaaA22
open Go Go.Eng Go.Proofs A0 A1 A2 A3 A4 A5 A6 A7 A8 A9 A10 A11 A12 A13 A14 A15 A16 A17 A18 A22
set_option maxRecDepth 100000
namespace A19
theorem or_t {a b : Bool} {i : Nat} (h : pickB a (.c (.bool true)) (.s i) true b = true) : a = true ∨ b = true := by
  rw [pickB_or] at h
  simpa using h
theorem or_f {a b : Bool} {i : Nat} (h : pickB a (.c (.bool true)) (.s i) true b = false) : a = false ∧ b = false := by
  rw [pickB_or] at h
  simpa using h
/-- gazetteer/gazetteerlaw38.AskFewer -/
def g6 : List Nat := [29, 43, 10, 64, 1, 11, 12, 15, 14, 97, 109, 114, 0, 2, 17, 16, 7, 20, 19, 9, 6]
def c6 : SCode :=
  .seq (.region g6 [⟨some 6, none, .move (.c (.bool false)), []⟩]) (.seq (.region g6 [⟨some 21, none, .call (.c (.fn 7)) [], []⟩, ⟨some 7, none, .move (.s 21), []⟩]) (.seq (.seq (.region g6 [⟨some 22, none, .move (.s 0), []⟩, ⟨some 23, none, .call (.c (.fn 8)) [.s 22], []⟩, ⟨some 24, none, .not (.s 23), []⟩, ⟨some 25, none, .move (.s 24), []⟩, ⟨some 26, some (25, false), .move (.s 2), []⟩, ⟨some 27, some (25, false), .lenSl (.s 26), []⟩, ⟨some 28, some (25, false), .bin (.gtr) (.s 27) (.c (.int .i64 12)), []⟩, ⟨some 29, none, .pick (.s 25) (.c (.bool true)) (.s 28), []⟩]) (.cond (.s 29) (.seq (.region g6 [⟨some 30, none, .move (.s 7), []⟩, ⟨some 6, none, .move (.s 30), []⟩]) .ret) .skip)) (.seq (.region g6 [⟨some 32, none, .move (.s 0), []⟩, ⟨some 33, none, .call (.c (.fn 9)) [.s 32], []⟩, ⟨some 31, none, .move (.s 33), []⟩, ⟨some 34, none, .extract 0 (.s 31), []⟩, ⟨some 35, none, .extract 1 (.s 31), []⟩, ⟨some 36, none, .extract 2 (.s 31), []⟩, ⟨some 8, none, .alloc 28 (.cons (.int .i64 0) (.cons (.int .i64 0) (.cons (.nilsl) (.cons (.nilsl) .nil)))), []⟩, ⟨none, none, .store 4 (.s 8) (.s 34), []⟩, ⟨some 9, none, .move (.s 35), []⟩, ⟨some 10, none, .move (.s 36), []⟩]) (.seq (.seq (.region g6 [⟨some 37, none, .move (.s 10), []⟩, ⟨some 38, none, .bin (.neq) (.s 37) (.c (.int .i64 0)), []⟩, ⟨some 39, none, .move (.s 38), []⟩, ⟨some 40, some (39, false), .move (.s 0), []⟩, ⟨some 41, some (39, false), .lenSl (.s 40), []⟩, ⟨some 42, some (39, false), .bin (.eql) (.s 41) (.c (.int .i64 0)), []⟩, ⟨some 43, none, .pick (.s 39) (.c (.bool true)) (.s 42), []⟩]) (.cond (.s 43) (.seq (.region g6 [⟨some 44, none, .move (.s 7), []⟩, ⟨some 45, none, .move (.s 44), []⟩, ⟨some 46, some (45, true), .move (.s 10), []⟩, ⟨some 47, some (45, true), .bin (.neq) (.s 46) (.c (.int .i64 0)), []⟩, ⟨some 48, none, .pick (.s 45) (.s 47) (.c (.bool false)), []⟩, ⟨some 6, none, .move (.s 48), []⟩]) .ret) .skip)) (.seq (.seq (.region g6 [⟨some 49, none, .move (.s 9), []⟩, ⟨some 50, none, .move (.s 0), []⟩, ⟨some 51, none, .lenSl (.s 50), []⟩, ⟨some 52, none, .bin (.geq) (.s 49) (.s 51), []⟩, ⟨some 53, none, .move (.s 52), []⟩, ⟨some 54, some (53, false), .move (.s 9), []⟩, ⟨some 55, some (53, false), .bin (.lss) (.s 54) (.c (.int .i64 0)), []⟩, ⟨some 56, none, .pick (.s 53) (.c (.bool true)) (.s 55), []⟩, ⟨some 57, none, .move (.s 56), []⟩, ⟨some 58, some (57, false), .move (.s 9), []⟩, ⟨some 59, some (57, false), .bin (.eql) (.s 58) (.c (.int .i64 0)), []⟩, ⟨some 60, some (57, false), .move (.s 0), []⟩, ⟨some 61, some (57, false), .lenSl (.s 60), []⟩, ⟨some 62, some (57, false), .bin (.eql) (.s 61) (.c (.int .i64 1)), []⟩, ⟨some 63, some (57, false), .eqB true (.s 59) (.s 62), []⟩, ⟨some 64, none, .pick (.s 57) (.c (.bool true)) (.s 63), []⟩]) (.cond (.s 64) (.seq (.region g6 [⟨some 6, none, .move (.c (.bool false)), []⟩]) .ret) .skip)) (.seq (.region g6 [⟨some 65, none, .move (.s 1), []⟩, ⟨some 66, none, .cnv .i64 (.s 65), []⟩, ⟨some 67, none, .move (.s 0), []⟩, ⟨some 68, none, .lenSl (.s 67), []⟩, ⟨some 69, none, .bin (.rem) (.s 66) (.s 68), []⟩, ⟨some 11, none, .move (.s 69), []⟩]) (.seq (.drawn g6 (.pure 0 ⟨some 70, none, .buildSl 25 1 0 (.cons (.nilsl) .nil) [], []⟩ (.pure 1 ⟨some 71, none, .move (.s 0), []⟩ (.pure 2 ⟨some 72, none, .move (.s 11), []⟩ (.pure 3 ⟨some 73, none, .sliceSl 1 (.s 71) none (some (.s 72)), []⟩ (.pure 5 ⟨some 75, none, .move (.s 0), []⟩ (.pure 6 ⟨some 76, none, .move (.s 11), []⟩ (.pure 7 ⟨some 77, none, .bin (.add) (.s 76) (.c (.int .i64 1)), []⟩ (.pure 8 ⟨some 78, none, .sliceSl 1 (.s 75) (some (.s 77)) none, []⟩ (.eff 4 ⟨some 74, none, .app 25 1 24 (.s 70) (.s 73), []⟩ [] (.eff 9 ⟨some 79, none, .app 25 1 24 (.s 74) (.s 78), []⟩ [] (.pure 10 ⟨some 12, none, .move (.s 79), []⟩ .done) .none) .none)))))))))) (.seq (.region g6 [⟨some 81, none, .move (.s 12), []⟩, ⟨some 82, none, .call (.c (.fn 9)) [.s 81], []⟩, ⟨some 80, none, .move (.s 82), []⟩, ⟨some 83, none, .extract 0 (.s 80), []⟩, ⟨some 84, none, .extract 1 (.s 80), []⟩, ⟨some 85, none, .extract 2 (.s 80), []⟩, ⟨some 13, none, .alloc 28 (.cons (.int .i64 0) (.cons (.int .i64 0) (.cons (.nilsl) (.cons (.nilsl) .nil)))), []⟩, ⟨none, none, .store 4 (.s 13) (.s 83), []⟩, ⟨some 14, none, .move (.s 84), []⟩, ⟨some 15, none, .move (.s 85), []⟩]) (.seq (.seq (.region g6 [⟨some 86, none, .move (.s 12), []⟩, ⟨some 87, none, .lenSl (.s 86), []⟩, ⟨some 88, none, .bin (.gtr) (.s 87) (.c (.int .i64 0)), []⟩, ⟨some 89, none, .move (.s 88), []⟩, ⟨some 90, some (89, true), .move (.s 15), []⟩, ⟨some 91, some (89, true), .bin (.neq) (.s 90) (.c (.int .i64 0)), []⟩, ⟨some 92, some (89, true), .move (.s 91), []⟩, ⟨some 93, some (92, false), .move (.s 14), []⟩, ⟨some 94, some (92, false), .move (.s 9), []⟩, ⟨some 95, some (92, false), .bin (.gtr) (.s 93) (.s 94), []⟩, ⟨some 96, some (89, true), .pick (.s 92) (.c (.bool true)) (.s 95), []⟩, ⟨some 97, none, .pick (.s 89) (.s 96) (.c (.bool false)), []⟩]) (.cond (.s 97) (.seq (.region g6 [⟨some 6, none, .move (.c (.bool false)), []⟩]) .ret) .skip)) (.seq (.seq (.region g6 [⟨some 98, none, .move (.s 0), []⟩, ⟨some 99, none, .idxSl 1 (.s 98) (.c (.int .i64 0)), []⟩, ⟨some 100, none, .load 1 false (.s 99), []⟩, ⟨some 101, none, .lenSl (.s 100), []⟩, ⟨some 102, none, .bin (.geq) (.s 101) (.c (.int .i64 8)), []⟩, ⟨some 103, none, .move (.s 102), []⟩, ⟨some 104, some (103, false), .move (.s 2), []⟩, ⟨some 105, some (103, false), .lenSl (.s 104), []⟩, ⟨some 106, some (103, false), .move (.s 0), []⟩, ⟨some 107, some (103, false), .lenSl (.s 106), []⟩, ⟨some 108, some (103, false), .bin (.lss) (.s 105) (.s 107), []⟩, ⟨some 109, none, .pick (.s 103) (.c (.bool true)) (.s 108), []⟩]) (.cond (.s 109) (.seq (.region g6 [⟨some 110, none, .move (.s 7), []⟩, ⟨some 6, none, .move (.s 110), []⟩]) .ret) .skip)) (.seq (.region g6 [⟨some 16, none, .move (.c (.nilsl)), []⟩]) (.seq (.seq (.region g6 [⟨some 17, none, .move (.c (.int .i64 0)), []⟩]) (.block 0 (.loop 0 [111, 112, 113, 114, 117, 118, 119, 120, 121, 122, 123, 124, 125, 126, 127, 128, 129, 130, 131, 16, 115, 116, 17] (.seq (.seq (.region g6 [⟨some 111, none, .move (.s 17), []⟩, ⟨some 112, none, .move (.s 0), []⟩, ⟨some 113, none, .lenSl (.s 112), []⟩, ⟨some 114, none, .bin (.lss) (.s 111) (.s 113), []⟩]) (.cond (.s 114) .skip (.exit 0))) (.seq (.block 1 (.seq (.drawn [29, 43, 10, 64, 1, 11, 12, 15, 14, 97, 109, 114, 0, 2, 17, 16, 7, 20, 19, 9, 6, 131] (.pure 0 ⟨some 117, none, .move (.s 16), []⟩ (.pure 1 ⟨some 118, none, .buildSl 9 1 0 (.cons (.str []) .nil) [], []⟩ (.pure 2 ⟨some 119, none, .move (.s 0), []⟩ (.pure 3 ⟨some 120, none, .move (.s 17), []⟩ (.pure 4 ⟨some 121, none, .idxSl 1 (.s 119) (.s 120), []⟩ (.pure 5 ⟨some 122, none, .load 1 false (.s 121), []⟩ (.pure 7 ⟨some 124, none, .move (.s 2), []⟩ (.pure 8 ⟨some 125, none, .move (.s 17), []⟩ (.pure 9 ⟨some 126, none, .idxSl 1 (.s 124) (.s 125), []⟩ (.pure 10 ⟨some 127, none, .load 1 false (.s 126), []⟩ (.pure 11 ⟨some 128, none, .buildSl 9 1 1 (.cons (.str []) .nil) [(0, 1, .s 127)], []⟩ (.eff 6 ⟨some 123, none, .app 9 1 16 (.s 118) (.s 122), []⟩ [⟨some 127, none, .load 1 false (.s 126), []⟩] (.eff 12 ⟨some 129, none, .app 9 1 16 (.s 123) (.s 128), []⟩ [] (.pure 13 ⟨some 130, none, .buildSl 25 1 1 (.cons (.nilsl) .nil) [(0, 1, .s 129)], []⟩ (.eff 14 ⟨some 131, none, .app 25 1 24 (.s 117) (.s 130), []⟩ [] .done .none)) .none) .none))))))))))))) (.region g6 [⟨some 16, none, .move (.s 131), []⟩]))) (.region g6 [⟨some 115, none, .move (.s 17), []⟩, ⟨some 116, none, .bin (.add) (.s 115) (.c (.int .i64 1)), []⟩, ⟨some 17, none, .move (.s 116), []⟩])))))) (.seq (.region g6 [⟨some 133, none, .move (.s 16), []⟩, ⟨some 134, none, .call (.c (.fn 9)) [.s 133], []⟩, ⟨some 132, none, .move (.s 134), []⟩, ⟨some 135, none, .extract 0 (.s 132), []⟩, ⟨some 136, none, .extract 1 (.s 132), []⟩, ⟨some 137, none, .extract 2 (.s 132), []⟩, ⟨some 18, none, .alloc 28 (.cons (.int .i64 0) (.cons (.int .i64 0) (.cons (.nilsl) (.cons (.nilsl) .nil)))), []⟩, ⟨none, none, .store 4 (.s 18) (.s 135), []⟩, ⟨some 19, none, .move (.s 136), []⟩, ⟨some 20, none, .move (.s 137), []⟩]) (.seq (.region g6 [⟨some 138, none, .move (.s 7), []⟩, ⟨some 139, none, .move (.s 138), []⟩, ⟨some 140, some (139, true), .move (.s 20), []⟩, ⟨some 141, some (139, true), .bin (.eql) (.s 140) (.c (.int .i64 0)), []⟩, ⟨some 142, none, .pick (.s 139) (.s 141) (.c (.bool false)), []⟩, ⟨some 143, none, .move (.s 142), []⟩, ⟨some 144, some (143, true), .move (.s 19), []⟩, ⟨some 145, some (143, true), .move (.s 9), []⟩, ⟨some 146, some (143, true), .bin (.leq) (.s 144) (.s 145), []⟩, ⟨some 147, none, .pick (.s 143) (.s 146) (.c (.bool false)), []⟩, ⟨some 6, none, .move (.s 147), []⟩]) .ret))))))))))))))
def r6 : List SRes := [.slot 6]
def k6 : List (Nat × Nat × SCode × Nat) := []
theorem e6 : cFunc Try.prog 6 g6 [] [] k6 = some (c6, r6, 148) := by kernel_rfl
theorem q6 : RgOk Try.prog k6 := RgOk.nil
def law6 : Eng.Spec where
  X := X6
  args := fun x => .cons (fxE x.F) (.cons (.int .u8 x.raw) (.cons (txE x.t.n x.t.s) .nil))
  pre := fun x => ((x.F.n : Int) ≤ 9223372036854775806 ∧ ∀ i, i < x.F.n → (x.F.k i : Int) ≤ 9223372036854775806) ∧ (0 ≤ x.raw ∧ x.raw ≤ 255) ∧ (x.t.n : Int) ≤ 9223372036854775806
  res := fun _ => .bool true
  inst := fun _ => none
theorem chk6 {d n : Int} {i j : Nat} (h1 : 0 ≤ d) (h2 : d < n) (h3 : decide (d = 0) = decide (n = 1)) : pickB (pickB (decide (n ≤ d)) (.c (.bool true)) (.s i) true (decide (d < 0))) (.c (.bool true)) (.s j) true (!(decide (d = 0) == decide (n = 1))) = false := by
  rw [pickB_or, pickB_or, h3, decide_eq_false (by omega), decide_eq_false (by omega)]
  simp
theorem less_imp {F : Fx} {c : Int} {i : Nat} (h0 : 0 ≤ c) (hl : c.toNat + (F.n - (c + 1).toNat) = F.n - 1) (hi : i < c.toNat + (F.n - (c + 1).toNat)) : Imp (appE c.toNat (fxC F) (fun i => fxC F ((c + 1).toNat + i)) i) (fxC (lessF F c.toNat) i) := by
  have e : fxC (lessF F c.toNat) i = fxC F (skip c.toNat i) := rfl
  rw [e]
  have e2 : appE c.toNat (fxC F) (fun i => fxC F ((c + 1).toNat + i)) i = fxC F (skip c.toNat i) := by
    have e3 : (c + 1).toNat = c.toNat + 1 := by omega
    unfold appE skip
    by_cases h : i < c.toNat
    · have : Nat.blt i c.toNat = true := Nat.ble_eq_true_of_le h
      rw [this, if_pos h]
      rfl
    · have : Nat.blt i c.toNat = false := by
        cases e : Nat.blt i c.toNat with
        | true => exact absurd (Nat.le_of_ble_eq_true e) h
        | false => rfl
      rw [this, if_neg h]
      show fxC F ((c + 1).toNat + (i - c.toNat)) = _
      rw [e3]
      congr 1
      omega
  rw [e2]
  exact imp_cons (imp_tx _ _) imp_nil
theorem app_imp {F : Fx} {c i : Nat} {g : Nat → Nat} : Imp (appE c (fxC F) (fun i => fxC F (g i)) i) (appE c (fxC F) (fun i => fxC F (g i)) i) := by
  unfold appE
  cases Nat.blt i c with
  | true => exact imp_cons (imp_tx _ _) imp_nil
  | false => exact imp_cons (imp_tx _ _) imp_nil
theorem less_bad {F : Fx} {c l : Nat} {i j : Nat} (h2 : (makeV F).2 = 0) (hc : c < F.n) (hl : l = F.n - 1) {y y2 : Known × Int} (hy : y = makeV F) (hy2 : y2 = makeV (lessF F c))
    (h : pickB (decide ((0 : Int) < (l : Int))) (.s i) (.c (.bool false)) (pickB (!decide (y2.2 = 0)) (.c (.bool true)) (.s j) true (decide (y.1.d < y2.1.d))) false = true) : False := by
  rw [pickB_and, pickB_or, Bool.and_eq_true] at h
  have hp : 0 < F.n - 1 := by have := of_decide_eq_true h.1; omega
  have := less_ok h2 hc hp
  rw [← hy2, ← hy] at this
  rw [decide_eq_true this.1, decide_eq_false (by omega : ¬ y.1.d < y2.1.d)] at h
  exact absurd h.2 (by decide)
/-- The row that was appended last may be read as it stands. -/
theorem row_sub {keep : Keep} {hp : List (Nat × HObj)} {m : Nat} {G : Fx} {g : Nat → SV} {i j : Nat} (hi : i < j + 1) {n T l : Nat} {enc : Nat → SV} (hl : loose keep = true) (hg : g 0 = .cons (.lsl n 1 l) .nil) (hq : get? hp n = some (.arr T 1 l enc)) (hk : kept keep n = false) (hn : l = G.k j) (he : ∀ i, i < l → Imp (enc i) (.cons (.str (G.a j i)) .nil)) :
    SubC keep (sub keep hp (m + 3)) (appE j (fxC G) g i) (fxC G i) := by
  by_cases h : i < j
  · have : appE j (fxC G) g i = fxC G i := by
      have e : Nat.blt i j = true := Nat.ble_eq_true_of_le h
      unfold appE
      rw [e]
      rfl
    rw [this]
    exact .inr ⟨hl, imp_cons (imp_tx _ _) imp_nil⟩
  · have e : i = j := by omega
    subst e
    have : appE i (fxC G) g i = .cons (.lsl n 1 l) .nil := by
      unfold appE
      have e : Nat.blt i i = false := by
        cases e : Nat.blt i i with
        | true => exact absurd (Nat.le_of_ble_eq_true e) (by omega)
        | false => rfl
      rw [e, Nat.sub_self]
      exact hg
    rw [this]
    refine .inl (And.intro ?_ trivial)
    show (match get? hp n with
      | some (.arr _ sz'' len enc) => bif kept keep n then False else 1 = 1 ∧ sz'' = 1 ∧ l = G.k i ∧ 0 + l ≤ len ∧ ∀ i', i' < l → SubC keep (sub keep hp (m + 1)) (enc (0 + i')) (.cons (.str (G.a i i')) .nil)
      | _ => False)
    rw [hq]
    simp only [hk, cond_false]
    exact ⟨trivial, trivial, hn, by omega, fun i' hi' => .inr ⟨hl, by rw [Nat.zero_add]; exact he i' hi'⟩⟩
theorem row_imp {F : Fx} {t : Tx} {i j : Nat} (hi : i < F.k (j : Int).toNat + 1) :
    Imp (appE (F.k (j : Int).toNat) (fun x => .cons (.str (F.a (j : Int).toNat x)) .nil) (nthE (.cons (.cons (.str (t.s (j : Int).toNat)) .nil) .nil)) i) (.cons (.str ((moreF F t).a j i)) .nil) := by
  rw [Int.toNat_natCast] at hi ⊢
  have e : appE (F.k j) (fun x => .cons (.str (F.a j x)) .nil) (nthE (.cons (.cons (.str (t.s j)) .nil) .nil)) i = .cons (.str ((moreF F t).a j i)) .nil := by
    show (bif Nat.blt i (F.k j) then SV.cons (.str (F.a j i)) .nil else nthE (.cons (.cons (.str (t.s j)) .nil) .nil) (i - F.k j)) = .cons (.str (if i < F.k j then F.a j i else t.s j)) .nil
    by_cases h : i < F.k j
    · have e : Nat.blt i (F.k j) = true := Nat.ble_eq_true_of_le h
      rw [e, if_pos h]
      rfl
    · have e : Nat.blt i (F.k j) = false := by
        cases e : Nat.blt i (F.k j) with
        | true => exact absurd (Nat.le_of_ble_eq_true e) h
        | false => rfl
      have e2 : i - F.k j = 0 := by omega
      rw [e, if_neg h, e2]
      rfl
  rw [e]
  exact imp_cons (imp_str _) imp_nil
set_option maxHeartbeats 8000000 in
theorem law6_ok : law6.Ok Try.prog 6 := by
  refine Eng.Spec.ok_of e6 q6 (fun _ => [(7, .p headS), (8, .m few1), (9, .m makeO)]) (fun _ _ => TabOk.p head_ok (TabOk.m few1_ok (TabOk.m makeO_ok TabOk.nil))) ?_
  rintro ⟨F, raw, t⟩ ⟨⟨hn, hk⟩, ⟨hr0, hr1⟩, ht⟩
  replace hn : (F.n : Int) ≤ 9223372036854775806 := hn
  replace hk : ∀ i, i < F.n → (F.k i : Int) ≤ 9223372036854775806 := hk
  replace hr0 : 0 ≤ raw := hr0
  replace hr1 : raw ≤ 255 := hr1
  replace ht : (t.n : Int) ≤ 9223372036854775806 := ht
  refine ⟨trivial, ?_⟩
  repeat' (first | refine And.intro ?_ ?_ | exact trivial | exact rfl)
  refine Exists.intro F (Exists.intro [] ?_)
  refine And.intro (And.intro hn hk) ?_
  repeat' (first | refine And.intro ?_ ?_ | exact trivial | exact rfl | exact sub_lc (fun a => sub_strN _ _ _ a) | exact sub_lc0 (fun a => sub_strN _ _ _ a) | exact fun (j : Nat) (hj : j < _) => Or.inl (sub_strN _ _ _ _) | exact sub_lc (fun a => sub_natN _ _ _ a) | exact fun (j : Nat) (hj : j < _) => Or.inl (sub_fx _ _ _ _ rfl hj))
  refine fun (b : Bool) (_ : True) => ?_
  repeat' (first | (refine fun (_ : guardP _ _ _ _) => ?_) | refine And.intro ?_ ?_ | exact trivial | exact rfl)
  · refine fun (_ : pickB _ _ _ _ _ = true) => ?_
    repeat' (first | refine And.intro ?_ ?_ | exact trivial | exact rfl)
  refine fun (_ : pickB _ _ _ _ _ = false) => ?_
  repeat' (first | refine And.intro ?_ ?_ | exact trivial | exact rfl)
  refine Exists.intro (XO.mk F false 0 fun _ => .junk) (Exists.intro [0] ?_)
  refine And.intro (And.intro hn (fun e => by cases e)) ?_
  repeat' (first | refine And.intro ?_ ?_ | exact trivial | exact rfl | exact sub_lc (fun a => sub_strN _ _ _ a) | exact sub_lc0 (fun a => sub_strN _ _ _ a) | exact fun (j : Nat) (hj : j < _) => Or.inl (sub_strN _ _ _ _) | exact sub_lc (fun a => sub_natN _ _ _ a) | exact fun (j : Nat) (hj : j < _) => Or.inl (sub_fx _ _ _ _ rfl hj))
  refine fun (y : Known × Int) (hy : y = makeV F) => ?_
  repeat' (first | refine And.intro ?_ ?_ | exact trivial | exact rfl)
  · refine fun (h : pickB _ _ _ _ _ = true) => ?_
    have hc : y.2 ≠ 0 := fun e => by
      have h0 := make_d (F := F) (by rw [← hy]; exact e)
      rcases or_t h with h1 | h1
      · simp [e] at h1
      · have := h0.1.n0
        simp at h1
        omega
    have hd : (!decide (y.2 = 0)) = true := by rw [decide_eq_false hc]; rfl
    repeat' (first | exact pand rfl hd | refine And.intro ?_ ?_ | exact trivial | exact rfl)
  · refine fun (h : pickB _ _ _ _ _ = false) => ?_
    have h1 := or_f h
    have h2 : y.2 = 0 := by have := h1.1; simpa using this
    have h2' : (makeV F).2 = 0 := by rw [← hy]; exact h2
    have hF := (make_d h2').1
    have hbd := d_bounds h2'
    rw [← hy] at hbd
    have hn8 := hF.n8
    have hn0 := hF.n0
    have hrem : 0 ≤ raw.tmod (F.n : Int) ∧ raw.tmod (F.n : Int) < (F.n : Int) := by
      rw [Int.tmod_eq_emod_of_nonneg hr0]
      exact ⟨Int.emod_nonneg _ (by omega), Int.emod_lt_of_pos _ (by omega)⟩
    have hck : ∀ i j, pickB (pickB (decide ((F.n : Int) ≤ y.1.d)) (.c (.bool true)) (.s i) true (decide (y.1.d < 0))) (.c (.bool true)) (.s j) true (!(decide (y.1.d = 0) == decide ((F.n : Int) = 1))) = false := fun i j => chk6 hbd.1 hbd.2.1 (by rw [decide_eq_decide]; have := hbd.2.2; omega)
    have hnz : (F.n : Int) ≠ 0 := by omega
    have hrI : InR .i64 raw := ⟨by show -9223372036854775808 ≤ raw; omega, by show raw ≤ 9223372036854775807; omega⟩
    repeat' (first | refine And.intro ?_ ?_ | exact trivial | exact rfl)
    · exact fun (h : pickB _ _ _ _ _ = true) => no_tf (hck _ _) h
    refine fun (_ : pickB _ _ _ _ _ = false) => ?_
    repeat' (first | exact hrI.1 | exact hrI.2 | exact hnz | exact hrem.1 | refine And.intro ?_ ?_ | exact trivial | exact rfl)
    · have := hrem.2; dsimp only; omega
    · have := hrem.1; dsimp only; omega
    · have := hrem.2; dsimp only; omega
    · have := hrem.1; dsimp only; omega
    · have := hrem.2; dsimp only; omega
    · exact fun _ _ => rfl
    · have := hrem.2; dsimp only; omega
    · have := hrem.2; dsimp only; omega
    · exact fun _ _ => rfl
    · have := hrem.2; dsimp only; omega
    · have := hrem.2; dsimp only; omega
    have hlen : (raw.tmod (F.n : Int)).toNat + (F.n - (raw.tmod (F.n : Int) + 1).toNat) = F.n - 1 := by have := hrem.1; have := hrem.2; omega
    have hKn : (raw.tmod (F.n : Int)).toNat < F.n := by have := hrem.2; omega
    have hle : 0 + ((raw.tmod (F.n : Int)).toNat + (F.n - (raw.tmod (F.n : Int) + 1).toNat)) ≤ (raw.tmod (F.n : Int)).toNat + (F.n - (raw.tmod (F.n : Int) + 1).toNat) := Nat.le_of_eq (Nat.zero_add _)
    repeat' (first | refine And.intro ?_ ?_ | exact trivial | exact rfl)
    refine Exists.intro (XO.mk (lessF F (raw.tmod (F.n : Int)).toNat) true ((raw.tmod (F.n : Int)).toNat + (F.n - (raw.tmod (F.n : Int) + 1).toNat)) (appE (raw.tmod (F.n : Int)).toNat (fxC F) fun i => fxC F ((raw.tmod (F.n : Int) + 1).toNat + i))) (Exists.intro [3] ?_)
    refine And.intro (And.intro (show ((F.n - 1 : Nat) : Int) ≤ 9223372036854775806 by omega) (fun _ => And.intro hlen (fun i hi => less_imp hrem.1 hlen hi))) ?_
    repeat' (first | exact fun (i : Nat) (hi : i < _) => Or.inr (And.intro rfl app_imp) | exact hlen | exact hle | refine And.intro ?_ ?_ | exact trivial | exact rfl | exact sub_lc (fun a => sub_strN _ _ _ a) | exact sub_lc0 (fun a => sub_strN _ _ _ a) | exact fun (j : Nat) (hj : j < _) => Or.inl (sub_strN _ _ _ _) | exact sub_lc (fun a => sub_natN _ _ _ a) | exact fun (j : Nat) (hj : j < _) => Or.inl (sub_fx _ _ _ _ rfl hj))
    refine fun (y2 : Known × Int) (hy2 : y2 = makeV (lessF F (raw.tmod (F.n : Int)).toNat)) => ?_
    repeat' (first | refine And.intro ?_ ?_ | exact trivial | exact rfl)
    · refine fun (h : pickB _ _ _ _ _ = true) => ?_
      exact (less_bad h2' hKn hlen hy hy2 h).elim
    refine fun (_ : pickB _ _ _ _ _ = false) => ?_
    have hn0' : (0 : Int) < (F.n : Int) := by omega
    repeat' (first | exact hn0' | exact Int.le_refl 0 | refine And.intro ?_ ?_ | exact trivial | exact rfl)
    · refine fun (_ : pickB _ _ _ _ _ = true) => ?_
      repeat' (first | refine And.intro ?_ ?_ | exact trivial | exact rfl)
    refine fun (hq : pickB _ _ _ _ _ = false) => ?_
    have hq2 := or_f hq
    have hk8 : F.k 0 < 8 := by have := of_decide_eq_false hq2.1; simp at this; omega
    have htn : F.n ≤ t.n := by have := of_decide_eq_false hq2.2; simp at this; omega
    have hF8 := hF.k
    repeat' (first | refine And.intro ?_ ?_ | exact trivial | exact rfl)
    refine ⟨⟨Nat, fun j => j ≤ F.n, fun j => [(17, .int .i64 (j : Int)), (16, .lsl 30 1 j)], fun j => [(30, .arr 25 1 j (fxC (moreF F t)))], fun j => F.n - j⟩, 0, Nat.zero_le _, ?_, ?_⟩
    · repeat' (first | refine And.intro ?_ ?_ | exact trivial | exact rfl | exact sub_lc (fun a => sub_strN _ _ _ a) | exact sub_lc0 (fun a => sub_strN _ _ _ a) | exact fun (j : Nat) (hj : j < _) => Or.inl (sub_strN _ _ _ _) | exact sub_lc (fun a => sub_natN _ _ _ a) | exact fun (j : Nat) (hj : j < _) => Or.inl (sub_fx _ _ _ _ rfl hj) | exact sub_pTT rfl | exact sub_pCT rfl | exact sub_pTC rfl | exact sub_pCC rfl | exact sub_pRC rfl | exact sub_pRT rfl)
    rintro (j : Nat) (hj : j ≤ F.n)
    repeat' (first | refine And.intro ?_ ?_ | exact trivial | exact rfl)
    · refine fun (hi : decide ((j : Int) < (F.n : Int)) = true) => ?_
      have hjn : (j : Int) < (F.n : Int) := of_decide_eq_true hi
      have hj0 : (0 : Int) ≤ (j : Int) := by omega
      have hjt : (j : Int) < (t.n : Int) := by omega
      have hkj : F.k (j : Int).toNat < 8 := by rw [Int.toNat_natCast, hF.k j (by omega)]; exact hk8
      have b1 : F.k (j : Int).toNat ≤ 9223372036854775807 := by omega
      have b2 : F.k (j : Int).toNat * 16 ≤ 140737488355328 := by omega
      have b3 : F.k (j : Int).toNat + 1 ≤ 9223372036854775807 := by omega
      have b4 : (F.k (j : Int).toNat + 1) * 16 ≤ 140737488355328 := by omega
      have b5 : j + 1 ≤ 9223372036854775807 := by omega
      have b6 : (j + 1) * 24 ≤ 140737488355328 := by omega
      have b7 : -9223372036854775808 ≤ (j : Int) + 1 := by omega
      have b8 : (j : Int) + 1 ≤ 9223372036854775807 := by omega
      repeat' (first | with_reducible exact hjn | with_reducible exact hj0 | with_reducible exact hjt | exact fun (i : Nat) (_ : i < _) => rfl | with_reducible exact b1 | with_reducible exact b2 | with_reducible exact b3 | with_reducible exact b4 | with_reducible exact b5 | with_reducible exact b6 | with_reducible exact b7 | with_reducible exact b8 | refine And.intro ?_ ?_ | exact trivial | exact rfl | exact sub_lc (fun a => sub_strN _ _ _ a) | exact sub_lc0 (fun a => sub_strN _ _ _ a) | exact fun (j : Nat) (hj : j < _) => Or.inl (sub_strN _ _ _ _) | exact sub_lc (fun a => sub_natN _ _ _ a) | exact fun (j : Nat) (hj : j < _) => Or.inl (sub_fx _ _ _ _ rfl hj) | exact sub_pTT rfl | exact sub_pCT rfl | exact sub_pTC rfl | exact sub_pCC rfl | exact sub_pRC rfl | exact sub_pRT rfl)
      refine Exists.intro (j + 1) ?_
      refine And.intro (show j + 1 ≤ F.n by omega) ?_
      repeat' (first | refine And.intro ?_ ?_ | exact trivial | exact rfl | exact sub_lc (fun a => sub_strN _ _ _ a) | exact sub_lc0 (fun a => sub_strN _ _ _ a) | exact fun (j : Nat) (hj : j < _) => Or.inl (sub_strN _ _ _ _) | exact sub_lc (fun a => sub_natN _ _ _ a) | exact fun (j : Nat) (hj : j < _) => Or.inl (sub_fx _ _ _ _ rfl hj) | exact sub_pTT rfl | exact sub_pCT rfl | exact sub_pTC rfl | exact sub_pCC rfl | exact sub_pRC rfl | exact sub_pRT rfl)
      · refine fun (i : Nat) (hi : i < j + 1) => ?_
        refine row_sub hi rfl rfl rfl rfl rfl ?_
        exact fun (i : Nat) (hi : i < _) => row_imp hi
      · show F.n - (j + 1) < F.n - j
        omega
    · refine fun (hi : decide ((j : Int) < (F.n : Int)) = false) => ?_
      have hjn : j = F.n := by have := of_decide_eq_false hi; omega
      repeat' (first | refine And.intro ?_ ?_ | exact trivial | exact rfl)
      refine Exists.intro (XO.mk (moreF F t) true j (fxC (moreF F t))) (Exists.intro [30] ?_)
      refine And.intro (And.intro hn (fun _ => And.intro hjn (fun i hi => imp_cons (imp_tx _ _) imp_nil))) ?_
      repeat' (first | exact fun (i : Nat) (hi : i < _) => Or.inr (And.intro rfl (imp_cons (imp_tx _ _) imp_nil)) | refine And.intro ?_ ?_ | exact trivial | exact rfl | exact sub_lc (fun a => sub_strN _ _ _ a) | exact sub_lc0 (fun a => sub_strN _ _ _ a) | exact fun (j : Nat) (hj : j < _) => Or.inl (sub_strN _ _ _ _) | exact sub_lc (fun a => sub_natN _ _ _ a) | exact fun (j : Nat) (hj : j < _) => Or.inl (sub_fx _ _ _ _ rfl hj))
      refine fun (y3 : Known × Int) (hy3 : y3 = makeV (moreF F t)) => ?_
      have hm := more_ok (t := t) h2' hk8
      rw [← hy3, ← hy] at hm
      have e1 := decide_eq_true hm.1
      have e2 := decide_eq_true hm.2
      repeat' (first | exact pand (pand rfl e1) e2 | refine And.intro ?_ ?_ | exact trivial | exact rfl)
end A19
