/- A part of the proof: see the last text. -/
import Derived.Test.YtnkkbbjljmbjbaaA10
open Go Go.Eng Go.Proofs A0 A1 A2 A3 A4 A5 A6 A7 A8 A9 A10
set_option maxRecDepth 100000
namespace A11
def BP : Nat := 2305843009213693952
def PlanOk : Nat → Plan → Prop
  | 0, _ => False
  | h + 1, p => p.m ≤ BP ∧ p.n ≤ BP ∧ ∀ i, i < p.m → PlanOk h (p.kid i)
/-- One step through the answers. -/
def accD (r : Nat → Int × Bool) : Nat → Int × Bool
  | 0 => (0, true)
  | i + 1 => if (accD r i).2 = true ∧ (r i).2 = true then (max (accD r i).1 ((r i).1 + 1), true) else (0, false)
def depthR (F : Fx) (s : Nat) (q c : Int) (n : Nat) (ans : Nat → List UInt8) (m : Nat) (rec : Nat → Nat → Int × Bool) : Int × Bool :=
  if q = -1 then (0, decide ((candL s).length = 1) && decide (c = (((candL s).getD 0 0 : Nat) : Int)) && decide (n + m = 0))
  else if q < 0 ∨ (F.k 0 : Int) ≤ q ∨ c ≠ -1 then (0, false)
  else if eqT ⟨txD (ansQ F s q.toNat), ⟨n, ans⟩⟩ = false ∨ m ≠ (ansQ F s q.toNat).length then (0, false)
  else accD (fun i => rec i (partQ F s q.toNat ((ansQ F s q.toNat).getD i []))) (ansQ F s q.toNat).length
def depthV (F : Fx) : Plan → Nat → Int × Bool
  | .leaf q c n ans, s => depthR F s q c n ans 0 fun _ _ => (0, false)
  | .node q c n ans m next, s => depthR F s q c n ans m fun i t => depthV F (next i) t
theorem accD_congr {r r' : Nat → Int × Bool} : ∀ {n : Nat}, (∀ i, i < n → r i = r' i) → accD r n = accD r' n := by
  intro n
  induction n with
  | zero => intro _; rfl
  | succ n ih =>
    intro h
    simp only [accD]
    rw [ih fun i hi => h i (by omega), h n (by omega)]
theorem depth_eq (F : Fx) (p : Plan) (s : Nat) : depthV F p s = depthR F s p.q p.c p.n p.ans p.m fun i t => depthV F (p.kid i) t := by
  cases p with
  | leaf q c n ans =>
    show depthR F s q c n ans 0 _ = depthR F s q c n ans 0 _
    unfold depthR
    split
    · rfl
    · split
      · rfl
      · split
        · rfl
        · rename_i h
          have hl : (ansQ F s q.toNat).length = 0 := by
            refine Classical.byContradiction fun hn => h (.inr fun e => hn e.symm)
          rw [hl]
          rfl
  | node q c n ans m next => rfl
theorem accD_bd {r : Nat → Int × Bool} {B : Int} (hB : 0 ≤ B) : ∀ {n : Nat}, (∀ i, i < n → 0 ≤ (r i).1 ∧ (r i).1 + 1 ≤ B) → 0 ≤ (accD r n).1 ∧ (accD r n).1 ≤ B := by
  intro n
  induction n with
  | zero => intro _; exact ⟨Int.le_refl _, hB⟩
  | succ n ih =>
    intro h
    have h1 := ih fun i hi => h i (by omega)
    have h2 := h n (by omega)
    simp only [accD]
    split
    · dsimp only
      omega
    · exact ⟨Int.le_refl _, hB⟩
theorem depth_bd (F : Fx) : ∀ (h : Nat) (p : Plan) (s : Nat), PlanOk h p → 0 ≤ (depthV F p s).1 ∧ (depthV F p s).1 ≤ h := by
  intro h
  induction h with
  | zero => intro p s hp; exact hp.elim
  | succ h ih =>
    intro p s hp
    rw [depth_eq]
    unfold depthR
    split
    · exact ⟨Int.le_refl _, by dsimp only; omega⟩
    · split
      · exact ⟨Int.le_refl _, by dsimp only; omega⟩
      · split
        · exact ⟨Int.le_refl _, by dsimp only; omega⟩
        · rename_i hh
          refine accD_bd (by omega) fun i hi => ?_
          have hm : p.m = (ansQ F s p.q.toNat).length := Classical.byContradiction fun hn => hh (.inr hn)
          have h1 := ih (p.kid i) (partQ F s p.q.toNat ((ansQ F s p.q.toNat).getD i [])) (hp.2.2 i (by omega))
          refine ⟨h1.1, ?_⟩
          have h2 := h1.2
          show (depthV F (p.kid i) (partQ F s p.q.toNat ((ansQ F s p.q.toNat).getD i []))).1 + 1 ≤ ((h + 1 : Nat) : Int)
          omega
structure XD where
  F : Fx
  s : Nat
  p : Plan
def depthS (h : Nat) : Eng.MSpec where
  X := XD
  Y := Unit
  args := fun x => .cons (fxE x.F) (.cons (.int .u64 (x.s : Int)) (.cons (.agg (planU x.p)) .nil))
  pre := fun x => PlanOk h x.p ∧ FxOk x.F ∧ x.s < 256 ∧ ∀ i ∈ candL x.s, i < x.F.n
  h0 := fun _ => []
  nx0 := 0
  post := fun _ _ => True
  res := fun x _ => .tup (.cons (.int .i64 (depthV x.F x.p x.s).1) (.cons (.bool (depthV x.F x.p x.s).2) .nil))
  h1 := fun _ _ => []
  nx1 := 0
/-- gazetteer/ask.depth -/
def g20 : List Nat := [2, 18, 8, 58, 1, 79, 9, 81, 83, 80, 0, 10, 13, 5, 12, 15, 101, 14, 82, 11, 6, 7]
def c20 : SCode :=
  .seq (.region g20 [⟨some 5, none, .box 28 (.s 2), []⟩, ⟨some 6, none, .move (.c (.int .i64 0)), []⟩, ⟨some 7, none, .move (.c (.bool false)), []⟩]) (.seq (.seq (.region g20 [⟨some 16, none, .fldA 0 (.s 5), []⟩, ⟨some 17, none, .load 1 false (.s 16), []⟩, ⟨some 18, none, .bin (.eql) (.s 17) (.c (.int .i64 (-1))), []⟩]) (.cond (.s 18) (.seq (.region g20 [⟨some 19, none, .move (.s 1), []⟩, ⟨some 20, none, .call (.c (.fn 17)) [.s 19], []⟩, ⟨some 8, none, .move (.s 20), []⟩]) (.seq (.drawn g20 (.pure 0 ⟨some 21, none, .move (.s 8), []⟩ (.pure 1 ⟨some 22, none, .lenSl (.s 21), []⟩ (.pure 2 ⟨some 23, none, .bin (.eql) (.s 22) (.c (.int .i64 1)), []⟩ (.pure 3 ⟨some 24, none, .move (.s 23), []⟩ (.pure 4 ⟨some 25, some (24, true), .fldA 1 (.s 5), []⟩ (.pure 5 ⟨some 26, some (24, true), .load 1 false (.s 25), []⟩ (.pure 6 ⟨some 27, some (24, true), .move (.s 8), []⟩ (.pure 7 ⟨some 28, some (24, true), .idxSl 1 (.s 27) (.c (.int .i64 0)), []⟩ (.pure 8 ⟨some 29, some (24, true), .load 1 false (.s 28), []⟩ (.pure 9 ⟨some 30, some (24, true), .bin (.eql) (.s 26) (.s 29), []⟩ (.pure 10 ⟨some 31, none, .pick (.s 24) (.s 30) (.c (.bool false)), []⟩ (.pure 11 ⟨some 32, none, .move (.s 31), []⟩ (.pure 12 ⟨some 33, some (32, true), .fldA 2 (.s 5), []⟩ (.pure 13 ⟨some 34, some (32, true), .load 1 false (.s 33), []⟩ (.pure 14 ⟨some 35, some (32, true), .lenSl (.s 34), []⟩ (.pure 15 ⟨some 36, some (32, true), .fldA 3 (.s 5), []⟩ (.pure 16 ⟨some 37, some (32, true), .load 1 false (.s 36), []⟩ (.pure 17 ⟨some 38, some (32, true), .lenSl (.s 37), []⟩ (.pure 18 ⟨some 39, some (32, true), .bin (.add) (.s 35) (.s 38), []⟩ (.pure 19 ⟨some 40, some (32, true), .bin (.eql) (.s 39) (.c (.int .i64 0)), []⟩ (.pure 20 ⟨some 41, none, .pick (.s 32) (.s 40) (.c (.bool false)), []⟩ (.pure 21 ⟨some 6, none, .move (.c (.int .i64 0)), []⟩ (.pure 22 ⟨some 7, none, .move (.s 41), []⟩ .done)))))))))))))))))))))))) .ret)) .skip)) (.seq (.seq (.drawn g20 (.pure 0 ⟨some 42, none, .fldA 0 (.s 5), []⟩ (.pure 1 ⟨some 43, none, .load 1 false (.s 42), []⟩ (.pure 2 ⟨some 44, none, .bin (.lss) (.s 43) (.c (.int .i64 0)), []⟩ (.pure 3 ⟨some 45, none, .move (.s 44), []⟩ (.pure 4 ⟨some 46, some (45, false), .fldA 0 (.s 5), []⟩ (.pure 5 ⟨some 47, some (45, false), .load 1 false (.s 46), []⟩ (.pure 6 ⟨some 48, some (45, false), .move (.s 0), []⟩ (.pure 7 ⟨some 49, some (45, false), .idxSl 1 (.s 48) (.c (.int .i64 0)), []⟩ (.pure 8 ⟨some 50, some (45, false), .load 1 false (.s 49), []⟩ (.pure 9 ⟨some 51, some (45, false), .lenSl (.s 50), []⟩ (.pure 10 ⟨some 52, some (45, false), .bin (.geq) (.s 47) (.s 51), []⟩ (.pure 11 ⟨some 53, none, .pick (.s 45) (.c (.bool true)) (.s 52), []⟩ (.pure 12 ⟨some 54, none, .move (.s 53), []⟩ (.pure 13 ⟨some 55, some (54, false), .fldA 1 (.s 5), []⟩ (.pure 14 ⟨some 56, some (54, false), .load 1 false (.s 55), []⟩ (.pure 15 ⟨some 57, some (54, false), .bin (.neq) (.s 56) (.c (.int .i64 (-1))), []⟩ (.pure 16 ⟨some 58, none, .pick (.s 54) (.c (.bool true)) (.s 57), []⟩ .done)))))))))))))))))) (.cond (.s 58) (.seq (.region g20 [⟨some 6, none, .move (.c (.int .i64 0)), []⟩, ⟨some 7, none, .move (.c (.bool false)), []⟩]) .ret) .skip)) (.seq (.region g20 [⟨some 60, none, .move (.s 0), []⟩, ⟨some 61, none, .move (.s 1), []⟩, ⟨some 62, none, .fldA 0 (.s 5), []⟩, ⟨some 63, none, .load 1 false (.s 62), []⟩, ⟨some 64, none, .call (.c (.fn 18)) [.s 60, .s 61, .s 63], []⟩, ⟨some 59, none, .move (.s 64), []⟩, ⟨some 65, none, .extract 0 (.s 59), []⟩, ⟨some 66, none, .extract 1 (.s 59), []⟩, ⟨some 9, none, .move (.s 65), []⟩, ⟨some 10, none, .move (.s 66), []⟩]) (.seq (.seq (.region g20 [⟨some 67, none, .move (.s 9), []⟩, ⟨some 68, none, .fldA 2 (.s 5), []⟩, ⟨some 69, none, .load 1 false (.s 68), []⟩, ⟨some 70, none, .call (.c (.fn 25)) [.s 67, .s 69], []⟩, ⟨some 71, none, .not (.s 70), []⟩, ⟨some 72, none, .move (.s 71), []⟩, ⟨some 73, some (72, false), .fldA 3 (.s 5), []⟩, ⟨some 74, some (72, false), .load 1 false (.s 73), []⟩, ⟨some 75, some (72, false), .lenSl (.s 74), []⟩, ⟨some 76, some (72, false), .move (.s 9), []⟩, ⟨some 77, some (72, false), .lenSl (.s 76), []⟩, ⟨some 78, some (72, false), .bin (.neq) (.s 75) (.s 77), []⟩, ⟨some 79, none, .pick (.s 72) (.c (.bool true)) (.s 78), []⟩]) (.cond (.s 79) (.seq (.region g20 [⟨some 6, none, .move (.c (.int .i64 0)), []⟩, ⟨some 7, none, .move (.c (.bool false)), []⟩]) .ret) .skip)) (.seq (.region g20 [⟨some 11, none, .move (.c (.int .i64 0)), []⟩]) (.seq (.seq (.region g20 [⟨some 80, none, .move (.s 9), []⟩, ⟨some 81, none, .lenSl (.s 80), []⟩, ⟨some 82, none, .move (.c (.int .i64 0)), []⟩]) (.block 0 (.loop 0 [83, 84, 85, 86, 12, 13, 88, 89, 90, 91, 92, 93, 94, 95, 96, 97, 87, 98, 99, 14, 15, 100, 101, 6, 7, 102, 103, 104, 105, 11, 106, 82] (.seq (.region g20 [⟨some 83, none, .bin (.lss) (.s 82) (.s 81), []⟩]) (.seq (.cond (.s 83) .skip (.exit 0)) (.seq (.block 1 (.seq (.region g20 [⟨some 84, none, .move (.s 82), []⟩, ⟨some 85, none, .idxSl 1 (.s 80) (.s 82), []⟩, ⟨some 86, none, .load 1 false (.s 85), []⟩, ⟨some 12, none, .move (.s 84), []⟩, ⟨some 13, none, .move (.s 86), []⟩]) (.seq (.drawn g20 (.pure 0 ⟨some 88, none, .move (.s 0), []⟩ (.pure 1 ⟨some 89, none, .move (.s 10), []⟩ (.pure 2 ⟨some 90, none, .move (.s 13), []⟩ (.pure 4 ⟨some 92, none, .fldA 3 (.s 5), []⟩ (.pure 5 ⟨some 93, none, .load 1 false (.s 92), []⟩ (.pure 6 ⟨some 94, none, .move (.s 12), []⟩ (.pure 7 ⟨some 95, none, .idxSl 4 (.s 93) (.s 94), []⟩ (.pure 8 ⟨some 96, none, .load 4 true (.s 95), []⟩ (.eff 3 ⟨some 91, none, .mlook (.int (.u64) 0) false (.s) (.s 89) (.s 90), []⟩ [⟨some 96, none, .load 4 true (.s 95), []⟩, ⟨some 93, none, .load 1 false (.s 92), []⟩] (.eff 9 ⟨some 97, none, .call (.c (.fn 20)) [.s 88, .s 91, .s 96], []⟩ [] (.pure 10 ⟨some 87, none, .move (.s 97), []⟩ (.pure 11 ⟨some 98, none, .extract 0 (.s 87), []⟩ (.pure 12 ⟨some 99, none, .extract 1 (.s 87), []⟩ (.pure 13 ⟨some 14, none, .move (.s 98), []⟩ (.pure 14 ⟨some 15, none, .move (.s 99), []⟩ .done))))) .none) .none)))))))))) (.seq (.seq (.region g20 [⟨some 100, none, .move (.s 15), []⟩, ⟨some 101, none, .not (.s 100), []⟩]) (.cond (.s 101) (.seq (.region g20 [⟨some 6, none, .move (.c (.int .i64 0)), []⟩, ⟨some 7, none, .move (.c (.bool false)), []⟩]) .ret) .skip)) (.region g20 [⟨some 102, none, .move (.s 11), []⟩, ⟨some 103, none, .move (.s 14), []⟩, ⟨some 104, none, .bin (.add) (.s 103) (.c (.int .i64 1)), []⟩, ⟨some 105, none, .mm true (.s 102) (.s 104), []⟩, ⟨some 11, none, .move (.s 105), []⟩]))))) (.region g20 [⟨some 106, none, .bin (.add) (.s 82) (.c (.int .i64 1)), []⟩, ⟨some 82, none, .move (.s 106), []⟩]))))))) (.seq (.region g20 [⟨some 107, none, .move (.s 11), []⟩, ⟨some 6, none, .move (.s 107), []⟩, ⟨some 7, none, .move (.c (.bool true)), []⟩]) .ret)))))))
def r20 : List SRes := [.slot 6, .slot 7]
def k20 : List (Nat × Nat × SCode × Nat) := []
theorem e20 : cFunc Try.prog 20 g20 [] [97] k20 = some (c20, r20, 108) := by kernel_rfl
theorem q20 : RgOk Try.prog k20 := RgOk.nil
theorem leaf_b {l : List Nat} {c : Int} {n m : Nat} {i j : Nat} : pickB (pickB (decide (((l.length : Nat) : Int) = 1)) (.s i) (.c (.bool false)) (decide (c = ((l.getD 0 0 : Nat) : Int))) false) (.s j) (.c (.bool false)) (decide ((n : Int) + (m : Int) = 0)) false = (decide (l.length = 1) && decide (c = ((l.getD 0 0 : Nat) : Int)) && decide (n + m = 0)) := by
  rw [pickB_and, pickB_and]
  congr 1
  · congr 1
    rw [decide_eq_decide]
    omega
  · rw [decide_eq_decide]
    omega
theorem or3 {q c k : Int} {i j : Nat} (h : pickB (pickB (decide (q < 0)) (.c (.bool true)) (.s i) true (decide (k ≤ q))) (.c (.bool true)) (.s j) true (!decide (c = -1)) = true) : q < 0 ∨ k ≤ q ∨ c ≠ -1 := by
  rw [pickB_or, pickB_or] at h
  simp at h
  omega
theorem or3f {q c k : Int} {i j : Nat} (h : pickB (pickB (decide (q < 0)) (.c (.bool true)) (.s i) true (decide (k ≤ q))) (.c (.bool true)) (.s j) true (!decide (c = -1)) = false) : 0 ≤ q ∧ q < k ∧ c = -1 := by
  rw [pickB_or, pickB_or] at h
  simp at h
  omega
theorem eq2 {E : Bool} {m l i : Nat} (h : pickB (!E) (.c (.bool true)) (.s i) true (!decide ((m : Int) = (l : Int))) = true) : E = false ∨ m ≠ l := by
  rw [pickB_or] at h
  simp at h
  rcases h with h | h
  · exact .inl h
  · exact .inr (by omega)
theorem eq2f {E : Bool} {m l i : Nat} (h : pickB (!E) (.c (.bool true)) (.s i) true (!decide ((m : Int) = (l : Int))) = false) : ¬ (E = false ∨ m ≠ l) := by
  rw [pickB_or] at h
  simp at h
  rintro (h1 | h1)
  · rw [h.1] at h1; cases h1
  · exact h1 (by omega)
def rD (F : Fx) (s : Nat) (p : Plan) (i : Nat) : Int × Bool := depthV F (p.kid i) (partQ F s p.q.toNat ((ansQ F s p.q.toNat).getD i []))
theorem accD_no {r : Nat → Int × Bool} {i : Nat} (h : (r i).2 = false) : ∀ n, i < n → accD r n = (0, false) := by
  intro n
  induction n with
  | zero => intro h; exact absurd h (Nat.not_lt_zero _)
  | succ n ih =>
    intro hn
    simp only [accD]
    by_cases e : i = n
    · subst e
      rw [if_neg (by rw [h]; simp)]
    · rw [if_neg]
      rw [ih (by omega)]
      simp
theorem accD_yes {r : Nat → Int × Bool} {i : Nat} (h1 : (accD r i).2 = true) (h2 : (r i).2 = true) : accD r (i + 1) = (max (accD r i).1 ((r i).1 + 1), true) := by
  show (if _ then _ else _) = _
  rw [if_pos ⟨h1, h2⟩]
set_option maxHeartbeats 8000000 in
theorem depth_ok : ∀ h, h ≤ 1000 → (depthS h).Ok Try.prog 20 := by
  intro h
  induction h with
  | zero =>
    intro _
    refine Eng.MSpec.ok_of e20 q20 (fun _ => []) (fun _ _ => TabOk.nil) ?_
    intro x hx
    exact hx.1.elim
  | succ h ih =>
    intro hh
    refine Eng.MSpec.ok_of e20 q20 (fun _ => [(17, .p cand), (18, .m split), (25, .p equalS), (20, .m (depthS h))]) (fun _ _ => TabOk.p cand_ok (TabOk.m split_ok (TabOk.p equalS_ok (TabOk.m (ih (by omega)) TabOk.nil)))) ?_
    rintro ⟨F, s, p⟩ ⟨hp, hF, hs, hc⟩
    replace hp : PlanOk (h + 1) p := hp
    replace hF : FxOk F := hF
    replace hs : s < 256 := hs
    replace hc : ∀ i ∈ candL s, i < F.n := hc
    have hs64 : s < 18446744073709551616 := by omega
    have hm := hp.1
    have hn := hp.2.1
    unfold BP at hm hn
    have e0 := depth_eq F p s
    refine ⟨trivial, ?_⟩
    repeat' (first | refine And.intro ?_ ?_ | exact trivial | exact rfl)
    · refine fun (hq : decide (p.q = -1) = true) => ?_
      have e1 : depthV F p s = (0, decide ((candL s).length = 1) && decide (p.c = (((candL s).getD 0 0 : Nat) : Int)) && decide (p.n + p.m = 0)) := by
        rw [e0]
        unfold depthR
        rw [if_pos (of_decide_eq_true hq)]
      have hg : decide (((candL s).length : Int) = 1) = true → (0 : Int) ≤ 0 ∧ (0 : Int) < ((candL s).length : Int) := fun h => by have := of_decide_eq_true h; omega
      have hsum : InR .i64 ((p.n : Int) + (p.m : Int)) := ⟨by show -9223372036854775808 ≤ (p.n : Int) + (p.m : Int); omega, by show (p.n : Int) + (p.m : Int) ≤ 9223372036854775807; omega⟩
      have e2 := congrArg Prod.fst e1.symm
      repeat' (first | exact hs64 | exact hg | exact fun (_ : guardP _ _ _ _) => hsum | refine And.intro ?_ ?_ | exact trivial | exact rfl)
      refine Exists.intro () (And.intro trivial ?_)
      repeat' (first | exact e2 | exact leaf_b.trans (congrArg Prod.snd e1.symm) | refine And.intro ?_ ?_ | exact trivial | exact rfl)
    · refine fun (hq : decide (p.q = -1) = false) => ?_
      have hq1 : ¬ p.q = -1 := of_decide_eq_false hq
      have hF0 : (0 : Int) ≤ 0 ∧ (0 : Int) < (F.n : Int) := ⟨Int.le_refl _, by have := hF.n0; omega⟩
      repeat' (first | exact fun (_ : decide (p.q < 0) = false) => hF0 | refine And.intro ?_ ?_ | exact trivial | exact rfl)
      · refine fun (h : pickB _ _ _ _ _ = true) => ?_
        have e1 : depthV F p s = (0, false) := by rw [e0]; unfold depthR; rw [if_neg hq1, if_pos (show p.q < 0 ∨ (F.k 0 : Int) ≤ p.q ∨ p.c ≠ -1 from or3 h)]
        have e2 := congrArg Prod.fst e1.symm
        have e3 := congrArg Prod.snd e1.symm
        repeat' (first | refine And.intro ?_ ?_ | exact trivial | exact rfl)
        refine Exists.intro () (And.intro trivial ?_)
        repeat' (first | exact e2 | exact e3 | refine And.intro ?_ ?_ | exact trivial | exact rfl)
      · refine fun (h6 : pickB _ _ _ _ _ = false) => ?_
        have h3 : 0 ≤ p.q ∧ p.q < (F.k 0 : Int) ∧ p.c = -1 := or3f h6
        have hqn : p.q = ((p.q.toNat : Nat) : Int) := by omega
        have hqk : ∀ i, i < F.n → p.q.toNat < F.k i := fun i hi => by rw [hF.k i hi]; omega
        have hn8 := hF.n8
        have hA8 : (ansQ F s p.q.toNat).length ≤ 8 := ansQ_len
        have hAI : ((ansQ F s p.q.toNat).length : Int) ≤ 9223372036854775806 := by omega
        repeat' (first | refine And.intro ?_ ?_ | exact trivial | exact rfl)
        refine Exists.intro (XC.mk F s p.q.toNat) (Exists.intro [] ?_)
        repeat' (first | exact hn8 | exact hs | exact hc | exact hqk | exact hqn | refine And.intro ?_ ?_ | exact trivial | exact rfl | exact sub_lc (fun a => sub_strN _ _ _ a) | exact sub_lc0 (fun a => sub_strN _ _ _ a) | exact fun (j : Nat) (hj : j < _) => Or.inl (sub_strN _ _ _ _) | exact sub_lc (fun a => sub_natN _ _ _ a) | exact fun (j : Nat) (hj : j < _) => Or.inl (sub_fx _ _ _ _ rfl hj))
        refine fun (y : NL × Nat) (hP : PartOk F p.q.toNat (candL s) y.1) => ?_
        repeat' (first | exact hAI | refine And.intro ?_ ?_ | exact trivial | exact rfl | exact sub_lc (fun a => sub_strN _ _ _ a) | exact sub_lc0 (fun a => sub_strN _ _ _ a) | exact fun (j : Nat) (hj : j < _) => Or.inl (sub_strN _ _ _ _) | exact sub_lc (fun a => sub_natN _ _ _ a) | exact fun (j : Nat) (hj : j < _) => Or.inl (sub_fx _ _ _ _ rfl hj))
        · refine fun (h4 : pickB _ _ _ _ _ = true) => ?_
          have e1 : depthV F p s = (0, false) := by
            rw [e0]
            unfold depthR
            rw [if_neg hq1, if_neg (by omega), if_pos (show eqT ⟨txD (ansQ F s p.q.toNat), ⟨p.n, p.ans⟩⟩ = false ∨ p.m ≠ (ansQ F s p.q.toNat).length from eq2 h4)]
          have e2 := congrArg Prod.fst e1.symm
          have e3 := congrArg Prod.snd e1.symm
          repeat' (first | refine And.intro ?_ ?_ | exact trivial | exact rfl)
          refine Exists.intro () (And.intro trivial ?_)
          repeat' (first | exact e2 | exact e3 | refine And.intro ?_ ?_ | exact trivial | exact rfl)
        · refine fun (h4 : pickB _ _ _ _ _ = false) => ?_
          have h5 : ¬ (eqT ⟨txD (ansQ F s p.q.toNat), ⟨p.n, p.ans⟩⟩ = false ∨ p.m ≠ (ansQ F s p.q.toNat).length) := eq2f h4
          have hml : p.m = (ansQ F s p.q.toNat).length := Classical.byContradiction fun hn => h5 (.inr hn)
          have e1 : depthV F p s = accD (rD F s p) (ansQ F s p.q.toNat).length := by
            rw [e0]
            unfold depthR
            rw [if_neg hq1, if_neg (by omega), if_neg h5]
            rfl
          repeat' (first | refine And.intro ?_ ?_ | exact trivial | exact rfl)
          refine ⟨⟨Nat, fun i => i ≤ (ansQ F s p.q.toNat).length ∧ (accD (rD F s p) i).2 = true, fun i => [(82, .int .i64 (i : Int)), (11, .int .i64 (accD (rD F s p) i).1)], fun _ => [], fun i => (ansQ F s p.q.toNat).length - i⟩, 0, ⟨Nat.zero_le _, rfl⟩, ?_, ?_⟩
          · repeat' (first | refine And.intro ?_ ?_ | exact trivial | exact rfl | exact sub_lc (fun a => sub_strN _ _ _ a) | exact sub_lc0 (fun a => sub_strN _ _ _ a) | exact fun (j : Nat) (hj : j < _) => Or.inl (sub_strN _ _ _ _) | exact sub_lc (fun a => sub_natN _ _ _ a) | exact fun (j : Nat) (hj : j < _) => Or.inl (sub_fx _ _ _ _ rfl hj) | exact sub_pTT rfl | exact sub_pCT rfl | exact sub_pTC rfl | exact sub_pCC rfl | exact ent_nu)
          rintro (i : Nat) ⟨hi, hacc⟩
          replace hi : i ≤ (ansQ F s p.q.toNat).length := hi
          replace hacc : (accD (rD F s p) i).2 = true := hacc
          refine And.intro (fun hb => ?_) (fun hb => ?_)
          · have hil : i < (ansQ F s p.q.toNat).length := by have h1 : (i : Int) < ((ansQ F s p.q.toNat).length : Int) := of_decide_eq_true hb; omega
            have hiI : (i : Int) < ((ansQ F s p.q.toNat).length : Int) := by omega
            have hiM : (i : Int) < (p.m : Int) := by omega
            have hmem : (ansQ F s p.q.toNat).getD i [] ∈ ansL F p.q.toNat (candL s) := mem_distS.1 (getD_memS hil)
            have hpart := Classical.choose_spec ((hP _).1 hmem)
            have hplt := part_lt F s p.q.toNat ((ansQ F s p.q.toNat).getD i [])
            have hpc : ∀ j ∈ candL (partQ F s p.q.toNat ((ansQ F s p.q.toNat).getD i [])), j < F.n := fun j hj => hc j (by rw [cand_part] at hj; exact (List.mem_filter.1 hj).1)
            have hkid := hp.2.2 i (by omega)
            have hbd := depth_bd F h (p.kid i) (partQ F s p.q.toNat ((ansQ F s p.q.toNat).getD i [])) hkid
            have hd1 : -9223372036854775808 ≤ (rD F s p i).1 + 1 := by unfold rD; omega
            have hd2 : (rD F s p i).1 + 1 ≤ 9223372036854775807 := by unfold rD; omega
            have hin1 : -9223372036854775808 ≤ (i : Int) + 1 := by omega
            have hin2 : (i : Int) + 1 ≤ 9223372036854775807 := by omega
            repeat' (first | exact Int.natCast_nonneg _ | exact hiI | exact hiM | refine And.intro ?_ ?_ | exact trivial | exact rfl | exact sub_lc (fun a => sub_strN _ _ _ a) | exact sub_lc0 (fun a => sub_strN _ _ _ a) | exact fun (j : Nat) (hj : j < _) => Or.inl (sub_strN _ _ _ _) | exact sub_lc (fun a => sub_natN _ _ _ a) | exact fun (j : Nat) (hj : j < _) => Or.inl (sub_fx _ _ _ _ rfl hj))
            refine MLook.of_some hpart ?_
            repeat' (first | refine And.intro ?_ ?_ | exact trivial | exact rfl)
            refine Exists.intro (XD.mk F (partQ F s p.q.toNat ((ansQ F s p.q.toNat).getD i [])) (p.kid i)) (Exists.intro [] ?_)
            repeat' (first | exact hkid | exact hplt | exact hpc | exact hF | refine And.intro ?_ ?_ | exact trivial | exact rfl | exact sub_lc (fun a => sub_strN _ _ _ a) | exact sub_lc0 (fun a => sub_strN _ _ _ a) | exact fun (j : Nat) (hj : j < _) => Or.inl (sub_strN _ _ _ _) | exact sub_lc (fun a => sub_natN _ _ _ a) | exact fun (j : Nat) (hj : j < _) => Or.inl (sub_fx _ _ _ _ rfl hj) | exact sub_pTT rfl | exact sub_pCT rfl | exact sub_pTC rfl | exact sub_pCC rfl | exact ent_nu)
            refine fun (_ : Unit) (_ : True) => ?_
            repeat' (first | refine And.intro ?_ ?_ | exact trivial | exact rfl)
            · refine fun (h7 : (!(rD F s p i).2) = true) => ?_
              have h8 : (rD F s p i).2 = false := by simpa using h7
              have e4 : depthV F p s = (0, false) := by rw [e1]; exact accD_no h8 _ hil
              have e2 := congrArg Prod.fst e4.symm
              have e3 := congrArg Prod.snd e4.symm
              repeat' (first | refine And.intro ?_ ?_ | exact trivial | exact rfl)
              refine Exists.intro () (And.intro trivial ?_)
              repeat' (first | exact e2 | exact e3 | refine And.intro ?_ ?_ | exact trivial | exact rfl)
            · refine fun (h7 : (!(rD F s p i).2) = false) => ?_
              have h8 : (rD F s p i).2 = true := by simpa using h7
              have e4 := accD_yes hacc h8
              have e5 : max (accD (rD F s p) i).1 ((rD F s p i).1 + 1) = (accD (rD F s p) (i + 1)).1 := by rw [e4]
              repeat' (first | refine And.intro ?_ ?_ | exact trivial | exact rfl)
              · exact hd1
              · exact hd2
              · exact hin1
              · exact hin2
              refine Exists.intro (i + 1) (And.intro ⟨hil, by show (accD (rD F s p) (i + 1)).2 = true; rw [e4]⟩ (And.intro ?_ ?_))
              · repeat' (first | exact e5 | refine And.intro ?_ ?_ | exact trivial | exact rfl | exact sub_lc (fun a => sub_strN _ _ _ a) | exact sub_lc0 (fun a => sub_strN _ _ _ a) | exact fun (j : Nat) (hj : j < _) => Or.inl (sub_strN _ _ _ _) | exact sub_lc (fun a => sub_natN _ _ _ a) | exact fun (j : Nat) (hj : j < _) => Or.inl (sub_fx _ _ _ _ rfl hj) | exact sub_pTT rfl | exact sub_pCT rfl | exact sub_pTC rfl | exact sub_pCC rfl | exact ent_nu)
              · show (ansQ F s p.q.toNat).length - (i + 1) < (ansQ F s p.q.toNat).length - i
                omega
          · have hil : i = (ansQ F s p.q.toNat).length := by have h1 : ¬ (i : Int) < ((ansQ F s p.q.toNat).length : Int) := of_decide_eq_false hb; omega
            have e2 : (accD (rD F s p) i).1 = (depthV F p s).1 := by rw [e1, hil]
            have e3 : true = (depthV F p s).2 := by rw [e1, ← hil, hacc]
            repeat' (first | refine And.intro ?_ ?_ | exact trivial | exact rfl)
            refine Exists.intro () (And.intro trivial ?_)
            repeat' (first | exact e2 | exact e3 | refine And.intro ?_ ?_ | exact trivial | exact rfl)
end A11
