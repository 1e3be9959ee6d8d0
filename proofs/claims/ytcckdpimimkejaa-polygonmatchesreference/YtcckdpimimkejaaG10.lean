/- A part of the proof: see the last text. -/
import Derived.Test.YtcckdpimimkejaaG9
open Go Go.Eng Go.Proofs G1 G2 G3 G4 G5 G6 G7 G8 G9
set_option maxRecDepth 100000
namespace G10
/-! ### Compact -/
/-- What is left of the first n points. -/
def ddL (f : Nat → Pt) : Nat → List Pt
  | 0 => []
  | m + 1 => if m = 0 then [f 0] else if f m = f (m - 1) then ddL f m else ddL f m ++ [f m]
def lsR (f : Nat → Pt) (n : Nat) : List Pt := (List.range n).map f
theorem lsR_succ (f : Nat → Pt) (n : Nat) : lsR f (n + 1) = lsR f n ++ [f n] := by
  unfold lsR
  rw [List.range_succ, List.map_append]
  rfl
theorem lsR_congr {f g : Nat → Pt} {n : Nat} (h : ∀ i, i < n → f i = g i) : lsR f n = lsR g n := List.map_congr_left fun i hi => h i (List.mem_range.1 hi)
def updP (c : Nat → Pt) (k : Nat) (q : Pt) : Nat → Pt := fun j => bif Nat.beq j k then q else c j
theorem upd_at (c : Nat → Pt) (k : Nat) (q : Pt) : updP c k q k = q := by unfold updP; rw [Nat.beq_refl]; rfl
theorem upd_ne (c : Nat → Pt) {k j : Nat} (q : Pt) (h : j ≠ k) : updP c k q j = c j := by
  unfold updP
  cases hb : Nat.beq j k with
  | false => rfl
  | true => exact absurd (Nat.eq_of_beq_eq_true hb) h
theorem upd_sub {K : Keep} {hp : List (Nat × HObj)} {m n k : Nat} {c : Nat → Pt} {q : Pt} : ∀ j, j < n → SubC K (sub K hp (m + 4)) (bif Nat.beq j k then ptL q else ptL (c j)) (ptL (updP c k q j)) := by
  intro j _
  unfold updP
  cases Nat.beq j k with
  | true => exact Or.inl (sub_ptN _ _ _ _)
  | false => exact Or.inl (sub_ptN _ _ _ _)
structure C2 where
  k2 : Nat
  k : Nat
  c : Nat → Pt
structure Iv (r : Pts) (k0 : Nat) (x : C2) : Prop where
  a1 : 1 ≤ x.k2
  a2 : k0 + x.k2 ≤ r.n
  b1 : 1 ≤ x.k
  b2 : x.k + 1 ≤ k0 + x.k2
  eq : lsR x.c x.k = ddL r.p (k0 + x.k2)
  rest : ∀ j, k0 + x.k2 ≤ j + 1 → j < r.n → x.c j = r.p j
def Compact : Eng.MSpec where
  X := Pts
  Y := Pts
  args := fun r => .cons (.lsl 0 2 r.n) .nil
  pre := fun r => 2 ≤ r.n ∧ r.n ≤ 1000
  h0 := fun r => [(0, .arr 24 2 r.n fun i => ptL (r.p i))]
  nx0 := 1
  post := fun r y => 1 ≤ y.n ∧ y.n ≤ r.n ∧ lsR y.p y.n = ddL r.p r.n
  res := fun _ y => .osl 0 2 0 y.n
  h1 := fun _ y => [(0, .arr 24 2 y.n fun i => ptL (y.p i))]
  nx1 := 1
/-- slices.Compact[[]gazetteer/api.Point,gazetteer/api.Point] -/
def g69 : List Nat := [8, 13, 25, 32, 44, 4, 5, 3, 0, 2]
def c69 : SCode :=
  .seq (.region g69 [⟨some 2, none, .move (.c (.nilsl)), []⟩]) (.seq (.seq (.region g69 [⟨some 6, none, .move (.s 0), []⟩, ⟨some 7, none, .lenSl (.s 6), []⟩, ⟨some 8, none, .bin (.lss) (.s 7) (.c (.int .i64 2)), []⟩]) (.cond (.s 8) (.seq (.region g69 [⟨some 9, none, .move (.s 0), []⟩, ⟨some 2, none, .move (.s 9), []⟩]) .ret) .skip)) (.seq (.seq (.region g69 [⟨some 3, none, .move (.c (.int .i64 1)), []⟩]) (.block 0 (.loop 0 [10, 11, 12, 13, 16, 17, 18, 19, 20, 21, 22, 23, 24, 25, 26, 27, 28, 4, 29, 30, 31, 32, 35, 36, 37, 38, 39, 40, 41, 42, 43, 44, 45, 46, 47, 48, 49, 50, 51, 52, 53, 33, 34, 5, 54, 55, 56, 57, 58, 59, 2, 14, 15, 3] (.seq (.seq (.region g69 [⟨some 10, none, .move (.s 3), []⟩, ⟨some 11, none, .move (.s 0), []⟩, ⟨some 12, none, .lenSl (.s 11), []⟩, ⟨some 13, none, .bin (.lss) (.s 10) (.s 12), []⟩]) (.cond (.s 13) .skip (.exit 0))) (.seq (.block 1 (.seq (.drawn g69 (.pure 0 ⟨some 16, none, .move (.s 0), []⟩ (.pure 1 ⟨some 17, none, .move (.s 3), []⟩ (.pure 2 ⟨some 18, none, .idxSl 2 (.s 16) (.s 17), []⟩ (.pure 3 ⟨some 19, none, .load 2 true (.s 18), []⟩ (.pure 4 ⟨some 20, none, .move (.s 0), []⟩ (.pure 5 ⟨some 21, none, .move (.s 3), []⟩ (.pure 6 ⟨some 22, none, .bin (.sub) (.s 21) (.c (.int .i64 1)), []⟩ (.pure 7 ⟨some 23, none, .idxSl 2 (.s 20) (.s 22), []⟩ (.pure 8 ⟨some 24, none, .load 2 true (.s 23), []⟩ (.pure 9 ⟨some 25, none, .eqS false [(0, 1), (1, 1)] (.s 19) (.s 24), []⟩ .done))))))))))) (.cond (.s 25) (.seq (.region g69 [⟨some 26, none, .move (.s 0), []⟩, ⟨some 27, none, .move (.s 3), []⟩, ⟨some 28, none, .sliceSl 2 (.s 26) (some (.s 27)) none, []⟩, ⟨some 4, none, .move (.s 28), []⟩]) (.seq (.seq (.region g69 [⟨some 5, none, .move (.c (.int .i64 1)), []⟩]) (.block 2 (.loop 1 [29, 30, 31, 32, 35, 36, 37, 38, 39, 40, 41, 42, 43, 44, 45, 46, 47, 48, 49, 50, 51, 52, 53, 3, 33, 34, 5] (.seq (.seq (.region g69 [⟨some 29, none, .move (.s 5), []⟩, ⟨some 30, none, .move (.s 4), []⟩, ⟨some 31, none, .lenSl (.s 30), []⟩, ⟨some 32, none, .bin (.lss) (.s 29) (.s 31), []⟩]) (.cond (.s 32) .skip (.exit 2))) (.seq (.block 3 (.seq (.drawn g69 (.pure 0 ⟨some 35, none, .move (.s 4), []⟩ (.pure 1 ⟨some 36, none, .move (.s 5), []⟩ (.pure 2 ⟨some 37, none, .idxSl 2 (.s 35) (.s 36), []⟩ (.pure 3 ⟨some 38, none, .load 2 true (.s 37), []⟩ (.pure 4 ⟨some 39, none, .move (.s 4), []⟩ (.pure 5 ⟨some 40, none, .move (.s 5), []⟩ (.pure 6 ⟨some 41, none, .bin (.sub) (.s 40) (.c (.int .i64 1)), []⟩ (.pure 7 ⟨some 42, none, .idxSl 2 (.s 39) (.s 41), []⟩ (.pure 8 ⟨some 43, none, .load 2 true (.s 42), []⟩ (.pure 9 ⟨some 44, none, .eqS true [(0, 1), (1, 1)] (.s 38) (.s 43), []⟩ .done))))))))))) (.cond (.s 44) (.seq (.region g69 [⟨some 45, none, .move (.s 0), []⟩, ⟨some 46, none, .move (.s 3), []⟩, ⟨some 47, none, .move (.s 4), []⟩, ⟨some 48, none, .move (.s 5), []⟩, ⟨some 49, none, .idxSl 2 (.s 47) (.s 48), []⟩, ⟨some 50, none, .load 2 true (.s 49), []⟩, ⟨some 51, none, .idxSl 2 (.s 45) (.s 46), []⟩, ⟨none, none, .store 2 (.s 51) (.s 50), []⟩]) (.region g69 [⟨some 52, none, .move (.s 3), []⟩, ⟨some 53, none, .bin (.add) (.s 52) (.c (.int .i64 1)), []⟩, ⟨some 3, none, .move (.s 53), []⟩])) .skip))) (.region g69 [⟨some 33, none, .move (.s 5), []⟩, ⟨some 34, none, .bin (.add) (.s 33) (.c (.int .i64 1)), []⟩, ⟨some 5, none, .move (.s 34), []⟩])))))) (.seq (.region g69 [⟨some 54, none, .move (.s 0), []⟩, ⟨some 55, none, .move (.s 3), []⟩, ⟨some 56, none, .sliceSl 2 (.s 54) (some (.s 55)) none, []⟩, ⟨none, none, .clr 2 (.s 56), []⟩]) (.seq (.region g69 [⟨some 57, none, .move (.s 0), []⟩, ⟨some 58, none, .move (.s 3), []⟩, ⟨some 59, none, .sliceSl 2 (.s 57) none (some (.s 58)), []⟩, ⟨some 2, none, .move (.s 59), []⟩]) .ret)))) .skip))) (.region g69 [⟨some 14, none, .move (.s 3), []⟩, ⟨some 15, none, .bin (.add) (.s 14) (.c (.int .i64 1)), []⟩, ⟨some 3, none, .move (.s 15), []⟩])))))) (.seq (.region g69 [⟨some 60, none, .move (.s 0), []⟩, ⟨some 2, none, .move (.s 60), []⟩]) .ret)))
def r69 : List SRes := [.slot 2]
def k69 : List (Nat × Nat × SCode × Nat) := []
theorem e69 : cFunc Try.prog 69 g69 [] [] k69 = some (c69, r69, 61) := by kernel_rfl
theorem q69 : RgOk Try.prog k69 := RgOk.nil
theorem Compact_ok : Compact.Ok Try.prog 69 := by
  refine Eng.MSpec.ok_of e69 q69 (fun _ => []) (fun _ _ => TabOk.nil) ?_
  rintro r ⟨h2, hn⟩
  replace h2 : 2 ≤ r.n := h2
  replace hn : r.n ≤ 1000 := hn
  have hd : decide ((r.n : Int) < 2) = false := decide_eq_false (by omega)
  refine ⟨trivial, ?_⟩
  repeat' (first | exact fun (h : decide ((r.n : Int) < 2) = true) => no_tf hd h | (refine fun (_ : decide ((r.n : Int) < 2) = false) => ?_) | refine And.intro ?_ ?_ | exact trivial | exact rfl | exact fun (j : Nat) (hj : j < _) => Or.inl (sub_ptN _ _ _ _) | exact upd_sub)
  refine ⟨⟨Nat, fun k => (1 ≤ k ∧ k ≤ r.n) ∧ ddL r.p k = lsR r.p k, fun k => [(3, .int .i64 (k : Int))], fun _ => [], fun k => r.n - k⟩, 1, ⟨⟨Nat.le_refl _, by omega⟩, rfl⟩, ?_, ?_⟩
  · repeat' (first | refine And.intro ?_ ?_ | exact trivial | exact rfl | exact fun (j : Nat) (hj : j < _) => Or.inl (sub_ptN _ _ _ _) | exact upd_sub)
  rintro (k : Nat) ⟨⟨(hk1 : 1 ≤ k), (hk2 : k ≤ r.n)⟩, (hk3 : ddL r.p k = lsR r.p k)⟩
  repeat' (first | refine And.intro ?_ ?_ | exact trivial | exact rfl | exact fun (j : Nat) (hj : j < _) => Or.inl (sub_ptN _ _ _ _) | exact upd_sub)
  · refine fun (h : decide ((k : Int) < (r.n : Int)) = true) => ?_
    have hi1 : (k : Int) < (r.n : Int) := of_decide_eq_true h
    have hkl : k < r.n := by omega
    have hi0 : (0 : Int) ≤ (k : Int) := by omega
    have b1 : -9223372036854775808 ≤ (k : Int) + 1 := by omega
    have b2 : (k : Int) + 1 ≤ 9223372036854775807 := by omega
    have c1 : -9223372036854775808 ≤ (k : Int) - 1 := by omega
    have c2 : (k : Int) - 1 ≤ 9223372036854775807 := by omega
    have c3 : 0 ≤ (k : Int) - 1 := by omega
    have c4 : (k : Int) - 1 < (r.n : Int) := by omega
    have hi2 : (k : Int) ≤ (r.n : Int) := by omega
    have d1 : 0 + (k : Int).toNat < r.n := by omega
    have d2 : 0 + ((k : Int) - 1).toNat < r.n := by omega
    have t1 : 0 + (k : Int).toNat = k := by omega
    have t2 : 0 + ((k : Int) - 1).toNat = k - 1 := by omega
    repeat' (first | with_reducible exact hi1 | with_reducible exact hi0 | with_reducible exact c1 | with_reducible exact c2 | with_reducible exact c3 | with_reducible exact c4 | with_reducible exact d1 | with_reducible exact d2 | refine And.intro ?_ ?_ | exact trivial | exact rfl | exact fun (j : Nat) (hj : j < _) => Or.inl (sub_ptN _ _ _ _) | exact upd_sub)
    · refine fun (h : eqP (r.p (0 + (k : Int).toNat)) (r.p (0 + ((k : Int) - 1).toNat)) = true) => ?_
      rw [t1, t2, eqP_iff] at h
      have hst : ddL r.p (k + 1) = lsR r.p k := by
        rw [← hk3]
        simp only [ddL]
        rw [if_neg (by omega), if_pos h]
      have hlt : 0 ≤ (k : Int) ∧ (k : Int) ≤ (r.n : Int) := ⟨hi0, hi2⟩
      repeat' (first | with_reducible exact hi0 | with_reducible exact hi2 | refine And.intro ?_ ?_ | exact trivial | exact rfl | exact fun (j : Nat) (hj : j < _) => Or.inl (sub_ptN _ _ _ _) | exact upd_sub)
      refine ⟨⟨C2, Iv r k, fun x => [(3, .int .i64 (x.k : Int)), (5, .int .i64 (x.k2 : Int))], fun x => [(0, .arr 24 2 r.n fun j => ptL (x.c j))], fun x => r.n - x.k2⟩, ⟨1, k, r.p⟩, ⟨Nat.le_refl _, hkl, hk1, Nat.le_refl _, hst.symm, fun _ _ _ => rfl⟩, ?_, ?_⟩
      · repeat' (first | refine And.intro ?_ ?_ | exact trivial | exact rfl | exact fun (j : Nat) (hj : j < _) => Or.inl (sub_ptN _ _ _ _) | exact upd_sub)
      rintro ⟨k2, kw, c⟩ ⟨ha1, ha2, hb1, hb2, heq, hrest⟩
      replace ha1 : 1 ≤ k2 := ha1
      replace ha2 : k + k2 ≤ r.n := ha2
      replace hb1 : 1 ≤ kw := hb1
      replace hb2 : kw + 1 ≤ k + k2 := hb2
      replace heq : lsR c kw = ddL r.p (k + k2) := heq
      replace hrest : ∀ j, k + k2 ≤ j + 1 → j < r.n → c j = r.p j := hrest
      repeat' (first | refine And.intro ?_ ?_ | exact trivial | exact rfl | exact fun (j : Nat) (hj : j < _) => Or.inl (sub_ptN _ _ _ _) | exact upd_sub)
      · refine fun (h : decide ((k2 : Int) < ((r.n - (k : Int).toNat : Nat) : Int)) = true) => ?_
        have g0 : (k2 : Int) < ((r.n - (k : Int).toNat : Nat) : Int) := of_decide_eq_true h
        have g1 : (0 : Int) ≤ (k2 : Int) := by omega
        have g2 : -9223372036854775808 ≤ (k2 : Int) - 1 := by omega
        have g3 : (k2 : Int) - 1 ≤ 9223372036854775807 := by omega
        have g4 : 0 ≤ (k2 : Int) - 1 := by omega
        have g5 : (k2 : Int) - 1 < ((r.n - (k : Int).toNat : Nat) : Int) := by omega
        have g6 : -9223372036854775808 ≤ (k2 : Int) + 1 := by omega
        have g7 : (k2 : Int) + 1 ≤ 9223372036854775807 := by omega
        have g8 : 0 + (k : Int).toNat + (k2 : Int).toNat < r.n := by omega
        have g9 : 0 + (k : Int).toNat + ((k2 : Int) - 1).toNat < r.n := by omega
        have s1 : 0 + (k : Int).toNat + (k2 : Int).toNat = k + k2 := by omega
        have s2 : 0 + (k : Int).toNat + ((k2 : Int) - 1).toNat = k + k2 - 1 := by omega
        have w1 : c (k + k2) = r.p (k + k2) := hrest _ (by omega) (by omega)
        have w2 : c (k + k2 - 1) = r.p (k + k2 - 1) := hrest _ (by omega) (by omega)
        repeat' (first | with_reducible exact g0 | with_reducible exact g1 | with_reducible exact g2 | with_reducible exact g3 | with_reducible exact g4 | with_reducible exact g5 | with_reducible exact g8 | with_reducible exact g9 | refine And.intro ?_ ?_ | exact trivial | exact rfl | exact fun (j : Nat) (hj : j < _) => Or.inl (sub_ptN _ _ _ _) | exact upd_sub)
        · refine fun (h : (!eqP (c (0 + (k : Int).toNat + (k2 : Int).toNat)) (c (0 + (k : Int).toNat + ((k2 : Int) - 1).toNat))) = true) => ?_
          have hne : r.p (k + k2) ≠ r.p (k + k2 - 1) := fun e => by
            have := not_t h
            rw [s1, s2, w1, w2, eqP_iff.2 e] at this
            cases this
          have v1 : (0 : Int) ≤ (kw : Int) := by omega
          have v2 : (kw : Int) < (r.n : Int) := by omega
          have v3 : 0 + (kw : Int).toNat < r.n := by omega
          have v4 : -9223372036854775808 ≤ (kw : Int) + 1 := by omega
          have v5 : (kw : Int) + 1 ≤ 9223372036854775807 := by omega
          repeat' (first | with_reducible exact g0 | with_reducible exact g1 | with_reducible exact g6 | with_reducible exact g7 | with_reducible exact g8 | with_reducible exact v1 | with_reducible exact v2 | with_reducible exact v3 | with_reducible exact v4 | with_reducible exact v5 | refine And.intro ?_ ?_ | exact trivial | exact rfl | exact fun (j : Nat) (hj : j < _) => Or.inl (sub_ptN _ _ _ _) | exact upd_sub)
          refine Exists.intro (C2.mk (k2 + 1) (kw + 1) (updP c (0 + (kw : Int).toNat) (c (0 + (k : Int).toNat + (k2 : Int).toNat)))) ?_
          have t3 : 0 + (kw : Int).toNat = kw := by omega
          refine And.intro ⟨by dsimp only; omega, by dsimp only; omega, by dsimp only; omega, by dsimp only; omega, ?_, ?_⟩ ?_
          · show lsR (updP c (0 + (kw : Int).toNat) (c (0 + (k : Int).toNat + (k2 : Int).toNat))) (kw + 1) = ddL r.p (k + (k2 + 1))
            rw [t3, s1, lsR_succ, upd_at, lsR_congr (g := c) (fun i hi => upd_ne c _ (by omega)), heq, w1]
            show _ = ddL r.p (k + k2 + 1)
            simp only [ddL]
            rw [if_neg (by omega), if_neg hne]
          · intro j hj hjn
            replace hj : k + (k2 + 1) ≤ j + 1 := hj
            show updP c (0 + (kw : Int).toNat) (c (0 + (k : Int).toNat + (k2 : Int).toNat)) j = r.p j
            rw [t3, upd_ne c _ (by omega)]
            exact hrest j (by omega) hjn
          repeat' (first | refine And.intro ?_ ?_ | exact trivial | exact rfl | exact fun (j : Nat) (hj : j < _) => Or.inl (sub_ptN _ _ _ _) | exact upd_sub)
          show r.n - (k2 + 1) < r.n - k2
          omega
        · refine fun (h : (!eqP (c (0 + (k : Int).toNat + (k2 : Int).toNat)) (c (0 + (k : Int).toNat + ((k2 : Int) - 1).toNat))) = false) => ?_
          have he : r.p (k + k2) = r.p (k + k2 - 1) := by
            have := not_f h
            rw [s1, s2, w1, w2] at this
            exact eqP_iff.1 this
          repeat' (first | with_reducible exact g6 | with_reducible exact g7 | refine And.intro ?_ ?_ | exact trivial | exact rfl | exact fun (j : Nat) (hj : j < _) => Or.inl (sub_ptN _ _ _ _) | exact upd_sub)
          refine Exists.intro (C2.mk (k2 + 1) kw c) ?_
          refine And.intro ⟨by dsimp only; omega, by dsimp only; omega, hb1, by dsimp only; omega, ?_, fun j hj hjn => hrest j (by replace hj : k + (k2 + 1) ≤ j + 1 := hj; omega) hjn⟩ ?_
          · show lsR c kw = ddL r.p (k + k2 + 1)
            rw [heq]
            simp only [ddL]
            rw [if_neg (by omega), if_pos he]
          repeat' (first | refine And.intro ?_ ?_ | exact trivial | exact rfl | exact fun (j : Nat) (hj : j < _) => Or.inl (sub_ptN _ _ _ _) | exact upd_sub)
          show r.n - (k2 + 1) < r.n - k2
          omega
      · refine fun (h : decide ((k2 : Int) < ((r.n - (k : Int).toNat : Nat) : Int)) = false) => ?_
        have g0 : ¬ (k2 : Int) < ((r.n - (k : Int).toNat : Nat) : Int) := of_decide_eq_false h
        have e2 : k + k2 = r.n := by omega
        have v1 : (0 : Int) ≤ (kw : Int) := by omega
        have v2 : (kw : Int) ≤ (r.n : Int) := by omega
        have v3 : 0 < 0 + (kw : Int).toNat := by omega
        have v4 : 0 + (kw : Int).toNat ≤ r.n := by omega
        have v5 : 0 + (kw : Int).toNat = kw := by omega
        repeat' (first | with_reducible exact v1 | with_reducible exact v2 | with_reducible exact v3 | with_reducible exact v4 | refine And.intro ?_ ?_ | exact trivial | exact rfl | exact fun (j : Nat) (hj : j < _) => Or.inl (sub_ptN _ _ _ _) | exact upd_sub)
        refine Exists.intro (Pts.mk kw c) (And.intro ⟨hb1, show kw ≤ r.n by omega, ?_⟩ ?_)
        · show lsR c kw = ddL r.p r.n
          rw [heq, e2]
        repeat' (first | with_reducible exact v5 | refine And.intro ?_ ?_ | exact trivial | exact rfl | exact fun (j : Nat) (hj : j < _) => Or.inl (sub_ptN _ _ _ _) | exact upd_sub)
    · refine fun (h : eqP (r.p (0 + (k : Int).toNat)) (r.p (0 + ((k : Int) - 1).toNat)) = false) => ?_
      have hne : r.p k ≠ r.p (k - 1) := fun e => by
        rw [t1, t2, eqP_iff.2 e] at h
        cases h
      have hst : ddL r.p (k + 1) = lsR r.p (k + 1) := by
        rw [lsR_succ, ← hk3]
        simp only [ddL]
        rw [if_neg (by omega), if_neg hne]
      repeat' (first | with_reducible exact b1 | with_reducible exact b2 | refine And.intro ?_ ?_ | exact trivial | exact rfl | exact fun (j : Nat) (hj : j < _) => Or.inl (sub_ptN _ _ _ _) | exact upd_sub)
      refine Exists.intro (k + 1) ?_
      refine And.intro (And.intro ⟨Nat.le_add_left _ _, hkl⟩ hst) ?_
      repeat' (first | refine And.intro ?_ ?_ | exact trivial | exact rfl | exact fun (j : Nat) (hj : j < _) => Or.inl (sub_ptN _ _ _ _) | exact upd_sub)
      show r.n - (k + 1) < r.n - k
      omega
  · refine fun (h : decide ((k : Int) < (r.n : Int)) = false) => ?_
    have hi1 : ¬ (k : Int) < (r.n : Int) := of_decide_eq_false h
    have ek : k = r.n := by omega
    repeat' (first | refine And.intro ?_ ?_ | exact trivial | exact rfl | exact fun (j : Nat) (hj : j < _) => Or.inl (sub_ptN _ _ _ _) | exact upd_sub)
    refine Exists.intro r (And.intro ⟨show 1 ≤ r.n by omega, Nat.le_refl _, ?_⟩ ?_)
    · show lsR r.p r.n = ddL r.p r.n
      rw [← ek]
      exact hk3.symm
    repeat' (first | refine And.intro ?_ ?_ | exact trivial | exact rfl | exact fun (j : Nat) (hj : j < _) => Or.inl (sub_ptN _ _ _ _) | exact upd_sub)
end G10
