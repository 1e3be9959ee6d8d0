/- A part of the proof: see the last text. -/
import Derived.Test.YtjfjbkgkafgofaaR8
import Derived.Test.YtjfjbkgkafgofaaEngSort
import Derived.Ground.SlsfProg
import Derived.Ground.NamesProg
namespace Go.Proofs
open Go.Shelf
def Try.sortF_ren : Go.Shelf.Ren := ⟨fun | 6 => 31 | 15 => 46 | 14 => 45 | 28 => 57 | 29 => 58 | 20 => 49 | 21 => 50 | 22 => 51 | 23 => 52 | 24 => 53 | 25 => 54 | 26 => 55 | 27 => 56 | 46 => 59 | 47 => 60 | 48 => 61 | 49 => 62 | 50 => 63 | 57 => 64 | n => n, fun | 22 => 42 | 24 => 50 | 25 => 76 | 3 => 3 | 39 => 87 | 0 => 0 | 53 => 98 | 55 => 100 | 4 => 4 | 46 => 91 | 45 => 90 | 50 => 95 | 5 => 5 | 9 => 9 | 66 => 101 | 70 => 105 | 76 => 107 | 77 => 108 | n => n, fun | n => n⟩
theorem Try.sortF : Go.Proofs.SlLaysF0.n6 Try.prog Try.sortF_ren := {
  mixed := by kernel_rfl
  f6 := ⟨Try.f31.name, by decide, Try.func31.trans (congrArg some (by kernel_rfl))⟩
  f14 := ⟨Try.f45.name, by decide, Try.func45.trans (congrArg some (by kernel_rfl))⟩
  f15 := Try.func46.trans (congrArg some (by kernel_rfl))
  f20 := ⟨Try.f49.name, by decide, Try.func49.trans (congrArg some (by kernel_rfl))⟩
  f21 := ⟨Try.f50.name, by decide, Try.func50.trans (congrArg some (by kernel_rfl))⟩
  f22 := ⟨Try.f51.name, by decide, Try.func51.trans (congrArg some (by kernel_rfl))⟩
  f23 := ⟨Try.f52.name, by decide, Try.func52.trans (congrArg some (by kernel_rfl))⟩
  f24 := ⟨Try.f53.name, by decide, Try.func53.trans (congrArg some (by kernel_rfl))⟩
  f25 := ⟨Try.f54.name, by decide, Try.func54.trans (congrArg some (by kernel_rfl))⟩
  f26 := ⟨Try.f55.name, by decide, Try.func55.trans (congrArg some (by kernel_rfl))⟩
  f27 := ⟨Try.f56.name, by decide, Try.func56.trans (congrArg some (by kernel_rfl))⟩
  f28 := Try.func57.trans (congrArg some (by kernel_rfl))
  f29 := Try.func58.trans (congrArg some (by kernel_rfl))
  f46 := ⟨Try.f59.name, by decide, Try.func59.trans (congrArg some (by kernel_rfl))⟩
  f47 := Try.func60.trans (congrArg some (by kernel_rfl))
  f48 := Try.func61.trans (congrArg some (by kernel_rfl))
  f49 := ⟨Try.f62.name, by decide, Try.func62.trans (congrArg some (by kernel_rfl))⟩
  f50 := ⟨Try.f63.name, by decide, Try.func63.trans (congrArg some (by kernel_rfl))⟩
  f57 := ⟨Try.f64.name, by decide, Try.func64.trans (congrArg some (by kernel_rfl))⟩
  t0 := Try.underlying0
  a0 := Try.isAgg0
  z0 := Try.sizeOf0
  v0 := Try.zeroValue0
  t3 := Try.underlying3
  a3 := Try.isAgg3
  z3 := Try.sizeOf3
  v3 := Try.zeroValue3
  t4 := Try.underlying4
  a4 := Try.isAgg4
  z4 := Try.sizeOf4
  v4 := Try.zeroValue4
  t5 := Try.underlying5
  a5 := Try.isAgg5
  z5 := Try.sizeOf5
  v5 := Try.zeroValue5
  t9 := Try.underlying9
  a9 := Try.isAgg9
  z9 := Try.sizeOf9
  v9 := Try.zeroValue9
  t22 := Try.underlying42
  a22 := Try.isAgg42
  z22 := Try.sizeOf42
  v22 := Try.zeroValue42
  t25 := Try.underlying76
  a25 := Try.isAgg76
  z25 := Try.sizeOf76
  v25 := Try.zeroValue76
  t39 := Try.underlying87
  a39 := Try.isAgg87
  z39 := Try.sizeOf87
  v39 := Try.zeroValue87
  t45 := Try.underlying90
  a45 := Try.isAgg90
  z45 := Try.sizeOf90
  v45 := Try.zeroValue90
  t46 := Try.underlying91
  a46 := Try.isAgg91
  z46 := Try.sizeOf91
  v46 := Try.zeroValue91
  t50 := Try.underlying95
  a50 := Try.isAgg95
  z50 := Try.sizeOf95
  v50 := Try.zeroValue95
  t53 := Try.underlying98
  a53 := Try.isAgg98
  z53 := Try.sizeOf98
  v53 := Try.zeroValue98
  t55 := Try.underlying100
  a55 := Try.isAgg100
  z55 := Try.sizeOf100
  v55 := Try.zeroValue100
  t66 := Try.underlying101
  a66 := Try.isAgg101
  z66 := Try.sizeOf101
  v66 := Try.zeroValue101
  t70 := Try.underlying105
  a70 := Try.isAgg105
  z70 := Try.sizeOf105
  v70 := Try.zeroValue105
  t76 := Try.underlying107
  a76 := Try.isAgg107
  z76 := Try.sizeOf107
  v76 := Try.zeroValue107
  t77 := Try.underlying108
  a77 := Try.isAgg108
  z77 := Try.sizeOf108
  v77 := Try.zeroValue108 }
end Go.Proofs
open Go Go.Eng Go.Proofs R2 R3 R4 R1 R5 R6 R7 R8
set_option maxRecDepth 100000
namespace R9
theorem bl_irrefl : ∀ a : List UInt8, Op.bytesLess a a = false := by
  intro a
  induction a with
  | nil => rfl
  | cons x r ih => simp [Op.bytesLess, ih]
theorem bl_trans : ∀ a b c : List UInt8, Op.bytesLess a b = true → Op.bytesLess b c = true → Op.bytesLess a c = true := by
  intro a
  induction a with
  | nil =>
    intro b c h1 h2
    cases c with
    | nil => cases b <;> simp [Op.bytesLess] at h2
    | cons z r => rfl
  | cons x r ih =>
    intro b c h1 h2
    cases b with
    | nil => simp [Op.bytesLess] at h1
    | cons y s =>
      cases c with
      | nil => simp [Op.bytesLess] at h2
      | cons z t =>
        simp only [Op.bytesLess, Bool.or_eq_true, Bool.and_eq_true, decide_eq_true_eq, beq_iff_eq] at *
        rcases h1 with h1 | ⟨h1, h1'⟩
        · rcases h2 with h2 | ⟨h2, _⟩
          · exact .inl (UInt8.lt_trans h1 h2)
          · subst h2; exact .inl h1
        · subst h1
          rcases h2 with h2 | ⟨h2, h2'⟩
          · exact .inl h2
          · exact .inr ⟨h2, ih _ _ h1' h2'⟩
theorem bl_conn : ∀ a b : List UInt8, Op.bytesLess a b = false → Op.bytesLess b a = false → a = b := by
  intro a
  induction a with
  | nil =>
    intro b h1 h2
    cases b with
    | nil => rfl
    | cons y s => simp [Op.bytesLess] at h1
  | cons x r ih =>
    intro b h1 h2
    cases b with
    | nil => simp [Op.bytesLess] at h2
    | cons y s =>
      simp only [Op.bytesLess, Bool.or_eq_false_iff, Bool.and_eq_false_iff, decide_eq_false_iff_not, beq_eq_false_iff_ne] at *
      have hxy : x = y := UInt8.le_antisymm (UInt8.not_lt.1 h2.1) (UInt8.not_lt.1 h1.1)
      subst hxy
      rw [ih s (by rcases h1.2 with h | h; exact absurd rfl h; exact h) (by rcases h2.2 with h | h; exact absurd rfl h; exact h)]
theorem bef_iff {p q : Fnd} : befB p q = true ↔ p.2 < q.2 ∨ (p.2 = q.2 ∧ Op.bytesLess p.1 q.1 = true) := by
  unfold befB
  simp only [Bool.or_eq_true, Bool.and_eq_true, decide_eq_true_eq]
theorem bef_irrefl (p : Fnd) : befB p p = false := by
  cases h : befB p p with
  | false => rfl
  | true =>
    rcases bef_iff.1 h with h | ⟨_, h⟩
    · omega
    · rw [bl_irrefl] at h; cases h
theorem bef_trans {p q r : Fnd} (h1 : befB p q = true) (h2 : befB q r = true) : befB p r = true := by
  rw [bef_iff] at *
  rcases h1 with h1 | ⟨h1, k1⟩ <;> rcases h2 with h2 | ⟨h2, k2⟩
  · exact .inl (by omega)
  · exact .inl (by omega)
  · exact .inl (by omega)
  · exact .inr ⟨by omega, bl_trans _ _ _ k1 k2⟩
theorem bef_conn {p q : Fnd} (h1 : befB p q = false) (h2 : befB q p = false) : p = q := by
  have k1 : ¬ (p.2 < q.2 ∨ (p.2 = q.2 ∧ Op.bytesLess p.1 q.1 = true)) := fun h => by rw [bef_iff.2 h] at h1; cases h1
  have k2 : ¬ (q.2 < p.2 ∨ (q.2 = p.2 ∧ Op.bytesLess q.1 p.1 = true)) := fun h => by rw [bef_iff.2 h] at h2; cases h2
  have e : p.2 = q.2 := by omega
  refine Prod.ext (bl_conn _ _ ?_ ?_) e
  · cases h : Op.bytesLess p.1 q.1 with
    | false => rfl
    | true => exact absurd (.inr ⟨e, h⟩) k1
  · cases h : Op.bytesLess q.1 p.1 with
    | false => rfl
    | true => exact absurd (.inr ⟨e.symm, h⟩) k2
theorem cmp_bef (p q : Fnd) : ltOf cmpF p q = befB p q := by
  have h0 := bl_irrefl
  unfold ltOf cmpF befB or2 cmpB
  by_cases h1 : p.2 - q.2 = 0
  · rw [if_pos h1]
    have e : ¬ p.2 < q.2 := by omega
    have e2 : p.2 = q.2 := by omega
    rw [decide_eq_false e, decide_eq_true e2]
    cases hb : Op.bytesLess p.1 q.1 with
    | true => simp
    | false =>
      by_cases hq : p.1 = q.1 <;> simp [hq]
  · rw [if_neg h1]
    have e2 : ¬ p.2 = q.2 := by omega
    rw [decide_eq_false e2]
    simp only [Bool.false_and, Bool.or_false]
    exact decide_eq_decide.2 (by omega)
def domF (p : Fnd) : Prop := 0 ≤ p.2 ∧ p.2 ≤ 4294967296
theorem cmp_swo : Go.Sort.SWO (ltOf fun x y : { a // domF a } => cmpF x.1 y.1) where
  irrefl x := (cmp_bef x.1 x.1).trans (bef_irrefl _)
  trans x y z h1 h2 := (cmp_bef x.1 z.1).trans (bef_trans ((cmp_bef x.1 y.1).symm.trans h1) ((cmp_bef y.1 z.1).symm.trans h2))
  ntrans x y z h1 h2 := by
    have h1' : befB x.1 y.1 = false := (cmp_bef x.1 y.1).symm.trans h1
    have h2' : befB y.1 z.1 = false := (cmp_bef y.1 z.1).symm.trans h2
    refine (cmp_bef x.1 z.1).trans ?_
    cases h : befB x.1 z.1 with
    | false => rfl
    | true =>
      exfalso
      cases k1 : befB y.1 x.1 with
      | false =>
        have e := bef_conn h1' k1
        rw [e, h2'] at h
        cases h
      | true =>
        have := bef_trans k1 h
        rw [h2'] at this
        cases this
def fnV (p : Fnd) : List Value := [.string ⟨p.1.toArray⟩, .int .i64 p.2]
theorem R_fnL (E : Env) (p : Fnd) (vs : List Value) : R E (fnL p) vs ↔ vs = fnV p := by
  unfold fnL fnV
  simp only [R]
  constructor
  · rintro ⟨x, xs, rfl, h1, y, ys, rfl, h2, rfl⟩
    simp at h1 h2
    rw [h1, h2]
  · rintro rfl
    exact ⟨_, _, rfl, rfl, _, _, rfl, rfl, rfl⟩
def SortF : Eng.MSpec := sortS 50 2 fnL domF cmpF 32
theorem SortF_ok : SortF.Ok Try.prog 31 := by
  have h := Eng.sort_ok (T := 50) (k := 2) Try.sortF (by decide) Try.isAgg50 Try.sizeOf50 fnL fnV R_fnL (fun _ => rfl) (fun p v hv => by simp [fnV] at hv; rcases hv with rfl | rfl <;> rfl) domF cmpF cmp_swo 32
    near1_ok.call (Try.sortF.f6.enters rfl) ?_
  · exact h
  · intro p q w hp hq
    refine (near1_ok.does (p, q) w [.agg (fnV p).toArray, .agg (fnV q).toArray] (fun _ => False) (fun _ h => h.elim) ⟨hp, hq⟩ ?_).mono ?_
    · show R _ (.cons (fnE p) (.cons (fnE q) .nil)) _
      simp only [R, fnE]
      exact ⟨_, _, rfl, ⟨_, rfl, (R_fnL _ _ _).2 rfl⟩, _, _, rfl, ⟨_, rfl, (R_fnL _ _ _).2 rfl⟩, rfl⟩
    · intro e w' he
      cases e with
      | returned v =>
        obtain ⟨h1, h2⟩ := he
        have h1' : R (envU (resU near1.fresh (fun _ => False) w w') w') (.int .i64 (cmpF p q)) [v] := h1
        simp only [R] at h1'
        exact ⟨by simpa using h1', h2⟩
      | panicked _ => exact he.elim
      | outgrown => exact he.elim
end R9
