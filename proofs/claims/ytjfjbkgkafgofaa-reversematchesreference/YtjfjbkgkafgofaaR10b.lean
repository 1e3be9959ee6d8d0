/- A part of the proof: see the last text. -/
import Derived.Test.YtjfjbkgkafgofaaR10
open Go Go.Eng Go.Proofs R2 R3 R4 R1 R5 R6 R7 R8 R9 R10
set_option maxRecDepth 100000
namespace R10b
/-! The steps of the search, in plain words. -/
structure X4 where
  seen : List Nat
  L : List Fnd
/-- What has been found in rings and cells before, and in this cell. -/
def F4 (g : G) (p : Int × Int) (v : Int → Int → Prop) (i k : Int) (il : IL) (x : X4) : Prop :=
  x.L.Nodup ∧ ∀ f, f ∈ x.L ↔ ∃ e ∈ g.d, fndOf p e = f ∧ (v (e.2.1.1 / 1024) (e.2.1.2 / 1024) ∨ ((e.2.1.1 / 1024 = i ∧ e.2.1.2 / 1024 = k) ∧ ∃ y ∈ il, y.1 = e.1 ∧ y.2.2 ∈ x.seen))
def left (il : IL) (seen : List Nat) : Nat := (il.filter fun y => !memN seen y.2.2).length
def loI (c r : Int) : Int := max 0 (c - r)
def hiI (c r : Int) : Int := min 31 (c + r)
/-- Where the inner loop of a ring stands. -/
def Kok (p : Int × Int) (r : Nat) (i step k : Int) : Prop :=
  p.2 / 1024 - r ≤ k ∧ ((step = 1 ∧ k ≤ p.2 / 1024 + r + 1 ∧ (i = p.1 / 1024 - r ∨ i = p.1 / 1024 + r ∨ r = 0)) ∨ (step = 2 * r ∧ 0 < r ∧ p.1 / 1024 - r < i ∧ i < p.1 / 1024 + r ∧ (k = p.2 / 1024 - r ∨ k = p.2 / 1024 + r ∨ k = p.2 / 1024 + 3 * r)))
theorem fi_len {g : G} {p : Int × Int} {L : List Fnd} (h1 : L.Nodup) (h2 : ∀ f ∈ L, ∃ e ∈ g.d, fndOf p e = f) : L.length ≤ g.d.length := by
  have := len_le (m := g.d.map (fndOf p)) h1 (fun f hf => by
    obtain ⟨e, he, rfl⟩ := h2 f hf
    exact List.mem_map.2 ⟨e, he, rfl⟩)
  rwa [List.length_map] at this
theorem v2_start {p : Int × Int} (hp : onB p = true) {r : Nat} : ∀ a b, inG (a, b) → (V2 (cellOf p) r (loI (p.1 / 1024) r) a b ↔ V0 (cellOf p) r a b) := by
  intro a b hg
  have hc := on_cell hp
  unfold V2 V0 rg absI cellOf loI
  unfold inG at hg
  dsimp only at *
  omega
theorem v2_end {p : Int × Int} (hp : onB p = true) {r : Nat} {i : Int} (hi : i = hiI (p.1 / 1024) r + 1) : ∀ a b, inG (a, b) → (V0 (cellOf p) ((r : Int) + 1) a b ↔ V2 (cellOf p) r i a b) := by
  intro a b hg
  have hc := on_cell hp
  unfold V2 V0 rg absI cellOf
  unfold hiI at hi
  unfold inG at hg
  dsimp only at *
  omega
theorem v3_start {p : Int × Int} (hp : onB p = true) {r : Nat} {i : Int} : ∀ a b, inG (a, b) → (V3 (cellOf p) r i (p.2 / 1024 - r) a b ↔ V2 (cellOf p) r i a b) := by
  intro a b hg
  have hc := on_cell hp
  unfold V2 V3 rg absI cellOf
  unfold inG at hg
  dsimp only at *
  omega
theorem v3_end {p : Int × Int} (hp : onB p = true) {r : Nat} {i k : Int} (hk : p.2 / 1024 + r < k) : ∀ a b, inG (a, b) → (V2 (cellOf p) r (i + 1) a b ↔ V3 (cellOf p) r i k a b) := by
  intro a b hg
  have hc := on_cell hp
  unfold V2 V3 rg absI cellOf
  unfold inG at hg
  dsimp only at *
  omega
theorem v3_not {p : Int × Int} {r : Nat} {i step k : Int} (_hlo : loI (p.1 / 1024) r ≤ i) (_hhi : i ≤ hiI (p.1 / 1024) r) (hk : Kok p r i step k) (hk2 : k ≤ p.2 / 1024 + r) : ¬ V3 (cellOf p) r i k i k := by
  unfold V3 rg absI cellOf
  unfold loI at _hlo
  unfold hiI at _hhi
  unfold Kok at hk
  dsimp only at *
  omega
theorem v3_step {p : Int × Int} {r : Nat} {i step k : Int} (hlo : loI (p.1 / 1024) r ≤ i) (hhi : i ≤ hiI (p.1 / 1024) r) (hk : Kok p r i step k) (hk2 : k ≤ p.2 / 1024 + r) : ∀ a b, inG (a, b) → (V3 (cellOf p) r i (k + step) a b ↔ V3 (cellOf p) r i k a b ∨ (a = i ∧ b = k)) := by
  intro a b hg
  unfold V3 rg absI cellOf
  unfold loI at hlo
  unfold hiI at hhi
  unfold Kok at hk
  unfold inG at hg
  dsimp only at *
  omega
theorem v3_skip {p : Int × Int} {r : Nat} {i step k : Int} (hlo : loI (p.1 / 1024) r ≤ i) (hhi : i ≤ hiI (p.1 / 1024) r) (hk : Kok p r i step k) (hk2 : k ≤ p.2 / 1024 + r) (ho : ¬ (0 ≤ k ∧ k < 32)) : ∀ a b, inG (a, b) → (V3 (cellOf p) r i (k + step) a b ↔ V3 (cellOf p) r i k a b) := by
  intro a b hg
  rw [v3_step hlo hhi hk hk2 a b hg]
  unfold inG at hg
  dsimp only at hg
  constructor
  · rintro (h | ⟨h1, h2⟩)
    · exact h
    · omega
  · exact .inl
theorem kok_step {p : Int × Int} {r : Nat} {i step k : Int} (hk : Kok p r i step k) (hk2 : k ≤ p.2 / 1024 + r) : Kok p r i step (k + step) ∧ k < k + step := by
  unfold Kok at *
  omega
theorem row_true {p : Int × Int} {r : Nat} {i : Int} {a b : Nat} (h : pickB (pickB (decide (i = p.1 / 1024 - r)) (.c (.bool true)) (.s a) true (decide (i = p.1 / 1024 + r))) (.c (.bool true)) (.s b) true (decide ((r : Int) = 0)) = true) : i = p.1 / 1024 - r ∨ i = p.1 / 1024 + r ∨ r = 0 := by
  rw [pickB_or, pickB_or] at h
  simp only [Bool.or_eq_true, decide_eq_true_eq] at h
  omega
theorem row_false {p : Int × Int} {r : Nat} {i : Int} {a b : Nat} (h : pickB (pickB (decide (i = p.1 / 1024 - r)) (.c (.bool true)) (.s a) true (decide (i = p.1 / 1024 + r))) (.c (.bool true)) (.s b) true (decide ((r : Int) = 0)) = false) : i ≠ p.1 / 1024 - r ∧ i ≠ p.1 / 1024 + r ∧ 0 < r := by
  rw [pickB_or, pickB_or] at h
  simp only [Bool.or_eq_false_iff, decide_eq_false_iff_not] at h
  omega
theorem in_true {k : Int} {a : Nat} (h : pickB (decide (0 ≤ k)) (.s a) (.c (.bool false)) (decide (k < 32)) false = true) : 0 ≤ k ∧ k < 32 := by
  rw [pickB_and] at h
  simpa only [Bool.and_eq_true, decide_eq_true_eq] using h
theorem in_false {k : Int} {a : Nat} (h : pickB (decide (0 ≤ k)) (.s a) (.c (.bool false)) (decide (k < 32)) false = false) : ¬ (0 ≤ k ∧ k < 32) := by
  rw [pickB_and] at h
  simp only [Bool.and_eq_false_iff, decide_eq_false_iff_not] at h
  omega
theorem mget_of_mem {V : Type} {k : MKey} {v : V} {t : Nat} : ∀ {l : List (MKey × V × Nat)}, (l.map (·.1)).Nodup → (k, v, t) ∈ l → mget l k = some (v, t) := by
  intro l
  induction l with
  | nil => intro _ h; cases h
  | cons x r ih =>
    intro hn h
    simp only [List.map_cons, List.nodup_cons] at hn
    simp only [mget]
    rcases List.mem_cons.1 h with h | h
    · subst h; rw [if_pos rfl]
    · rw [if_neg, ih hn.2 h]
      intro e
      exact hn.1 (by rw [e]; exact List.mem_map.2 ⟨_, h, rfl⟩)
structure CellOk (g : G) (i k : Int) (il : IL) (ic : Nat) : Prop where
  tk : ∀ y ∈ il, y.2.2 < ic
  nt : (il.map (·.2.2)).Nodup
  nk : (il.map (·.1)).Nodup
  to : ∀ y ∈ il, ∃ e ∈ g.d, e.1 = y.1 ∧ e.2.1.1 / 1024 = i ∧ e.2.1.2 / 1024 = k
  fro : ∀ e ∈ g.d, e.2.1.1 / 1024 = i → e.2.1.2 / 1024 = k → ∃ y ∈ il, y.1 = e.1
theorem cell_case {g : G} (hg : GOk g) {i k : Int} (_h : (0 ≤ i ∧ i < 32) ∧ (0 ≤ k ∧ k < 32)) :
    (mget g.c (.a i k) = none ∧ ∀ e ∈ g.d, ¬ (e.2.1.1 / 1024 = i ∧ e.2.1.2 / 1024 = k)) ∨ ∃ v t il ic, mget g.c (.a i k) = some (v, t) ∧ g.f v = some (il, ic) ∧ CellOk g i k il ic := by
  cases hm : mget g.c (.a i k) with
  | none =>
    refine .inl ⟨rfl, fun e he ⟨h1, h2⟩ => ?_⟩
    have hk : cellK e.2.1 = .a i k := by unfold cellK; rw [h1, h2]
    have := hg.cn e.2.1 (hg.dv e he).2 (by rw [hk]; exact hm)
    have h3 := hg.ix e he
    rw [this] at h3
    cases h3
  | some y =>
    obtain ⟨v, t⟩ := y
    obtain ⟨q, k1, k2, k3, k4⟩ := hg.ck _ _ _ hm
    obtain ⟨z, hz⟩ := Option.isSome_iff_exists.1 k4
    obtain ⟨il, ic⟩ := z
    obtain ⟨t1, t2, t3, t4⟩ := hg.it _ _ _ hz
    have hq : i = q.1 / 1024 ∧ k = q.2 / 1024 := by
      unfold cellK at k2
      injection k2 with e1 e2
      exact ⟨e1, e2⟩
    have cell : ∀ e ∈ g.d, (e.2.1.1 / 1024 = i ∧ e.2.1.2 / 1024 = k) ↔ cellN e.2.1 = v := by
      intro e he
      rw [k3, cellN_iff (hg.dv e he).2 k1]
      unfold cellK
      rw [MKey.a.injEq, hq.1, hq.2]
    refine .inr ⟨v, t, il, ic, rfl, hz, ⟨t1, t2, t3, ?_, ?_⟩⟩
    · intro y hy
      obtain ⟨e, h1, h2, h3⟩ := (t4 y.1).1 (List.mem_map.2 ⟨y, hy, rfl⟩)
      exact ⟨e, h1, h2, (cell e h1).2 h3⟩
    · intro e he h1 h2
      obtain ⟨y, hy, h3⟩ := List.mem_map.1 ((t4 e.1).2 ⟨e, he, rfl, (cell e he).1 ⟨h1, h2⟩⟩)
      exact ⟨y, hy, h3⟩
theorem cell_split {g : G} (hg : GOk g) {i k : Int} (h : (0 ≤ i ∧ i < 32) ∧ (0 ≤ k ∧ k < 32)) {P : Prop}
    (h1 : mget g.c (.a i k) = none → (∀ e ∈ g.d, ¬ (e.2.1.1 / 1024 = i ∧ e.2.1.2 / 1024 = k)) → P)
    (h2 : ∀ v t il ic, mget g.c (.a i k) = some (v, t) → g.f v = some (il, ic) → CellOk g i k il ic → P) : P := by
  rcases cell_case hg h with ⟨a, b⟩ | ⟨v, t, il, ic, a, b, c⟩
  · exact h1 a b
  · exact h2 v t il ic a b c
theorem all_keys {g : G} (hg : GOk g) {i k : Int} {il : IL} {ic : Nat} (hc : CellOk g i k il ic) {seen : List Nat} {Q : MKey × Bool × Nat → Prop}
    (h : ∀ s b t (q : Int × Int) (u : Nat), (MKey.s s, b, t) ∈ il → t ∉ seen → (MKey.s s, q, u) ∈ g.d → mget g.d (.s s) = some (q, u) → q.1 / 1024 = i → q.2 / 1024 = k → Q (MKey.s s, b, t)) : ∀ y ∈ il, y.2.2 ∉ seen → Q y := by
  rintro ⟨ky, b, t⟩ hy hs
  obtain ⟨e, he, he1, he2, he3⟩ := hc.to _ hy
  obtain ⟨⟨s, hks⟩, _⟩ := hg.dv e he
  have hky : ky = .s s := he1.symm.trans hks
  subst hky
  obtain ⟨ke, q, u⟩ := e
  simp only at hks
  subst hks
  exact h s b t q u hy hs he (mget_of_mem hg.dk he) he2 he3
theorem nodup_tick {l : IL} (hn : (l.map (·.2.2)).Nodup) {a b : MKey × Bool × Nat} (ha : a ∈ l) (hb : b ∈ l) (e : a.2.2 = b.2.2) : a = b := by
  induction l with
  | nil => cases ha
  | cons z t ih =>
    simp only [List.map_cons, List.nodup_cons] at hn
    rcases List.mem_cons.1 ha with a1 | a1
    · rcases List.mem_cons.1 hb with b1 | b1
      · rw [a1, b1]
      · subst a1; exact (hn.1 (List.mem_map.2 ⟨b, b1, e.symm⟩)).elim
    · rcases List.mem_cons.1 hb with b1 | b1
      · subst b1; exact (hn.1 (List.mem_map.2 ⟨a, a1, e⟩)).elim
      · exact ih hn.2 a1 b1
theorem no_out {p : Bool} {n : Nat} {P : Prop} (h : pickB p (.s n) (.c (.bool false)) (!true) false = true) : P := by
  rw [pickB_and] at h
  cases p <;> cases h
theorem no_guard {k : Int} {a : Nat} {P : Prop} (hc : ¬ (0 ≤ k ∧ k < 32)) (h : pickB (decide (0 ≤ k)) (.s a) (.c (.bool false)) (decide (k < 32)) false = true) : P :=
  absurd (in_true h) hc
theorem out_false {k : Int} {a : Nat} (hc : ¬ (0 ≤ k ∧ k < 32)) : pickB (decide (0 ≤ k)) (.s a) (.c (.bool false)) (decide (k < 32)) false = false := by
  cases h : pickB (decide (0 ≤ k)) (.s a) (.c (.bool false)) (decide (k < 32)) false with
  | false => rfl
  | true => exact absurd (in_true h) hc
theorem f4_start {g : G} {p : Int × Int} {L : List Fnd} {v : Int → Int → Prop} (h : FI g p L v) (i k : Int) (il : IL) : F4 g p v i k il ⟨[], L⟩ := by
  refine ⟨h.1, fun f => ?_⟩
  rw [h.2 f]
  constructor
  · rintro ⟨e, h1, h2, h3⟩; exact ⟨e, h1, h2, .inl h3⟩
  · rintro ⟨e, h1, h2, h3 | ⟨_, y, _, _, h3⟩⟩
    · exact ⟨e, h1, h2, h3⟩
    · cases h3
theorem f4_done {g : G} {p : Int × Int} {L : List Fnd} {v v' : Int → Int → Prop} {i k : Int} {il : IL} {ic : Nat} {seen : List Nat} (hc : CellOk g i k il ic) (hg : GOk g) (h : F4 g p v i k il ⟨seen, L⟩) (ha : ∀ y ∈ il, y.2.2 ∈ seen)
    (e : ∀ a b, inG (a, b) → (v' a b ↔ v a b ∨ (a = i ∧ b = k))) : FI g p L v' := by
  refine ⟨h.1, fun f => ?_⟩
  rw [h.2 f]
  constructor
  · rintro ⟨x, h1, h2, h3⟩
    refine ⟨x, h1, h2, (e _ _ (on_cell (hg.dv x h1).2)).2 ?_⟩
    rcases h3 with h3 | ⟨h3, _⟩
    · exact .inl h3
    · exact .inr h3
  · rintro ⟨x, h1, h2, h3⟩
    refine ⟨x, h1, h2, ?_⟩
    rcases (e _ _ (on_cell (hg.dv x h1).2)).1 h3 with h3 | h3
    · exact .inl h3
    · obtain ⟨y, hy, h4⟩ := hc.fro x h1 h3.1 h3.2
      exact .inr ⟨h3, y, hy, h4, ha y hy⟩
theorem fi_none {g : G} {p : Int × Int} {L : List Fnd} {v v' : Int → Int → Prop} {i k : Int} (hg : GOk g) (h : FI g p L v) (hn : ∀ e ∈ g.d, ¬ (e.2.1.1 / 1024 = i ∧ e.2.1.2 / 1024 = k))
    (e : ∀ a b, inG (a, b) → (v' a b ↔ v a b ∨ (a = i ∧ b = k))) : FI g p L v' := by
  refine ⟨h.1, fun f => ?_⟩
  rw [h.2 f]
  constructor
  · rintro ⟨x, h1, h2, h3⟩
    exact ⟨x, h1, h2, (e _ _ (on_cell (hg.dv x h1).2)).2 (.inl h3)⟩
  · rintro ⟨x, h1, h2, h3⟩
    rcases (e _ _ (on_cell (hg.dv x h1).2)).1 h3 with h3 | h3
    · exact ⟨x, h1, h2, h3⟩
    · exact absurd h3 (hn x h1)
theorem f4_step {g : G} {p : Int × Int} {L : List Fnd} {v : Int → Int → Prop} {i k : Int} {il : IL} {ic : Nat} {seen : List Nat} (hc : CellOk g i k il ic) (hg : GOk g) (h : F4 g p v i k il ⟨seen, L⟩) (hv : ¬ v i k)
    {y : MKey × Bool × Nat} (hy : y ∈ il) (hs : y.2.2 ∉ seen) {e : DE} (he : e ∈ g.d) (hk : e.1 = y.1) (h1 : e.2.1.1 / 1024 = i) (h2 : e.2.1.2 / 1024 = k) : F4 g p v i k il ⟨seen ++ [y.2.2], L ++ [fndOf p e]⟩ := by
  refine ⟨nodup_app h.1 ?_, fun f => ?_⟩
  · intro hm
    obtain ⟨e', k1, k2, k3⟩ := (h.2 _).1 hm
    have := fnd_inj hg k1 he k2
    subst this
    rcases k3 with k3 | ⟨_, y', k4, k5, k6⟩
    · rw [h1, h2] at k3; exact hv k3
    · have := nodup_key hc.nk k4 hy (k5.trans hk)
      subst this
      exact hs k6
  · rw [List.mem_append, List.mem_singleton, h.2 f]
    constructor
    · rintro (⟨e', k1, k2, k3⟩ | rfl)
      · refine ⟨e', k1, k2, ?_⟩
        rcases k3 with k3 | ⟨k3, y', k4, k5, k6⟩
        · exact .inl k3
        · exact .inr ⟨k3, y', k4, k5, List.mem_append_left _ k6⟩
      · exact ⟨e, he, rfl, .inr ⟨⟨h1, h2⟩, y, hy, hk.symm, List.mem_append_right _ (List.mem_cons_self ..)⟩⟩
    · rintro ⟨e', k1, k2, k3⟩
      rcases k3 with k3 | ⟨k3, y', k4, k5, k6⟩
      · exact .inl ⟨e', k1, k2, .inl k3⟩
      · rcases List.mem_append.1 k6 with k6 | k6
        · exact .inl ⟨e', k1, k2, .inr ⟨k3, y', k4, k5, k6⟩⟩
        · rw [List.mem_singleton] at k6
          right
          have hnt := hc.nt
          have : y' = y := by
            have key : ∀ {l : IL}, (l.map (·.2.2)).Nodup → ∀ {a b : MKey × Bool × Nat}, a ∈ l → b ∈ l → a.2.2 = b.2.2 → a = b := by
              intro l
              induction l with
              | nil => intro _ a b ha; cases ha
              | cons z t ih =>
                intro hn a b ha hb e
                simp only [List.map_cons, List.nodup_cons] at hn
                rcases List.mem_cons.1 ha with a1 | a1
                · rcases List.mem_cons.1 hb with b1 | b1
                  · rw [a1, b1]
                  · subst a1; exact (hn.1 (List.mem_map.2 ⟨b, b1, e.symm⟩)).elim
                · rcases List.mem_cons.1 hb with b1 | b1
                  · subst b1; exact (hn.1 (List.mem_map.2 ⟨a, a1, e⟩)).elim
                  · exact ih hn.2 a1 b1 e
            exact key hnt k4 hy k6
          subst this
          have : e' = e := nodup_key hg.dk k1 he (k5.symm.trans hk.symm)
          rw [← k2, this]
theorem left_step {il : IL} {seen : List Nat} {y : MKey × Bool × Nat} (hy : y ∈ il) (hs : y.2.2 ∉ seen) : left il (seen ++ [y.2.2]) < left il seen := by
  unfold left
  have hm : ∀ z : MKey × Bool × Nat, memN (seen ++ [y.2.2]) z.2.2 = (memN seen z.2.2 || decide (z.2.2 = y.2.2)) := by
    intro z
    rw [Bool.eq_iff_iff, Bool.or_eq_true, memN_iff, memN_iff, decide_eq_true_eq, List.mem_append, List.mem_singleton]
  have hsub : (il.filter fun z => !memN (seen ++ [y.2.2]) z.2.2) = (il.filter fun z => !memN seen z.2.2).filter fun z => !decide (z.2.2 = y.2.2) := by
    rw [List.filter_filter]
    congr 1
    funext z
    rw [hm z]
    cases memN seen z.2.2 <;> cases decide (z.2.2 = y.2.2) <;> rfl
  rw [hsub]
  have hyl : y ∈ il.filter fun z => !memN seen z.2.2 := by
    refine List.mem_filter.2 ⟨hy, ?_⟩
    cases hb : memN seen y.2.2 with
    | false => rfl
    | true => exact absurd (memN_iff.1 hb) hs
  generalize (il.filter fun z => !memN seen z.2.2) = l at hyl
  refine Nat.lt_of_le_of_ne (List.length_filter_le _ _) ?_
  intro e
  have := List.length_filter_eq_length_iff.1 e y hyl
  simp at this
theorem f4_len {g : G} {p : Int × Int} {v : Int → Int → Prop} {i k : Int} {il : IL} {x : X4} (h : F4 g p v i k il x) : x.L.length ≤ g.d.length :=
  fi_len h.1 fun f hf => by obtain ⟨e, h1, h2, _⟩ := (h.2 f).1 hf; exact ⟨e, h1, h2⟩
theorem fi_len' {g : G} {p : Int × Int} {L : List Fnd} {v : Int → Int → Prop} (h : FI g p L v) : L.length ≤ g.d.length :=
  fi_len h.1 fun f hf => by obtain ⟨e, h1, h2, _⟩ := (h.2 f).1 hf; exact ⟨e, h1, h2⟩
/-- The elements of a list of answers. -/
def fnAt (L : List Fnd) (i : Nat) : SV := fnL (L.getD i ([], 0))
theorem sub_fn (k : Keep) (hp : List (Nat × HObj)) (n : Nat) (p : Fnd) : sub k hp (n + 3) (fnL p) (fnL p) := ⟨rfl, ⟨rfl, rfl⟩, trivial⟩
theorem sub_at (k : Keep) (hp : List (Nat × HObj)) (n : Nat) (L : List Fnd) {j m : Nat} (_ : j < m) : sub k hp (n + 3) (fnAt L j) (fnAt L j) := sub_fn k hp n _
theorem atL_fn {L : List Fnd} {j : Nat} (h : j < L.length) : atL fnL L j = fnAt L j := by
  unfold atL fnAt
  rw [List.getElem?_eq_getElem h, List.getD_eq_getElem?_getD, List.getElem?_eq_getElem h]
  rfl
theorem sub_to (k : Keep) (hp : List (Nat × HObj)) (n : Nat) (L : List Fnd) {j m : Nat} (h : j < m) (hm : m = L.length) : sub k hp (n + 3) (fnAt L j) (atL fnL L j) := by
  rw [atL_fn (by omega)]
  exact sub_fn k hp n _
theorem room1 : (1 : Nat) ≤ 9223372036854775807 := by decide
theorem room2 : 1 * 24 ≤ 140737488355328 := by decide
theorem roomA {n d : Nat} (h : n ≤ d) (hd : d ≤ 20000) : n + 1 ≤ 9223372036854775807 := by omega
theorem roomB {n d : Nat} (h : n ≤ d) (hd : d ≤ 20000) : (n + 1) * 24 ≤ 140737488355328 := by omega
theorem new_sub {k : Keep} {hp : List (Nat × HObj)} {f : Fnd} {h : Nat → SV} (hh : h 0 = fnL f) : ∀ j, j < 1 → sub k hp 20 (h j) (fnAt ([] ++ [f]) j) := by
  intro j hj
  have : j = 0 := by omega
  subst this
  rw [hh]
  exact sub_fn k hp 17 f
theorem app_sub {k : Keep} {hp : List (Nat × HObj)} {L : List Fnd} {f : Fnd} {h : Nat → SV} (hh : h 0 = fnL f) : ∀ j, j < L.length + 1 → sub k hp 20 (appE L.length (fnAt L) h j) (fnAt (L ++ [f]) j) := by
  intro j hj
  have e : appE L.length (fnAt L) h j = fnAt (L ++ [f]) j := by
    unfold appE fnAt
    rw [List.getD_eq_getElem?_getD, List.getD_eq_getElem?_getD]
    by_cases e : j < L.length
    · have hb : Nat.blt j L.length = true := by rw [Nat.blt_eq]; exact e
      rw [hb, cond_true, List.getElem?_append_left e]
    · have hb : Nat.blt j L.length = false := by
        cases h : Nat.blt j L.length with
        | false => rfl
        | true => exact absurd (by rw [Nat.blt_eq] at h; exact h) e
      have hj' : j = L.length := by omega
      subst hj'
      rw [hb, cond_false, Nat.sub_self, hh]
      simp
  rw [e]
  exact sub_fn k hp 17 _
theorem app_len {L : List Fnd} {f _f' : Fnd} : L.length + 1 + 1 = (L ++ [f]).length + 1 := by simp
theorem sq_nonneg' (a : Int) : 0 ≤ a * a := by
  rcases Int.le_total 0 a with h | h
  · exact Int.mul_nonneg h h
  · exact Int.mul_nonneg_of_nonpos_of_nonpos h h
theorem reach_bd {p : Int × Int} (hp : onB p = true) {r : Nat} (hr : r ≤ 31) : (1 ≤ reachP p r ∧ reachP p r ≤ 32768) := by
  have := onB_iff.1 hp
  unfold reachP reachV
  omega
theorem dist_bd (p q : Int × Int) : 0 ≤ distV p q ∧ distV p q ≤ 4294967296 := by
  unfold distV
  split
  · rename_i h
    have h1 := onB_iff.1 h.1
    have h2 := onB_iff.1 h.2
    have k1 := mul_bd (a := q.1 - p.1) (b := q.1 - p.1) (B := 32767) (by omega) (by omega) (by omega) (by omega)
    have k2 := mul_bd (a := q.2 - p.2) (b := q.2 - p.2) (B := 32767) (by omega) (by omega) (by omega) (by omega)
    have k3 := sq_nonneg' (q.1 - p.1)
    have k4 := sq_nonneg' (q.2 - p.2)
    unfold sqd
    omega
  · omega
theorem fi_dom {g : G} {p : Int × Int} {L : List Fnd} {v : Int → Int → Prop} (h : FI g p L v) : ∀ f ∈ L, domF f := by
  intro f hf
  obtain ⟨e, _, rfl, _⟩ := (h.2 f).1 hf
  exact dist_bd _ _
/-- How many answers are nearer than the reach. -/
def cntB (lim : Int) (L : List Fnd) : Nat := L.countP fun f => decide (f.2 < lim * lim)
theorem cntB_le (lim : Int) (L : List Fnd) : cntB lim L ≤ L.length := List.countP_le_length
theorem cntB_succ {lim : Int} {L : List Fnd} {j : Nat} (h : j < L.length) (hlt : (L.getD j ([], 0)).2 < lim * lim) : ((cntB lim (L.take (j + 1)) : Nat) : Int) = (cntB lim (L.take j) : Nat) + 1 := by
  unfold cntB
  rw [List.getD_eq_getElem?_getD, List.getElem?_eq_getElem h] at hlt
  rw [List.take_succ_eq_append_getElem h, List.countP_append]
  have : [L[j]].countP (fun f => decide (f.2 < lim * lim)) = 1 := by
    simp only [List.countP_singleton]
    rw [if_pos (by simpa using hlt)]
  rw [this]
  omega
theorem cntB_same {lim : Int} {L : List Fnd} {j : Nat} (h : j < L.length) (hlt : ¬ (L.getD j ([], 0)).2 < lim * lim) : ((cntB lim (L.take (j + 1)) : Nat) : Int) = (cntB lim (L.take j) : Nat) := by
  unfold cntB
  rw [List.getD_eq_getElem?_getD, List.getElem?_eq_getElem h] at hlt
  rw [List.take_succ_eq_append_getElem h, List.countP_append]
  have : [L[j]].countP (fun f => decide (f.2 < lim * lim)) = 0 := by
    simp only [List.countP_singleton]
    rw [if_neg (by simpa using hlt)]
  rw [this]
  omega
theorem stop_iff {g : G} (hg : GOk g) {p : Int × Int} {L : List Fnd} {r : Nat} {most n : Int} (hp : onB p = true) (hF : FI g p L (V0 (cellOf p) ((r : Int) + 1))) (hC : CI n (V0 (cellOf p) ((r : Int) + 1))) :
    stopR g p most r ↔ most ≤ ((cntB (reachP p r) L : Nat) : Int) ∨ n = 1024 := by
  unfold stopR nearN cntB
  rw [(hF.perm hg).countP_eq, hC.cells hp (by omega)]
theorem sort_cons {L0 : List Fnd} {f : Fnd} {Q : List Fnd → Prop} (h : ∀ a t, ((a :: t).Perm (f :: L0) ∧ (a :: t).Pairwise (fun x y => ltOf cmpF y x = false)) → Q (a :: t)) : ∀ y : List Fnd, (y.Perm (f :: L0) ∧ y.Pairwise (fun x y => ltOf cmpF y x = false)) → Q y := by
  intro y hy
  cases y with
  | nil => exact absurd hy.1.length_eq (by simp)
  | cons a t => exact h a t hy
theorem sort_nil {Q : List Fnd → Prop} (h : Q []) : ∀ y : List Fnd, (y.Perm [] ∧ y.Pairwise (fun x y => ltOf cmpF y x = false)) → Q y := by
  intro y hy
  have := hy.1.eq_nil
  subst this
  exact h
theorem stop_t {m c n : Int} {a : Nat} (h : pickB (decide (m ≤ c)) (.c (.bool true)) (.s a) true (decide (n = 1024)) = true) : m ≤ c ∨ n = 1024 := by
  rw [pickB_or] at h
  simpa only [Bool.or_eq_true, decide_eq_true_eq] using h
theorem stop_f {m c n : Int} {a : Nat} (h : pickB (decide (m ≤ c)) (.c (.bool true)) (.s a) true (decide (n = 1024)) = false) : ¬ (m ≤ c ∨ n = 1024) := by
  rw [pickB_or] at h
  simp only [Bool.or_eq_false_iff, decide_eq_false_iff_not] at h
  omega
theorem more_rings {g : G} {p : Int × Int} {most : Int} {r : Nat} (hp : onB p = true) (hr : r ≤ 31) (h : ¬ stopR g p most r) : r + 1 ≤ 31 := by
  by_cases e : r = 31
  · exact absurd (.inr (cells_all hp (by omega))) h
  · omega
theorem not_before {g : G} {p : Int × Int} {most : Int} {r : Nat} (h : ∀ r' : Nat, r' < r → ¬ stopR g p most r') (h2 : ¬ stopR g p most r) : ∀ r' : Nat, r' < r + 1 → ¬ stopR g p most r' := by
  intro r' hr'
  by_cases e : r' = r
  · rw [e]; exact h2
  · exact h r' (by omega)
theorem len0 : ([] : List Fnd).length < 4611686018427387904 := by decide
theorem res_sub {k : Keep} {hp : List (Nat × HObj)} {l : List (Nat × Nat)} {S : List Fnd} {m i n : Nat} (h : i < (S.take m).length) : sub k hp (n + 3) (rnS l (atL fnL S (0 + i))) (fnAt (S.take m) i) := by
  rw [List.length_take] at h
  have e : fnAt (S.take m) i = fnAt S i := by
    unfold fnAt
    rw [List.getD_eq_getElem?_getD, List.getD_eq_getElem?_getD, List.getElem?_take_of_lt (by omega)]
  rw [e, Nat.zero_add, atL_fn (by omega)]
  exact sub_fn k hp n _
theorem near_post {g : G} (hg : GOk g) {p : Int × Int} {most : Int} {r : Nat} {L S : List Fnd} (hv : onB p = true ∧ 1 ≤ most ∧ most ≤ 8) (hr : r ≤ 31) (hns : ∀ r' : Nat, r' < r → ¬ stopR g p most r') (hs : stopR g p most r)
    (hF : FI g p L (V0 (cellOf p) ((r : Int) + 1))) (hp : S.Perm L ∧ S.Pairwise (fun x y => ltOf cmpF y x = false)) : nearP g p most (S.take most.toNat, cellsN p r, 0) := by
  unfold nearP
  rw [if_pos hv]
  exact ⟨⟨r, S, hr, hns, hs, hp.1.trans (hF.perm hg), hp.2.imp fun h => (cmp_bef _ _).symm.trans h, rfl⟩⟩
theorem min_len {most : Int} {L0 S : List Fnd} {f : Fnd} (hm : 1 ≤ most) (h : S.Perm (f :: L0)) : (min most ((L0.length + 1 : Nat) : Int)).toNat = (S.take most.toNat).length := by
  rw [List.length_take, h.length_eq, List.length_cons]
  omega
theorem min_le {most : Int} {L0 t : List Fnd} {f a : Fnd} (h : (a :: t).Perm (f :: L0)) : 0 + (min most ((L0.length + 1 : Nat) : Int)).toNat ≤ t.length + 1 := by
  have := h.length_eq
  simp only [List.length_cons] at this
  omega
end R10b
