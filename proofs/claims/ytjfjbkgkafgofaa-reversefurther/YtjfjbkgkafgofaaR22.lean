/- A part of the proof: see the last text. -/
import Derived.Test.YtjfjbkgkafgofaaR21
open Go Go.Eng Go.Proofs R2 R3 R4 R1 R5 R6 R7 R8 R9 R10 R10b R11 R12 R13 R14 R15 R16 R17 R18 R19 R20 R21
set_option maxRecDepth 100000
namespace R22
/-! Plain laws: a further address. -/
/-! ### Counting cells -/
def rowL (i k : Nat) : List (Nat × Nat) := (List.range k).map fun b => (i, b)
def cellL (i k : Nat) : List (Nat × Nat) := (List.range i).flatMap (fun a => rowL a 32) ++ rowL i k
theorem row_k (i k : Nat) : rowL i (k + 1) = rowL i k ++ [(i, k)] := by
  unfold rowL
  rw [List.range_succ, List.map_append]
  rfl
theorem cell_k (i k : Nat) : cellL i (k + 1) = cellL i k ++ [(i, k)] := by
  unfold cellL
  rw [row_k i k, List.append_assoc]
theorem cell_i (i : Nat) : cellL i 32 = cellL (i + 1) 0 := by
  unfold cellL
  rw [List.range_succ (n := i), List.flatMap_append, List.flatMap_singleton, List.append_assoc]
  congr 1
theorem mem_cellL {i k : Nat} {q : Nat × Nat} : q ∈ cellL i k ↔ (q.1 < i ∧ q.2 < 32) ∨ (q.1 = i ∧ q.2 < k) := by
  obtain ⟨a, b⟩ := q
  unfold cellL rowL
  simp only [List.mem_append, List.mem_flatMap, List.mem_map, List.mem_range, Prod.mk.injEq]
  constructor
  · rintro (⟨a', h1, b', h2, rfl, rfl⟩ | ⟨b', h2, rfl, rfl⟩)
    · exact .inl ⟨h1, h2⟩
    · exact .inr ⟨rfl, h2⟩
  · rintro (⟨h1, h2⟩ | ⟨h1, h2⟩)
    · exact .inl ⟨a, h1, b, h2, rfl, rfl⟩
    · exact .inr ⟨b, h2, h1.symm, rfl⟩
theorem nodup_row (i : Nat) : ∀ k, (cellL i 0).Nodup → (cellL i k).Nodup := by
  intro k h0
  induction k with
  | zero => exact h0
  | succ k ih =>
    rw [cell_k]
    refine List.nodup_append.2 ⟨ih, by simp, fun a ha b hb e => ?_⟩
    rw [List.mem_singleton] at hb
    subst e
    subst hb
    have := mem_cellL.1 ha
    dsimp only at this
    omega
theorem nodup_cellL : ∀ i, (cellL i 0).Nodup := by
  intro i
  induction i with
  | zero => exact List.nodup_nil
  | succ i ih =>
    rw [← cell_i]
    exact nodup_row i 32 ih
def inRing (p : Int × Int) (r : Int) (q : Nat × Nat) : Bool := decide (rg (cellOf p) (q.1 : Int) (q.2 : Int) < r)
def cntN (p : Int × Int) (r : Int) (i k : Nat) : Nat := (cellL i k).countP (inRing p r)
theorem cnt_0 (p : Int × Int) (r : Int) : cntN p r 0 0 = 0 := rfl
theorem cnt_t {p : Int × Int} {r : Int} {i k : Nat} (h : inRing p r (i, k) = true) : cntN p r i (k + 1) = cntN p r i k + 1 := by
  unfold cntN
  rw [cell_k, List.countP_append, List.countP_cons_of_pos h]
  rfl
theorem cnt_f {p : Int × Int} {r : Int} {i k : Nat} (h : inRing p r (i, k) = false) : cntN p r i (k + 1) = cntN p r i k := by
  unfold cntN
  rw [cell_k, List.countP_append, List.countP_cons_of_neg (by rw [h]; decide)]
  rfl
theorem cnt_i (p : Int × Int) (r : Int) (i : Nat) : cntN p r i 32 = cntN p r (i + 1) 0 := by unfold cntN; rw [cell_i]
theorem cell_len : ∀ i, (cellL i 0).length = 32 * i := by
  intro i
  induction i with
  | zero => rfl
  | succ i ih =>
    rw [← cell_i]
    unfold cellL rowL at *
    rw [List.length_append, List.length_map, List.length_range] at *
    omega
theorem cnt_le (p : Int × Int) (r : Int) {i k : Nat} (hi : i ≤ 32) (hk : k ≤ 32) : cntN p r i k ≤ 1056 := by
  unfold cntN
  have h := List.countP_le_length (p := inRing p r) (l := cellL i k)
  have h2 := cell_len i
  unfold cellL rowL at *
  rw [List.length_append, List.length_map, List.length_range] at *
  omega
theorem cnt_all {p : Int × Int} (hp : onB p = true) {r : Int} (hr : 0 ≤ r) : (cntN p (r + 1) 32 0 : Int) = cellsN p r := by
  refine CI.cells hp hr ⟨((cellL 32 0).filter (inRing p (r + 1))).map fun q => ((q.1 : Int), (q.2 : Int)), ?_, ?_, ?_⟩
  · rw [List.length_map]
    unfold cntN
    rw [List.countP_eq_length_filter]
  · unfold List.Nodup
    rw [List.pairwise_map]
    refine (nodup_filter (nodup_cellL 32)).imp fun hne e => hne ?_
    obtain ⟨e1, e2⟩ := Prod.mk.inj e
    exact Prod.ext (by omega) (by omega)
  · rintro ⟨a, b⟩
    rw [List.mem_map]
    constructor
    · rintro ⟨q, hq, e⟩
      obtain ⟨h1, h2⟩ := List.mem_filter.1 hq
      obtain ⟨e1, e2⟩ := Prod.mk.inj e
      subst e1
      subst e2
      have h3 := mem_cellL.1 h1
      refine ⟨?_, of_decide_eq_true h2⟩
      unfold inG
      dsimp only
      omega
    · rintro ⟨h1, h2⟩
      unfold inG at h1
      dsimp only at h1
      refine ⟨(a.toNat, b.toNat), List.mem_filter.2 ⟨mem_cellL.2 (.inl ⟨by dsimp only; omega, by dsimp only; omega⟩), decide_eq_true ?_⟩, by dsimp only; rw [Int.toNat_of_nonneg (by omega), Int.toNat_of_nonneg (by omega)]⟩
      dsimp only
      rw [Int.toNat_of_nonneg (by omega), Int.toNat_of_nonneg (by omega)]
      exact h2
/-! ### One more -/
section
variable {D : List En} {e : En} {p : Int × Int}
theorem more_perm : (allS (D ++ [e]) p).Perm (fndE p e :: allS D p) := by
  refine (allS_perm _ p).trans ?_
  rw [List.map_append]
  exact (List.perm_append_comm (l₁ := D.map (fndE p)) (l₂ := [fndE p e])).trans (List.Perm.cons _ (allS_perm D p).symm)
theorem more_len : (allS (D ++ [e]) p).length = (allS D p).length + 1 := by rw [more_perm.length_eq]; rfl
def notD (s : List UInt8) (f : Fnd) : Bool := !decide (f.1 = s)
theorem more_filter (he : ¬ e.1 ∈ D.map (·.1)) : (allS (D ++ [e]) p).filter (notD e.1) = allS D p := by
  refine srt_uniq ((allS_srt _ p).sublist List.filter_sublist) (allS_srt D p) ?_
  refine (more_perm.filter _).trans ?_
  rw [List.filter_cons_of_neg (by unfold notD fndE; simp)]
  refine List.Perm.of_eq (List.filter_eq_self.2 fun f hf => ?_)
  obtain ⟨e', he', rfl⟩ := allS_mem.1 hf
  unfold notD fndE
  simp only [Bool.not_eq_true', decide_eq_false_iff_not]
  exact fun h => he (List.mem_map.2 ⟨e', he', h⟩)
/-- The answers without the further one. -/
theorem rest_eq (he : ¬ e.1 ∈ D.map (·.1)) (m : Nat) : ∃ k, (((allS (D ++ [e]) p).take m).filter (notD e.1)) = (allS D p).take k ∧ k ≤ ((allS D p).take m).length ∧ ((allS D p).take m).length ≤ k + 1 := by
  have h1 : ((allS (D ++ [e]) p).take m).filter (notD e.1) <+: allS D p := by
    rw [← more_filter (p := p) he]
    exact (List.take_prefix m _).filter _
  have hlen := more_len (D := D) (e := e) (p := p)
  -- at most one is left out
  have h2 : (allS (D ++ [e]) p).countP (fun f => !notD e.1 f) = 1 := by
    rw [more_perm.countP_eq, List.countP_cons_of_pos (by unfold notD fndE; simp)]
    have : (allS D p).countP (fun f => !notD e.1 f) = 0 := by
      rw [List.countP_eq_zero]
      intro f hf
      obtain ⟨e', he', rfl⟩ := allS_mem.1 hf
      unfold notD fndE
      simp only [Bool.not_not, decide_eq_true_eq]
      exact fun h => he (List.mem_map.2 ⟨e', he', h⟩)
    rw [this]
  have h3 : ((allS (D ++ [e]) p).take m).countP (fun f => !notD e.1 f) ≤ 1 := by
    rw [← h2]
    exact (List.take_sublist m _).countP_le
  have h4 : ((allS (D ++ [e]) p).take m).length = (((allS (D ++ [e]) p).take m).filter (notD e.1)).length + ((allS (D ++ [e]) p).take m).countP (fun f => !notD e.1 f) := by
    rw [← List.countP_eq_length_filter]
    have := List.length_eq_countP_add_countP (notD e.1) (l := (allS (D ++ [e]) p).take m)
    simp only [Bool.not_eq_true] at this
    rw [this]
    congr 2
    funext f
    cases notD e.1 f <;> rfl
  refine ⟨(((allS (D ++ [e]) p).take m).filter (notD e.1)).length, List.prefix_iff_eq_take.1 h1, ?_, ?_⟩
  · have h5 := h1.length_le
    rw [List.length_take] at h4 ⊢
    rw [hlen] at h4
    by_cases hm : m ≤ (allS D p).length
    · omega
    · omega
  · rw [List.length_take] at h4 ⊢
    rw [hlen] at h4
    omega
theorem more_count (lim : Int) : (allS (D ++ [e]) p).countP (fun f => decide (f.2 < lim)) = (allS D p).countP (fun f => decide (f.2 < lim)) + (if (fndE p e).2 < lim then 1 else 0) := by
  rw [more_perm.countP_eq, List.countP_cons]
  simp only [decide_eq_true_eq]
theorem stop_count {S : List Fnd} (hS : Srt S) {most r : Int} (h1 : 1 ≤ most) : stopL S p most r ↔ most.toNat ≤ S.countP (fun f => decide (f.2 < reachP p r * reachP p r)) ∨ cellsN p r = 1024 := by
  unfold stopL
  rw [count_iff hS (m := most.toNat) (by omega)]
  constructor
  · rintro (⟨h2, h3⟩ | h)
    · exact .inl ⟨by omega, h3⟩
    · exact .inr h
  · rintro (⟨h2, h3⟩ | h)
    · exact .inl ⟨by omega, h3⟩
    · exact .inr h
/-- No more cells are searched. -/
theorem more_stop {most r : Int} (h1 : 1 ≤ most) (h : stopL (allS D p) p most r) : stopL (allS (D ++ [e]) p) p most r := by
  rw [stop_count (allS_srt _ p) h1] at *
  rw [more_count]
  rcases h with h | h
  · exact .inl (by omega)
  · exact .inr h
/-- Where the further one is not in the rings it is not near. -/
theorem far_of (hp : onB p = true) (he : onB e.2 = true) {r : Nat} (hr : r ≤ 31) (h : (r : Int) < rg (cellOf p) (e.2.1 / 1024) (e.2.2 / 1024)) : ¬ (fndE p e).2 < reachP p r * reachP p r := by
  intro hlt
  have := near_ring hp he hr hlt
  omega
theorem far_stop (hp : onB p = true) (he : onB e.2 = true) {most : Int} (h1 : 1 ≤ most) {r : Nat} (hr : r ≤ 31) (h : (r : Int) < rg (cellOf p) (e.2.1 / 1024) (e.2.2 / 1024)) : stopL (allS (D ++ [e]) p) p most r ↔ stopL (allS D p) p most r := by
  rw [stop_count (allS_srt _ p) h1, stop_count (allS_srt _ p) h1, more_count, if_neg (far_of hp he hr h), Nat.add_zero]
/-- Where it is in a cell that was not searched nothing changes. -/
theorem far_same (hp : onB p = true) (he : onB e.2 = true) (hk : ((D ++ [e]).map (·.1)).Nodup) {most : Int} (h1 : 1 ≤ most) {r r' : Nat} (hr : r ≤ 31) (hmin : ∀ s : Nat, s < r → ¬ stopL (allS D p) p most s) (hst : stopL (allS D p) p most r)
    (hmin' : ∀ s : Nat, s < r' → ¬ stopL (allS (D ++ [e]) p) p most s) (hst' : stopL (allS (D ++ [e]) p) p most r') (h : (r : Int) < rg (cellOf p) (e.2.1 / 1024) (e.2.2 / 1024)) : r' = r ∧ (allS (D ++ [e]) p).take most.toNat = (allS D p).take most.toNat := by
  have hrr : r' = r := by
    rcases Nat.lt_trichotomy r' r with h2 | h2 | h2
    · exact absurd ((far_stop hp he h1 (r := r') (by omega) (by omega)).1 hst') (hmin r' h2)
    · exact h2
    · exact absurd ((far_stop hp he h1 hr h).2 hst) (hmin' r h2)
  refine ⟨hrr, ?_⟩
  have hf := far_of hp he hr h
  have hc : most.toNat ≤ (allS D p).countP (fun f => decide (f.2 < reachP p r * reachP p r)) := by
    rcases (stop_count (allS_srt D p) h1).1 hst with h2 | h2
    · exact h2
    · have := cells_full hp hr h2 (on_cell he)
      omega
  have hkD : (D.map (·.1)).Nodup := by
    rw [List.map_append] at hk
    exact (List.nodup_append.1 hk).1
  exact (take_same (allS_srt D p) (allS_srt _ p) (allS_nodup hkD p) (allS_nodup hk p) (lim := reachP p r * reachP p r) (fun f hlt => by
    rw [more_perm.mem_iff, List.mem_cons]
    constructor
    · exact .inr
    · rintro (rfl | h2)
      · exact absurd hlt hf
      · exact h2) hc).1.symm
end
end R22
