/- A part of the proof: see the last text. -/
import Derived.Test.YtjfjbkgkafgofaaR14
open Go Go.Eng Go.Proofs R2 R3 R4 R1 R5 R6 R7 R8 R9 R10 R10b R12 R13 R14
set_option maxRecDepth 100000
namespace R15
/-! Plain laws: what the searches of both indexes answer. -/
abbrev En := List UInt8 × (Int × Int)
def fndE (p : Int × Int) (e : En) : Fnd := (e.1, distV e.2 p)
def DG (g : G) : List En := g.d.map fun x => (keyS x.1, x.2.1)
def DA (a : Adr) : En := (a.door, a.p)
def insF (f : Fnd) : List Fnd → List Fnd
  | [] => [f]
  | a :: t => if befB f a = true then f :: a :: t else a :: insF f t
def srt : List Fnd → List Fnd
  | [] => []
  | a :: t => insF a (srt t)
abbrev Srt (S : List Fnd) : Prop := S.Pairwise (fun a b => befB b a = false)
theorem insF_perm (f : Fnd) : ∀ l, (insF f l).Perm (f :: l) := by
  intro l
  induction l with
  | nil => exact List.Perm.refl _
  | cons a t ih =>
    unfold insF
    split
    · exact List.Perm.refl _
    · exact (List.Perm.cons a ih).trans (List.Perm.swap f a t)
theorem srt_perm : ∀ l, (srt l).Perm l := by
  intro l
  induction l with
  | nil => exact List.Perm.refl _
  | cons a t ih => exact (insF_perm a _).trans (List.Perm.cons a ih)
theorem insF_srt {f : Fnd} : ∀ {l}, Srt l → Srt (insF f l) := by
  intro l
  induction l with
  | nil => intro _; exact List.pairwise_singleton _ _
  | cons a t ih =>
    intro h
    have h' := List.pairwise_cons.1 h
    unfold insF
    split
    · rename_i hb
      refine List.pairwise_cons.2 ⟨fun b hb' => ?_, h⟩
      rcases List.mem_cons.1 hb' with rfl | hb'
      · exact bef_asymm hb
      · exact bef_ntrans (h'.1 b hb') (bef_asymm hb)
    · rename_i hb
      refine List.pairwise_cons.2 ⟨fun b hb' => ?_, ih h'.2⟩
      rcases List.mem_cons.1 ((insF_perm f t).mem_iff.1 hb') with rfl | hb'
      · exact Bool.eq_false_iff.2 hb
      · exact h'.1 b hb'
theorem srt_srt : ∀ l, Srt (srt l) := by
  intro l
  induction l with
  | nil => exact List.Pairwise.nil
  | cons a t ih => exact insF_srt ih
theorem srt_uniq {S T : List Fnd} (h1 : Srt S) (h2 : Srt T) (h : S.Perm T) : S = T :=
  List.Perm.eq_of_pairwise (fun _a _b _ _ ha hb => bef_conn hb ha) h1 h2 h
def allS (D : List En) (p : Int × Int) : List Fnd := srt (D.map (fndE p))
theorem allS_perm (D : List En) (p : Int × Int) : (allS D p).Perm (D.map (fndE p)) := srt_perm _
theorem allS_srt (D : List En) (p : Int × Int) : Srt (allS D p) := srt_srt _
theorem allS_len (D : List En) (p : Int × Int) : (allS D p).length = D.length := by rw [(allS_perm D p).length_eq, List.length_map]
theorem allS_of_perm {D D' : List En} {p : Int × Int} (h : D.Perm D') : allS D p = allS D' p :=
  srt_uniq (allS_srt _ _) (allS_srt _ _) ((allS_perm D p).trans ((h.map _).trans (allS_perm D' p).symm))
instance (S : List Fnd) (p : Int × Int) (most r : Int) : Decidable (stopL S p most r) := inferInstanceAs (Decidable (_ ∨ _))
/-- What a search answers: for the addresses D. -/
def NM (D : List En) (p : Int × Int) (most : Int) (y : List Fnd × Int × Int) : Prop :=
  if onB p = true ∧ 1 ≤ most ∧ most ≤ 8 then ∃ r : Nat, r ≤ 31 ∧ (∀ r' : Nat, r' < r → ¬ stopL (allS D p) p most r') ∧ stopL (allS D p) p most r ∧ y = ((allS D p).take most.toNat, cellsN p r, 0) else y = ([], 0, 1)
theorem NM.uniq {D : List En} {p : Int × Int} {most : Int} {y y' : List Fnd × Int × Int} (h : NM D p most y) (h' : NM D p most y') : y = y' := by
  unfold NM at h h'
  split at h
  · rename_i hv
    rw [if_pos hv] at h'
    obtain ⟨r, _, h1, h2, rfl⟩ := h
    obtain ⟨r', _, h1', h2', rfl⟩ := h'
    have : r = r' := by
      rcases Nat.lt_trichotomy r r' with h | h | h
      · exact absurd h2 (h1' r h)
      · exact h
      · exact absurd h2' (h1 r' h)
    rw [this]
  · rename_i hv
    rw [if_neg hv] at h'
    rw [h, h']
theorem NM.of_ref {l : List Adr} {p : Int × Int} {most : Int} {y : List Fnd × Int × Int} (h : rnearP l p most y) : NM (l.map DA) p most y := by
  unfold rnearP at h
  unfold NM
  split at h
  · rename_i hv
    rw [if_pos hv]
    obtain ⟨r, S, h1, h2, h3, h4, h5, rfl⟩ := h.ex
    have e2 : (l.map DA).map (fndE p) = l.map (fndA p) := by rw [List.map_map]; rfl
    have e : S = allS (l.map DA) p := srt_uniq h3 (allS_srt _ _) (h2.trans (by rw [← e2]; exact (allS_perm (l.map DA) p).symm))
    subst e
    exact ⟨r, h1, h4, h5, rfl⟩
  · rename_i hv
    rw [if_neg hv]
    exact h
/-! ### Rings -/
theorem cw_mono {x r s : Int} (_hr : 0 ≤ r) (h : r ≤ s) : cw x r ≤ cw x s := by unfold cw; omega
theorem cells_mono {p : Int × Int} (hp : onB p = true) {r s : Int} (hr : 0 ≤ r) (h : r ≤ s) : cellsN p r ≤ cellsN p s := by
  have hc := on_cell hp
  unfold cellsN
  have h1 := cw_mono (x := p.1 / 1024) hr h
  have h2 := cw_mono (x := p.2 / 1024) hr h
  have h3 : 0 ≤ cw (p.1 / 1024) r := by unfold cw; omega
  have h4 : 0 ≤ cw (p.2 / 1024) s := by unfold cw; omega
  exact Int.le_trans (Int.mul_le_mul_of_nonneg_left h2 h3) (Int.mul_le_mul_of_nonneg_right h1 h4)
/-- A ring that has a cell adds one. -/
theorem cells_strict {p : Int × Int} (hp : onB p = true) {r : Int} (hr : 0 ≤ r) {a b : Int} (hg : inG (a, b)) (h : rg (cellOf p) a b = r + 1) : cellsN p r < cellsN p (r + 1) := by
  have hc := on_cell hp
  unfold cellsN
  unfold inG at hg
  unfold rg absI cellOf at h
  dsimp only at hg h
  have h1 := cw_mono (x := p.1 / 1024) hr (show r ≤ r + 1 by omega)
  have h2 := cw_mono (x := p.2 / 1024) hr (show r ≤ r + 1 by omega)
  have h3 : 1 ≤ cw (p.1 / 1024) r := by unfold cw; omega
  have h4 : 1 ≤ cw (p.2 / 1024) r := by unfold cw; omega
  have h5 : cw (p.1 / 1024) r < cw (p.1 / 1024) (r + 1) ∨ cw (p.2 / 1024) r < cw (p.2 / 1024) (r + 1) := by unfold cw; omega
  generalize cw (p.1 / 1024) r = u at *
  generalize cw (p.2 / 1024) r = v at *
  generalize cw (p.1 / 1024) (r + 1) = u' at *
  generalize cw (p.2 / 1024) (r + 1) = v' at *
  rcases h5 with h5 | h5
  · have k1 : u * v ≤ u * v' := Int.mul_le_mul_of_nonneg_left h2 (by omega)
    have k2 : u * v' < u' * v' := Int.mul_lt_mul_of_pos_right h5 (by omega)
    omega
  · have k1 : u * v < u * v' := Int.mul_lt_mul_of_pos_left h5 (by omega)
    have k2 : u * v' ≤ u' * v' := Int.mul_le_mul_of_nonneg_right h1 (by omega)
    omega
theorem cells_full {p : Int × Int} (hp : onB p = true) {r : Nat} (hr : r ≤ 31) (h : cellsN p r = 1024) {a b : Int} (hg : inG (a, b)) : rg (cellOf p) a b ≤ r := by
  refine Classical.byContradiction fun hn => ?_
  have h1 := cw_bd hp hr
  unfold cellsN at h
  have hc := on_cell hp
  have h2 : cw (p.1 / 1024) r = 32 ∧ cw (p.2 / 1024) r = 32 := by
    generalize cw (p.1 / 1024) r = u at *
    generalize cw (p.2 / 1024) r = v at *
    have k1 : u * v ≤ 32 * v := Int.mul_le_mul_of_nonneg_right (by omega) (by omega)
    have k2 : u * v ≤ u * 32 := Int.mul_le_mul_of_nonneg_left (by omega) (by omega)
    omega
  unfold cw at h2
  unfold inG at hg
  unfold rg absI cellOf at hn
  dsimp only at hg hn
  omega
theorem sq_le {a b : Int} (h0 : 0 ≤ b) (h : b ≤ a ∨ a ≤ -b) : b * b ≤ a * a := by
  rcases h with h | h
  · exact Int.le_trans (Int.mul_le_mul_of_nonneg_left h h0) (Int.mul_le_mul_of_nonneg_right h (by omega))
  · have h1 : b ≤ -a := by omega
    have := Int.le_trans (Int.mul_le_mul_of_nonneg_left h1 h0) (Int.mul_le_mul_of_nonneg_right h1 (by omega : 0 ≤ -a))
    rwa [Int.neg_mul_neg] at this
/-- What is nearer than the reach is in the rings. -/
theorem near_ring {p q : Int × Int} (hp : onB p = true) (hq : onB q = true) {r : Nat} (hr : r ≤ 31) (h : distV q p < reachP p r * reachP p r) : rg (cellOf p) (q.1 / 1024) (q.2 / 1024) ≤ r := by
  refine Classical.byContradiction fun hn => ?_
  have hb := reach_bd hp hr
  have h1 := onB_iff.1 hp
  have h2 := onB_iff.1 hq
  unfold distV at h
  rw [if_pos ⟨hq, hp⟩] at h
  unfold sqd at h
  have k3 := sq_nonneg' (p.1 - q.1)
  have k4 := sq_nonneg' (p.2 - q.2)
  have far : (reachP p r ≤ p.1 - q.1 ∨ p.1 - q.1 ≤ -reachP p r) ∨ (reachP p r ≤ p.2 - q.2 ∨ p.2 - q.2 ≤ -reachP p r) := by
    unfold reachP reachV
    unfold rg absI cellOf at hn
    dsimp only at hn
    omega
  rcases far with far | far
  · have := sq_le (b := reachP p r) (by omega) far
    omega
  · have := sq_le (b := reachP p r) (by omega) far
    omega
/-! ### The first of a sorted list -/
theorem bef_away {a b : Fnd} (h : befB b a = false) : a.2 ≤ b.2 := by
  refine Classical.byContradiction fun hn => ?_
  have : befB b a = true := bef_iff.2 (.inl (by omega))
  rw [h] at this
  cases this
theorem filter_take {S : List Fnd} (h : Srt S) (lim : Int) : S.filter (fun f => decide (f.2 < lim)) = S.take (S.countP fun f => decide (f.2 < lim)) := by
  induction S with
  | nil => rfl
  | cons a t ih =>
    have h' := List.pairwise_cons.1 h
    by_cases ha : a.2 < lim
    · rw [List.filter_cons, List.countP_cons, if_pos (by simpa using ha), if_pos (by simpa using ha), List.take_succ_cons, ih h'.2]
    · have hz : t.countP (fun f => decide (f.2 < lim)) = 0 := by
        rw [List.countP_eq_zero]
        intro b hb
        have := bef_away (h'.1 b hb)
        simp only [decide_eq_true_eq]
        omega
      have hf : t.filter (fun f => decide (f.2 < lim)) = [] := by
        rw [ih h'.2, hz]
        rfl
      rw [List.filter_cons, List.countP_cons, if_neg (by simpa using ha), if_neg (by simpa using ha), hz, hf]
      rfl
theorem count_iff {S : List Fnd} (h : Srt S) {m : Nat} (hm : 0 < m) (lim : Int) : m ≤ S.countP (fun f => decide (f.2 < lim)) ↔ m ≤ S.length ∧ (S.getD (m - 1) ([], 0)).2 < lim := by
  have hl : S.countP (fun f => decide (f.2 < lim)) ≤ S.length := List.countP_le_length
  have e := filter_take h lim
  constructor
  · intro hc
    have hml : m - 1 < S.length := by omega
    refine ⟨by omega, ?_⟩
    have hin : S[m - 1] ∈ S.filter (fun f => decide (f.2 < lim)) := by
      rw [e]
      have : m - 1 < (S.take (S.countP fun f => decide (f.2 < lim))).length := by rw [List.length_take]; omega
      have h2 := List.getElem_mem this
      rwa [List.getElem_take] at h2
    rw [List.getD_eq_getElem?_getD, List.getElem?_eq_getElem hml]
    simpa using (List.mem_filter.1 hin).2
  · rintro ⟨h1, h2⟩
    refine Classical.byContradiction fun hc => ?_
    have hml : m - 1 < S.length := by omega
    rw [List.getD_eq_getElem?_getD, List.getElem?_eq_getElem hml] at h2
    have hin : S[m - 1] ∈ S.filter (fun f => decide (f.2 < lim)) := List.mem_filter.2 ⟨List.getElem_mem _, by simpa using h2⟩
    rw [e] at hin
    obtain ⟨j, hj, hje⟩ := List.getElem_of_mem hin
    rw [List.length_take] at hj
    rw [List.getElem_take] at hje
    -- all before are nearer, too
    have all : ∀ i, i < m → ∃ hi : i < S.length, (S[i]).2 < lim := by
      intro i hi
      have hil : i < S.length := by omega
      refine ⟨hil, ?_⟩
      by_cases ei : i = m - 1
      · subst ei; simpa using h2
      · have := bef_away (List.pairwise_iff_getElem.1 h i (m - 1) hil hml (by omega))
        have h2' : (S[m - 1]).2 < lim := by simpa using h2
        omega
    have : (S.take m).countP (fun f => decide (f.2 < lim)) = (S.take m).length := by
      rw [List.countP_eq_length]
      intro a ha
      obtain ⟨i, hi, rfl⟩ := List.getElem_of_mem ha
      rw [List.length_take] at hi
      rw [List.getElem_take]
      obtain ⟨_, h3⟩ := all i (by omega)
      simpa using h3
    have hle : (S.take m).countP (fun f => decide (f.2 < lim)) ≤ S.countP (fun f => decide (f.2 < lim)) := (List.take_sublist m S).countP_le
    rw [this, List.length_take] at hle
    omega
/-- Two sorted lists without repetition of which one has what the other has, where it is near. -/
theorem take_same {S T : List Fnd} (hS : Srt S) (hT : Srt T) (nS : S.Nodup) (nT : T.Nodup) {lim : Int} (h : ∀ f, f.2 < lim → (f ∈ S ↔ f ∈ T)) {m : Nat} (hm : m ≤ S.countP (fun f => decide (f.2 < lim))) : S.take m = T.take m ∧ S.countP (fun f => decide (f.2 < lim)) = T.countP (fun f => decide (f.2 < lim)) := by
  have e : S.filter (fun f => decide (f.2 < lim)) = T.filter (fun f => decide (f.2 < lim)) := by
    refine srt_uniq (hS.sublist List.filter_sublist) (hT.sublist List.filter_sublist) ?_
    rw [List.perm_ext_iff_of_nodup (nodup_filter nS) (nodup_filter nT)]
    intro f
    rw [List.mem_filter, List.mem_filter]
    constructor
    · rintro ⟨h1, h2⟩; exact ⟨(h f (by simpa using h2)).1 h1, h2⟩
    · rintro ⟨h1, h2⟩; exact ⟨(h f (by simpa using h2)).2 h1, h2⟩
  have ec : S.countP (fun f => decide (f.2 < lim)) = T.countP (fun f => decide (f.2 < lim)) := by
    rw [List.countP_eq_length_filter, List.countP_eq_length_filter, e]
  rw [filter_take hS, filter_take hT, ← ec] at e
  refine ⟨?_, ec⟩
  have := congrArg (List.take m) e
  rwa [List.take_take, List.take_take, Nat.min_eq_left hm] at this
theorem fnd_keys {D : List En} (h : (D.map (·.1)).Nodup) (p : Int × Int) : (D.map (fndE p)).Nodup := by
  unfold List.Nodup at *
  rw [List.pairwise_map] at *
  exact h.imp fun hne e => hne (congrArg (fun f : Fnd => f.1) e)
theorem DG_keys {g : G} (hg : GOk g) : ((DG g).map (·.1)).Nodup := by
  unfold DG
  rw [List.map_map]
  have h := hg.dk
  unfold List.Nodup at *
  rw [List.pairwise_map] at *
  refine List.Pairwise.imp_of_mem (fun {a b} ha hb hne => ?_) h
  intro e
  obtain ⟨s, hs⟩ := (hg.dv a ha).1
  obtain ⟨t, ht⟩ := (hg.dv b hb).1
  have e' : keyS a.1 = keyS b.1 := e
  rw [hs, ht] at e'
  exact hne (by rw [hs, ht, show s = t from e'])
theorem allS_nodup {D : List En} (h : (D.map (·.1)).Nodup) (p : Int × Int) : (allS D p).Nodup := (allS_perm D p).nodup_iff.2 (fnd_keys h p)
theorem allS_mem {D : List En} {p : Int × Int} {f : Fnd} : f ∈ allS D p ↔ ∃ e ∈ D, fndE p e = f := by
  rw [(allS_perm D p).mem_iff, List.mem_map]
theorem DG_on {g : G} (hg : GOk g) : ∀ e ∈ DG g, onB e.2 = true := by
  intro e he
  obtain ⟨x, hx, rfl⟩ := List.mem_map.1 he
  exact (hg.dv x hx).2
/-- The search by cells answers as that of all. -/
theorem NM.of_near {g : G} (hg : GOk g) {p : Int × Int} {most : Int} {y : List Fnd × Int × Int} (h : nearP g p most y) : NM (DG g) p most y := by
  unfold nearP at h
  unfold NM
  split at h
  · rename_i hv
    rw [if_pos hv]
    obtain ⟨r, S, h1, h2, h3, h4, h5, rfl⟩ := h.ex
    have hkeys := DG_keys hg
    have hS : Srt S := h5
    have nS : S.Nodup := h4.nodup_iff.2 (inR_nodup hg p _)
    have eD : (DG g).map (fndE p) = g.d.map (fndOf p) := by unfold DG; rw [List.map_map]; rfl
    -- in the rings, or at all
    have inr : ∀ (s : Nat) (f : Fnd), s ≤ 31 → f.2 < reachP p s * reachP p s → (f ∈ inR g p ((s : Int) + 1) ↔ f ∈ allS (DG g) p) := by
      intro s f hs hf
      rw [(allS_perm _ p).mem_iff, eD]
      unfold inR
      rw [List.mem_map, List.mem_map]
      constructor
      · rintro ⟨x, hx, hxf⟩
        exact ⟨x, (List.mem_filter.1 hx).1, hxf⟩
      · rintro ⟨x, hx, hxf⟩
        refine ⟨x, List.mem_filter.2 ⟨hx, decide_eq_true ?_⟩, hxf⟩
        have hd : distV x.2.1 p < reachP p s * reachP p s := by rw [← hxf] at hf; exact hf
        have := near_ring hv.1 (hg.dv x hx).2 hs hd
        unfold V0
        omega
    have cnt : ∀ s : Nat, s ≤ 31 → nearN g p s = (allS (DG g) p).countP fun f => decide (f.2 < reachP p s * reachP p s) := by
      intro s hs
      have := (take_same (S := srt (inR g p ((s : Int) + 1))) (T := allS (DG g) p) (srt_srt _) (allS_srt _ _) ((srt_perm _).nodup_iff.2 (inR_nodup hg p _)) (allS_nodup hkeys p) (lim := reachP p s * reachP p s)
        (fun f hf => by rw [(srt_perm _).mem_iff]; exact inr s f hs hf) (Nat.zero_le _)).2
      unfold nearN
      rw [← this, (srt_perm _).countP_eq]
    have stop : ∀ s : Nat, s ≤ 31 → (stopR g p most s ↔ stopL (allS (DG g) p) p most s) := by
      intro s hs
      unfold stopR stopL
      rw [cnt s hs]
      have := count_iff (allS_srt (DG g) p) (m := most.toNat) (by omega) (reachP p s * reachP p s)
      constructor
      · rintro (h | h)
        · have := this.1 (by omega)
          exact .inl ⟨by omega, this.2⟩
        · exact .inr h
      · rintro (h | h)
        · have := this.2 ⟨by omega, h.2⟩
          exact .inl (by omega)
        · exact .inr h
    refine ⟨r, h1, fun r' hr' => ?_, (stop r h1).1 h3, ?_⟩
    · exact fun hs => h2 r' hr' ((stop r' (by omega)).2 hs)
    · have ht : S.take most.toNat = (allS (DG g) p).take most.toNat := by
        rcases h3 with h3 | h3
        · have hc : nearN g p r = S.countP fun f => decide (f.2 < reachP p r * reachP p r) := by
            unfold nearN
            exact (h4.countP_eq _).symm
          exact (take_same hS (allS_srt _ _) nS (allS_nodup hkeys p) (lim := reachP p r * reachP p r) (fun f hf => by rw [h4.mem_iff]; exact inr r f h1 hf) (by omega)).1
        · have : S = allS (DG g) p := by
            refine srt_uniq hS (allS_srt _ _) (h4.trans ?_)
            refine List.Perm.trans ?_ (allS_perm _ p).symm
            rw [eD]
            unfold inR
            refine List.Perm.of_eq ?_
            congr 1
            refine List.filter_eq_self.2 fun x hx => decide_eq_true ?_
            have := cells_full hv.1 h1 h3 (on_cell (hg.dv x hx).2)
            unfold V0
            omega
          rw [this]
      rw [ht]
  · rename_i hv
    rw [if_neg hv]
    exact h
end R15
