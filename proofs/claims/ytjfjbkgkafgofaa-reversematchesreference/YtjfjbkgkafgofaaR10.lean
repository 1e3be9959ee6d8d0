/- A part of the proof: see the last text. -/
import Derived.Test.YtjfjbkgkafgofaaR9
open Go Go.Eng Go.Proofs R2 R3 R4 R1 R5 R6 R7 R8 R9
set_option maxRecDepth 100000
namespace R10
/-- gazetteer/reverse.ring -/
def g29 : List Nat := [0, 1, 2, 3, 4]
def c29 : SCode :=
  .seq (.region g29 [⟨some 2, none, .box 65 (.s 0), []⟩, ⟨some 3, none, .box 3 (.s 1), []⟩, ⟨some 4, none, .move (.c (.nilfn)), []⟩]) (.seq (.region g29 [⟨some 5, none, .mkfn 43 [.s 2, .s 3], []⟩, ⟨some 4, none, .move (.s 5), []⟩]) .ret)
def r29 : List SRes := [.slot 4]
def k29 : List (Nat × Nat × SCode × Nat) := []
theorem e29 : cFunc Try.prog 29 g29 [] [] k29 = some (c29, r29, 6) := by kernel_rfl
theorem q29 : RgOk Try.prog k29 := RgOk.nil
def ringS : Eng.Spec where
  X := (Int × Int) × Int
  args := fun x => .cons (ptE x.1) (.cons (.int .i64 x.2) .nil)
  pre := fun _ => True
  res := fun x => .fn 43 (.cons (.cptr (ptL x.1)) (.cons (.cptr (.cons (.int .i64 x.2) .nil)) .nil))
  inst := fun
    | .cons a (.cons (.int _ c) .nil) => match ptD a with
      | some p => some (p, c)
      | _ => none
    | _ => none
theorem ringS_ok : ringS.Ok Try.prog 29 := by
  refine Eng.Spec.ok_of e29 q29 (fun _ => []) (fun _ _ => TabOk.nil) ?_
  intro (x : (Int × Int) × Int) _
  refine ⟨trivial, ?_⟩
  repeat' (first | exact trivial | refine And.intro ?_ ?_ | exact rfl)

/-! ### Which cells have been searched -/
def absI (a : Int) : Int := max a (0 - a)
def rg (c : Int × Int) (a b : Int) : Int := max (absI (a - c.1)) (absI (b - c.2))
def cellOf (p : Int × Int) : Int × Int := (p.1 / 1024, p.2 / 1024)
def V0 (c : Int × Int) (r : Int) : Int → Int → Prop := fun a b => rg c a b < r
def V2 (c : Int × Int) (r i : Int) : Int → Int → Prop := fun a b => rg c a b < r ∨ (rg c a b = r ∧ a < i)
def V3 (c : Int × Int) (r i k : Int) : Int → Int → Prop := fun a b => rg c a b < r ∨ (rg c a b = r ∧ (a < i ∨ (a = i ∧ b < k)))
def inG (q : Int × Int) : Prop := (0 ≤ q.1 ∧ q.1 < 32) ∧ (0 ≤ q.2 ∧ q.2 < 32)
/-- How many cells have been searched. -/
def CI (n : Int) (v : Int → Int → Prop) : Prop := ∃ C : List (Int × Int), (C.length : Int) = n ∧ C.Nodup ∧ ∀ q, q ∈ C ↔ inG q ∧ v q.1 q.2
theorem CI.congr {n : Int} {v v' : Int → Int → Prop} (h : CI n v) (e : ∀ a b, inG (a, b) → (v' a b ↔ v a b)) : CI n v' := by
  obtain ⟨C, h1, h2, h3⟩ := h
  refine ⟨C, h1, h2, fun q => ?_⟩
  rw [h3 q]
  constructor
  · rintro ⟨g, k⟩; exact ⟨g, (e _ _ g).2 k⟩
  · rintro ⟨g, k⟩; exact ⟨g, (e _ _ g).1 k⟩
theorem CI.add {n : Int} {v v' : Int → Int → Prop} {i k : Int} (h : CI n v) (hg : inG (i, k)) (hn : ¬ v i k) (e : ∀ a b, inG (a, b) → (v' a b ↔ v a b ∨ (a = i ∧ b = k))) : CI (n + 1) v' := by
  obtain ⟨C, h1, h2, h3⟩ := h
  refine ⟨C ++ [(i, k)], by simp [h1], ?_, fun q => ?_⟩
  · exact nodup_app h2 (fun hm => hn ((h3 _).1 hm).2)
  · rw [List.mem_append, h3 q, List.mem_singleton]
    constructor
    · rintro (⟨g, hv⟩ | rfl)
      · exact ⟨g, (e _ _ g).2 (.inl hv)⟩
      · exact ⟨hg, (e _ _ hg).2 (.inr ⟨rfl, rfl⟩)⟩
    · rintro ⟨g, hv⟩
      rcases (e _ _ g).1 hv with hv | ⟨h5, h6⟩
      · exact .inl ⟨g, hv⟩
      · exact .inr (Prod.ext h5 h6)
theorem len_le {α : Type} [BEq α] [LawfulBEq α] : ∀ {l m : List α}, l.Nodup → (∀ x ∈ l, x ∈ m) → l.length ≤ m.length := by
  intro l
  induction l with
  | nil => intro m _ _; exact Nat.zero_le _
  | cons a t ih =>
    intro m hn hs
    have ha := hs a (List.mem_cons_self ..)
    have hn' := List.nodup_cons.1 hn
    have := ih (m := m.erase a) hn'.2 (fun x hx => by
      refine (List.mem_erase_of_ne ?_).2 (hs x (List.mem_cons_of_mem _ hx))
      rintro rfl
      exact hn'.1 hx)
    rw [List.length_erase_of_mem ha] at this
    have : 0 < m.length := List.length_pos_of_mem ha
    simp only [List.length_cons]
    omega
/-- The numbers from lo on. -/
def runI (lo : Int) (n : Nat) : List Int := (List.range n).map fun (j : Nat) => lo + (j : Int)
theorem runI_mem {lo : Int} {n : Nat} {x : Int} : x ∈ runI lo n ↔ lo ≤ x ∧ x < lo + n := by
  unfold runI
  rw [List.mem_map]
  constructor
  · rintro ⟨j, hj, rfl⟩
    have := List.mem_range.1 hj
    omega
  · rintro ⟨h1, h2⟩
    exact ⟨(x - lo).toNat, List.mem_range.2 (by omega), by omega⟩
theorem nodup_map {α β : Type} {f : α → β} (hf : ∀ a b, f a = f b → a = b) {l : List α} (h : l.Nodup) : (l.map f).Nodup := by
  unfold List.Nodup at *
  rw [List.pairwise_map]
  exact h.imp fun hne e => hne (hf _ _ e)
theorem runI_nodup (lo : Int) (n : Nat) : (runI lo n).Nodup := nodup_map (fun (a b : Nat) (e : lo + (a : Int) = lo + (b : Int)) => by omega) List.nodup_range
theorem runI_len (lo : Int) (n : Nat) : (runI lo n).length = n := by simp [runI]
theorem sum_const {α : Type} (m : Nat) : ∀ l : List α, (l.map fun _ => m).sum = l.length * m := by
  intro l
  induction l with
  | nil => simp
  | cons a t ih => rw [List.map_cons, List.sum_cons, ih, List.length_cons, Nat.add_mul, Nat.one_mul, Nat.add_comm]
def boxL (lo1 lo2 : Int) (n m : Nat) : List (Int × Int) := (runI lo1 n).flatMap fun a => (runI lo2 m).map fun b => (a, b)
theorem boxL_mem {lo1 lo2 : Int} {n m : Nat} {q : Int × Int} : q ∈ boxL lo1 lo2 n m ↔ (lo1 ≤ q.1 ∧ q.1 < lo1 + n) ∧ (lo2 ≤ q.2 ∧ q.2 < lo2 + m) := by
  unfold boxL
  rw [List.mem_flatMap]
  constructor
  · rintro ⟨a, h1, h2⟩
    obtain ⟨b, h3, rfl⟩ := List.mem_map.1 h2
    exact ⟨runI_mem.1 h1, runI_mem.1 h3⟩
  · rintro ⟨h1, h2⟩
    exact ⟨q.1, runI_mem.2 h1, List.mem_map.2 ⟨q.2, runI_mem.2 h2, rfl⟩⟩
theorem boxL_len (lo1 lo2 : Int) (n m : Nat) : (boxL lo1 lo2 n m).length = n * m := by
  unfold boxL
  rw [List.length_flatMap]
  have : ((runI lo1 n).map fun a => ((runI lo2 m).map fun b => (a, b)).length) = (runI lo1 n).map fun _ => m := by
    congr 1
    funext a
    rw [List.length_map, runI_len]
  rw [this, sum_const, runI_len]
theorem boxL_nodup (lo1 lo2 : Int) (n m : Nat) : (boxL lo1 lo2 n m).Nodup := by
  unfold boxL
  generalize hl : runI lo1 n = l
  have hn : l.Nodup := by rw [← hl]; exact runI_nodup _ _
  clear hl
  induction l with
  | nil => exact List.nodup_nil
  | cons a t ih =>
    have hn' := List.nodup_cons.1 hn
    rw [List.flatMap_cons, List.nodup_append]
    refine ⟨nodup_map (fun x y e => by injection e) (runI_nodup _ _), ih hn'.2, ?_⟩
    intro x hx y hy e
    subst e
    obtain ⟨b, _, rfl⟩ := List.mem_map.1 hx
    obtain ⟨a', h1, h2⟩ := List.mem_flatMap.1 hy
    obtain ⟨b', _, h3⟩ := List.mem_map.1 h2
    injection h3 with h3 _
    subst h3
    exact hn'.1 h1
theorem CI.le {n : Int} {v : Int → Int → Prop} (h : CI n v) : 0 ≤ n ∧ n ≤ 1024 := by
  obtain ⟨C, h1, h2, h3⟩ := h
  have := len_le (m := boxL 0 0 32 32) h2 (fun q hq => by
    have := (h3 q).1 hq
    exact boxL_mem.2 ⟨⟨this.1.1.1, by have := this.1.1.2; omega⟩, ⟨this.1.2.1, by have := this.1.2.2; omega⟩⟩)
  rw [boxL_len] at this
  omega
/-- How many cells from 0 to 31 are at most r away in one direction. -/
def cw (x r : Int) : Int := min 31 (x + r) - max 0 (x - r) + 1
def cellsN (p : Int × Int) (r : Int) : Int := cw (p.1 / 1024) r * cw (p.2 / 1024) r
theorem CI.cells {n r : Int} {p : Int × Int} (hp : onB p = true) (hr : 0 ≤ r) (h : CI n (V0 (cellOf p) (r + 1))) : n = cellsN p r := by
  obtain ⟨C, h1, h2, h3⟩ := h
  have hc := on_cell hp
  unfold cellsN
  have k1 : 0 ≤ cw (p.1 / 1024) r := by unfold cw; omega
  have k2 : 0 ≤ cw (p.2 / 1024) r := by unfold cw; omega
  have hperm : C.Perm (boxL (max 0 (p.1 / 1024 - r)) (max 0 (p.2 / 1024 - r)) (cw (p.1 / 1024) r).toNat (cw (p.2 / 1024) r).toNat) := by
    rw [List.perm_ext_iff_of_nodup h2 (boxL_nodup _ _ _ _)]
    intro q
    rw [h3 q, boxL_mem]
    unfold V0 rg absI inG cellOf
    unfold cw at *
    dsimp only
    omega
  have := hperm.length_eq
  rw [boxL_len] at this
  rw [← h1, this, Int.natCast_mul, Int.toNat_of_nonneg k1, Int.toNat_of_nonneg k2]
theorem CI.zero (c : Int × Int) : CI 0 (V0 c 0) := ⟨[], rfl, List.nodup_nil, fun q => by unfold V0 rg absI; constructor; (intro h; cases h); (rintro ⟨_, h⟩; omega)⟩
/-- All cells are searched when all rings are. -/
theorem cells_all {p : Int × Int} (hp : onB p = true) {r : Int} (hr : 31 ≤ r) : cellsN p r = 1024 := by
  have hc := on_cell hp
  have e1 : cw (p.1 / 1024) r = 32 := by unfold cw; omega
  have e2 : cw (p.2 / 1024) r = 32 := by unfold cw; omega
  unfold cellsN
  rw [e1, e2]
  rfl

/-! ### What has been found -/
abbrev DE := MKey × (Int × Int) × Nat
def keyS : MKey → List UInt8
  | .s b => b
  | _ => []
def fndOf (p : Int × Int) (x : DE) : Fnd := (keyS x.1, distV x.2.1 p)
def FI (g : G) (p : Int × Int) (L : List Fnd) (v : Int → Int → Prop) : Prop := L.Nodup ∧ ∀ f, f ∈ L ↔ ∃ x ∈ g.d, fndOf p x = f ∧ v (x.2.1.1 / 1024) (x.2.1.2 / 1024)
theorem FI.congr {g : G} {p : Int × Int} {L : List Fnd} {v v' : Int → Int → Prop} (hg : GOk g) (h : FI g p L v) (e : ∀ a b, inG (a, b) → (v' a b ↔ v a b)) : FI g p L v' := by
  refine ⟨h.1, fun f => ?_⟩
  rw [h.2 f]
  constructor
  · rintro ⟨x, h1, h2, h3⟩
    exact ⟨x, h1, h2, (e _ _ (on_cell (hg.dv x h1).2)).2 h3⟩
  · rintro ⟨x, h1, h2, h3⟩
    exact ⟨x, h1, h2, (e _ _ (on_cell (hg.dv x h1).2)).1 h3⟩
theorem fnd_inj {g : G} (hg : GOk g) {p : Int × Int} {x y : DE} (hx : x ∈ g.d) (hy : y ∈ g.d) (e : fndOf p x = fndOf p y) : x = y := by
  obtain ⟨s, hs⟩ := (hg.dv x hx).1
  obtain ⟨t, ht⟩ := (hg.dv y hy).1
  refine nodup_key hg.dk hx hy ?_
  unfold fndOf at e
  rw [hs, ht] at e
  injection e with e _
  rw [hs, ht, show s = t from e]
instance (c : Int × Int) (r a b : Int) : Decidable (V0 c r a b) := inferInstanceAs (Decidable (_ < _))
/-- The addresses in the rings below r, with their distances. -/
def inR (g : G) (p : Int × Int) (r : Int) : List Fnd := (g.d.filter fun x => decide (V0 (cellOf p) r (x.2.1.1 / 1024) (x.2.1.2 / 1024))).map (fndOf p)
theorem nodup_filter {α : Type} {f : α → Bool} {l : List α} (h : l.Nodup) : (l.filter f).Nodup := h.sublist List.filter_sublist
theorem nodup_map_on {α β : Type} {f : α → β} {l : List α} (hf : ∀ a ∈ l, ∀ b ∈ l, f a = f b → a = b) (h : l.Nodup) : (l.map f).Nodup := by
  induction l with
  | nil => exact List.nodup_nil
  | cons a t ih =>
    have hn := List.nodup_cons.1 h
    rw [List.map_cons, List.nodup_cons]
    refine ⟨?_, ih (fun x hx y hy => hf x (List.mem_cons_of_mem _ hx) y (List.mem_cons_of_mem _ hy)) hn.2⟩
    intro hm
    obtain ⟨b, hb, e⟩ := List.mem_map.1 hm
    have := hf b (List.mem_cons_of_mem _ hb) a (List.mem_cons_self ..) e
    subst this
    exact hn.1 hb
theorem d_nodup {g : G} (hg : GOk g) : g.d.Nodup := by
  have := hg.dk
  unfold List.Nodup at *
  rw [List.pairwise_map] at this
  exact this.imp fun hne e => hne (by rw [e])
theorem inR_nodup {g : G} (hg : GOk g) (p : Int × Int) (r : Int) : (inR g p r).Nodup := by
  unfold inR
  refine nodup_map_on ?_ (nodup_filter (d_nodup hg))
  intro x hx y hy e
  exact fnd_inj hg (List.mem_filter.1 hx).1 (List.mem_filter.1 hy).1 e
theorem FI.perm {g : G} (hg : GOk g) {p : Int × Int} {L : List Fnd} {r : Int} (h : FI g p L (V0 (cellOf p) r)) : L.Perm (inR g p r) := by
  rw [List.perm_ext_iff_of_nodup h.1 (inR_nodup hg p r)]
  intro f
  rw [h.2 f]
  unfold inR
  rw [List.mem_map]
  constructor
  · rintro ⟨x, h1, h2, h3⟩
    exact ⟨x, List.mem_filter.2 ⟨h1, decide_eq_true h3⟩, h2⟩
  · rintro ⟨x, h1, h2⟩
    have := List.mem_filter.1 h1
    exact ⟨x, this.1, h2, of_decide_eq_true this.2⟩
theorem FI.zero (g : G) (p : Int × Int) : FI g p [] (V0 (cellOf p) 0) :=
  ⟨List.nodup_nil, fun f => by constructor; (intro h; cases h); (rintro ⟨x, _, _, h⟩; unfold V0 rg absI at h; omega)⟩
/-- How many of those in the rings below r are nearer than the reach. -/
def nearN (g : G) (p : Int × Int) (r : Int) : Nat := (inR g p (r + 1)).countP fun f => decide (f.2 < reachP p r * reachP p r)
/-- Is the search at its end behind ring r? -/
def stopR (g : G) (p : Int × Int) (most : Int) (r : Int) : Prop := most ≤ (nearN g p r : Int) ∨ cellsN p r = 1024
structure NearOk (g : G) (p : Int × Int) (most : Int) (y : List Fnd × Int × Int) : Prop where
  ex : ∃ (r : Nat) (S : List Fnd), r ≤ 31 ∧ (∀ r' : Nat, r' < r → ¬ stopR g p most r') ∧ stopR g p most r ∧ S.Perm (inR g p (r + 1)) ∧ S.Pairwise (fun a b => befB b a = false) ∧ y = (S.take most.toNat, cellsN p r, 0)
def nearP (g : G) (p : Int × Int) (most : Int) (y : List Fnd × Int × Int) : Prop :=
  if onB p = true ∧ 1 ≤ most ∧ most ≤ 8 then NearOk g p most y else y = ([], 0, 1)
end R10
