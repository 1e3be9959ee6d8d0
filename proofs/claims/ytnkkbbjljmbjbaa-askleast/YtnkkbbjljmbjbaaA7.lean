/- A part of the proof: see the last text. -/
import Derived.Test.YtnkkbbjljmbjbaaA6
open Go Go.Eng Go.Proofs A0 A1 A2 A3 A4 A5 A6
set_option maxRecDepth 100000
namespace A7
/-! ### Plans -/
inductive Plan where
  | leaf (q c : Int) (n : Nat) (ans : Nat → List UInt8)
  | node (q c : Int) (n : Nat) (ans : Nat → List UInt8) (m : Nat) (next : Nat → Plan)
def dP : Plan := .leaf 0 0 0 fun _ => []
def Plan.q : Plan → Int
  | .leaf q _ _ _ => q
  | .node q _ _ _ _ _ => q
def Plan.c : Plan → Int
  | .leaf _ c _ _ => c
  | .node _ c _ _ _ _ => c
def Plan.n : Plan → Nat
  | .leaf _ _ n _ => n
  | .node _ _ n _ _ _ => n
def Plan.ans : Plan → Nat → List UInt8
  | .leaf _ _ _ a => a
  | .node _ _ _ a _ _ => a
def Plan.m : Plan → Nat
  | .leaf _ _ _ _ => 0
  | .node _ _ _ _ m _ => m
def Plan.kid : Plan → Nat → Plan
  | .leaf _ _ _ _ => fun _ => dP
  | .node _ _ _ _ _ f => f
def planC : Plan → SV
  | .leaf q c n ans => .cons (.int .i64 q) (.cons (.int .i64 c) (.cons (txE n ans) (.cons (.slice 4 0 fun _ => .nil) .nil)))
  | .node q c n ans m next => .cons (.int .i64 q) (.cons (.int .i64 c) (.cons (txE n ans) (.cons (.slice 4 m fun i => planC (next i)) .nil)))
/-- The cells of a plan, written out once. -/
def planT (p : Plan) : SV := .cons (.int .i64 p.q) (.cons (.int .i64 p.c) (.cons (txE p.n p.ans) (.cons (.slice 4 p.m fun i => planC (p.kid i)) .nil)))
/-- The cells of a plan, written out twice. -/
def planU (p : Plan) : SV := .cons (.int .i64 p.q) (.cons (.int .i64 p.c) (.cons (txE p.n p.ans) (.cons (.slice 4 p.m fun i => planT (p.kid i)) .nil)))
/-! What stands for what -/
theorem imp_trans {a b c : SV} (h1 : Imp a b) (h2 : Imp b c) : Imp a c := fun E E' vs hE h => h2 E' E' vs (Env.LeU.refl _) (h1 E E' vs hE h)
theorem imp_int (k : IntKind) (n : Int) : Imp (.int k n) (.int k n) := fun _ _ _ _ h => h
theorem imp_str (s : List UInt8) : Imp (.str s) (.str s) := fun _ _ _ _ h => h
theorem imp_nil : Imp .nil .nil := fun _ _ _ _ h => h
theorem imp_cons {a b c d : SV} (ha : Imp a c) (hb : Imp b d) : Imp (.cons a b) (.cons c d) := by
  intro E E' vs hE h
  simp only [R] at h ⊢
  obtain ⟨x, xs, rfl, h1, h2⟩ := h
  exact ⟨x, xs, rfl, ha E E' _ hE h1, hb E E' _ hE h2⟩
theorem imp_slice {sz n : Nat} {enc enc' : Nat → SV} (h : ∀ i, i < n → Imp (enc i) (enc' i)) : Imp (.slice sz n enc) (.slice sz n enc') := by
  intro E E' vs hE hr
  simp only [R] at hr ⊢
  obtain ⟨a, cap, h1, h2, h3⟩ := hr
  exact ⟨a, cap, h1, h2, fun i hi => (h3 i hi).mono hE (fun cs r => h i hi E E' cs hE r)⟩
theorem imp_tx (n : Nat) (s : Nat → List UInt8) : Imp (txE n s) (txE n s) := imp_slice fun _ _ => imp_cons (imp_str _) imp_nil
theorem imp_plan : ∀ p, Imp (planC p) (planC p) := by
  intro p
  induction p with
  | leaf q c n ans => exact imp_cons (imp_int _ _) (imp_cons (imp_int _ _) (imp_cons (imp_tx _ _) (imp_cons (imp_slice fun i hi => absurd hi (Nat.not_lt_zero i)) imp_nil)))
  | node q c n ans m next ih => exact imp_cons (imp_int _ _) (imp_cons (imp_int _ _) (imp_cons (imp_tx _ _) (imp_cons (imp_slice fun i _ => ih i) imp_nil)))
theorem imp_CT (p : Plan) : Imp (planC p) (planT p) := by
  cases p with
  | leaf q c n ans => exact imp_cons (imp_int _ _) (imp_cons (imp_int _ _) (imp_cons (imp_tx _ _) (imp_cons (imp_slice fun i hi => absurd hi (Nat.not_lt_zero i)) imp_nil)))
  | node q c n ans m next => exact imp_cons (imp_int _ _) (imp_cons (imp_int _ _) (imp_cons (imp_tx _ _) (imp_cons (imp_slice fun i _ => imp_plan _) imp_nil)))
theorem imp_TC (p : Plan) : Imp (planT p) (planC p) := by
  cases p with
  | leaf q c n ans => exact imp_cons (imp_int _ _) (imp_cons (imp_int _ _) (imp_cons (imp_tx _ _) (imp_cons (imp_slice fun i hi => absurd hi (Nat.not_lt_zero i)) imp_nil)))
  | node q c n ans m next => exact imp_cons (imp_int _ _) (imp_cons (imp_int _ _) (imp_cons (imp_tx _ _) (imp_cons (imp_slice fun i _ => imp_plan _) imp_nil)))
section
variable {k : Keep} {hp : List (Nat × HObj)} {m : Nat}
theorem sub_pCC (hl : loose k = true) {f : Nat → Plan} {n : Nat} : ∀ j, j < n → SubC k (sub k hp m) (planC (f j)) (planC (f j)) := fun _ _ => .inr ⟨hl, imp_plan _⟩
theorem sub_pCT (hl : loose k = true) {f : Nat → Plan} {n : Nat} : ∀ j, j < n → SubC k (sub k hp m) (planC (f j)) (planT (f j)) := fun _ _ => .inr ⟨hl, imp_CT _⟩
theorem sub_pTC (hl : loose k = true) {f : Nat → Plan} {n : Nat} : ∀ j, j < n → SubC k (sub k hp m) (planT (f j)) (planC (f j)) := fun _ _ => .inr ⟨hl, imp_TC _⟩
theorem sub_pTT (hl : loose k = true) {f : Nat → Plan} {n : Nat} : ∀ j, j < n → SubC k (sub k hp m) (planT (f j)) (planT (f j)) := fun _ _ => .inr ⟨hl, imp_trans (imp_TC _) (imp_CT _)⟩
end
/-! ### The best plan -/
structure Known where
  q : Int
  c : Int
  A : Ss
  L : List Plan
  d : Int
def Known.plan (k : Known) : Plan := .node k.q k.c k.A.length (fun i => k.A.getD i []) k.L.length fun i => k.L.getD i dP
def knC (k : Known) : SV := .cons (.int .i64 k.q) (.cons (.int .i64 k.c) (.cons (.slice 1 k.A.length (lc strN [] k.A)) (.cons (.slice 4 k.L.length (lc planC dP k.L)) (.cons (.int .i64 k.d) .nil))))
def maxD (ks : List Known) : Int := ks.foldl (fun m k => max m (k.d + 1)) 0
def allD (ks : List Known) : Bool := ks.all fun k => decide (0 ≤ k.d)
def kn0 : Known := ⟨0, 0, [], [], -1⟩
def out0 (s : Nat) : Known := if (candL s).length = 1 then ⟨-1, ((candL s).getD 0 0 : Nat), [], [], 0⟩ else kn0
/-- The answers of a set to a question; those who give one. -/
def ansQ (F : Fx) (s q : Nat) : Ss := distS (ansL F q (candL s))
def partQ (F : Fx) (s q : Nat) (a : List UInt8) : Nat := mk F q a (candL s)
def stepW (A : Ss) (q : Nat) (ks : List Known) (out : Known) : Known :=
  if allD ks = true ∧ (out.d < 0 ∨ maxD ks < out.d) then ⟨(q : Int), -1, A, ks.map Known.plan, maxD ks⟩ else out
def stepQ (F : Fx) (b : Nat → Known) (s : Nat) (out : Known) (q : Nat) : Known :=
  if (ansQ F s q).length < 2 then out else stepW (ansQ F s q) q ((ansQ F s q).map fun a => b (partQ F s q a)) out
def bestM (F : Fx) : Nat → Nat → Known
  | 0, _ => kn0
  | f + 1, s => (List.range (F.k 0)).foldl (stepQ F (bestM F f) s) (out0 s)
def bestV (F : Fx) (s : Nat) : Known := bestM F (candL s).length s
theorem testBit_mk {F : Fx} {q : Nat} {a : List UInt8} : ∀ {P : List Nat} {j : Nat}, (mk F q a P).testBit j = decide (j ∈ P ∧ F.a j q = a) := by
  intro P
  induction P with
  | nil => intro j; simp [mk]
  | cons x r ih =>
    intro j
    simp only [mk]
    split
    · rename_i h
      rw [Nat.testBit_or, ih, Nat.testBit_two_pow, Bool.eq_iff_iff]
      simp only [Bool.or_eq_true, decide_eq_true_eq, List.mem_cons]
      constructor
      · rintro (⟨h1, h2⟩ | rfl)
        · exact ⟨.inr h1, h2⟩
        · exact ⟨.inl rfl, h⟩
      · rintro ⟨rfl | h1, h2⟩
        · exact .inr rfl
        · exact .inl ⟨h1, h2⟩
    · rename_i h
      rw [ih, Bool.eq_iff_iff]
      simp only [decide_eq_true_eq, List.mem_cons]
      constructor
      · rintro ⟨h1, h2⟩; exact ⟨.inr h1, h2⟩
      · rintro ⟨rfl | h1, h2⟩
        · exact absurd h2 h
        · exact ⟨h1, h2⟩
theorem mem_candL {s i : Nat} : i ∈ candL s ↔ i < 8 ∧ s.testBit i = true := by
  unfold candL
  rw [List.mem_filter, List.mem_range]
theorem cand_part (F : Fx) (s q : Nat) (a : List UInt8) : candL (partQ F s q a) = (candL s).filter fun i => decide (F.a i q = a) := by
  have h1 : candL (partQ F s q a) = (List.range 8).filter fun i => (decide (F.a i q = a) && s.testBit i) := by
    unfold candL partQ
    refine List.filter_congr fun i hi => ?_
    rw [testBit_mk, Bool.eq_iff_iff]
    simp only [decide_eq_true_eq, Bool.and_eq_true, mem_candL]
    constructor
    · rintro ⟨⟨_, h1⟩, h2⟩; exact ⟨h2, h1⟩
    · rintro ⟨h1, h2⟩; exact ⟨⟨List.mem_range.1 hi, h2⟩, h1⟩
  rw [h1]
  unfold candL
  rw [List.filter_filter]
theorem part_lt (F : Fx) (s q : Nat) (a : List UInt8) : partQ F s q a < 256 := mk_lt fun _ hi => (mem_candL.1 hi).1
theorem mem_ansQ {F : Fx} {s q : Nat} {a : List UInt8} : a ∈ ansQ F s q ↔ ∃ i ∈ candL s, F.a i q = a := by
  unfold ansQ
  rw [mem_distS]
  unfold ansL
  rw [List.mem_map]
theorem two_other {l : Ss} (hn : l.Nodup) (h2 : 2 ≤ l.length) (a : List UInt8) : ∃ b ∈ l, b ≠ a := by
  match l, hn, h2 with
  | x :: y :: r, hn, _ =>
    by_cases h : x = a
    · refine ⟨y, by simp, fun h' => ?_⟩
      have := (List.nodup_cons.1 hn).1
      exact this (by rw [h, ← h']; simp)
    · exact ⟨x, by simp, h⟩
theorem part_less {F : Fx} {s q : Nat} {a : List UInt8} (h2 : 2 ≤ (ansQ F s q).length) : (candL (partQ F s q a)).length < (candL s).length := by
  rw [cand_part]
  obtain ⟨b, hb, hne⟩ := two_other (nodup_distS _) h2 a
  obtain ⟨i, hi, he⟩ := mem_ansQ.1 hb
  refine Nat.lt_of_le_of_ne (List.length_filter_le _ _) fun e => ?_
  have := List.length_filter_eq_length_iff.1 e i hi
  rw [decide_eq_true_eq, he] at this
  exact hne this
theorem cand0 {s : Nat} (h : (candL s).length = 0) : candL s = [] := List.eq_nil_of_length_eq_zero h
theorem fold_same {α β : Type} {f g : β → α → β} : ∀ {l : List α} {b : β}, (∀ b, ∀ x ∈ l, f b x = g b x) → l.foldl f b = l.foldl g b := by
  intro l
  induction l with
  | nil => intro b _; rfl
  | cons x r ih =>
    intro b h
    rw [List.foldl_cons, List.foldl_cons, h b x (List.mem_cons_self ..)]
    exact ih fun b y hy => h b y (List.mem_cons_of_mem _ hy)
theorem fold_id {α β : Type} {f : β → α → β} : ∀ {l : List α} {b : β}, (∀ b, ∀ x ∈ l, f b x = b) → l.foldl f b = b := by
  intro l
  induction l with
  | nil => intro b _; rfl
  | cons x r ih =>
    intro b h
    rw [List.foldl_cons, h b x (List.mem_cons_self ..)]
    exact ih fun b y hy => h b y (List.mem_cons_of_mem _ hy)
theorem ans0 {F : Fx} {s q : Nat} (h : (candL s).length = 0) : (ansQ F s q).length = 0 := by
  have := distS_len (ansL F q (candL s))
  unfold ansL at this
  rw [List.length_map, h] at this
  unfold ansQ ansL
  omega
theorem fold0 {F : Fx} {s : Nat} {b : Nat → Known} (h : (candL s).length = 0) : (List.range (F.k 0)).foldl (stepQ F b s) (out0 s) = kn0 := by
  rw [fold_id]
  · unfold out0
    rw [if_neg (by omega)]
  · intro o q _
    unfold stepQ
    rw [if_pos (by rw [ans0 h]; omega)]
theorem best_fuel {F : Fx} : ∀ {f g s : Nat}, (candL s).length ≤ f → (candL s).length ≤ g → bestM F f s = bestM F g s := by
  intro f
  induction f with
  | zero =>
    intro g s hf hg
    have h0 : (candL s).length = 0 := by omega
    cases g with
    | zero => rfl
    | succ g => exact (fold0 h0).symm
  | succ f ih =>
    intro g s hf hg
    cases g with
    | zero => exact fold0 (by omega)
    | succ g =>
      refine fold_same fun o q _ => ?_
      unfold stepQ
      split
      · rfl
      · rename_i h2
        have : (ansQ F s q).map (fun a => bestM F f (partQ F s q a)) = (ansQ F s q).map fun a => bestM F g (partQ F s q a) := by
          refine List.map_congr_left fun a _ => ?_
          have := part_less (a := a) (Nat.le_of_not_lt h2)
          exact ih (by omega) (by omega)
        rw [this]
/-- The best plan, by those for its parts. -/
theorem best_eq (F : Fx) (s : Nat) : bestV F s = (List.range (F.k 0)).foldl (stepQ F (bestV F) s) (out0 s) := by
  unfold bestV
  rcases h : (candL s).length with _ | n
  · exact (fold0 h).symm
  · refine fold_same fun o q _ => ?_
    unfold stepQ
    split
    · rfl
    · rename_i h2
      have : (ansQ F s q).map (fun a => bestM F n (partQ F s q a)) = (ansQ F s q).map fun a => bestM F (candL (partQ F s q a)).length (partQ F s q a) := by
        refine List.map_congr_left fun a _ => ?_
        have := part_less (a := a) (Nat.le_of_not_lt h2)
        exact best_fuel (by omega) (Nat.le_refl _)
      rw [this]
/-! The depth -/
theorem maxD_app (ks : List Known) (k : Known) : maxD (ks ++ [k]) = max (maxD ks) (k.d + 1) := by unfold maxD; rw [List.foldl_append]; rfl
theorem allD_app (ks : List Known) (k : Known) : allD (ks ++ [k]) = (allD ks && decide (0 ≤ k.d)) := by unfold allD; rw [List.all_append]; simp
theorem fold_max : ∀ {ks : List Known} {m : Int}, m ≤ ks.foldl (fun m k => max m (k.d + 1)) m ∧ ∀ B : Int, m ≤ B → (∀ k ∈ ks, k.d + 1 ≤ B) → ks.foldl (fun m k => max m (k.d + 1)) m ≤ B := by
  intro ks
  induction ks with
  | nil => intro m; exact ⟨Int.le_refl _, fun B h _ => h⟩
  | cons x r ih =>
    intro m
    obtain ⟨h1, h2⟩ := ih (m := max m (x.d + 1))
    refine ⟨Int.le_trans (Int.le_max_left _ _) h1, fun B hm hB => ?_⟩
    exact h2 B (Int.max_le.2 ⟨hm, hB x (List.mem_cons_self ..)⟩) fun k hk => hB k (List.mem_cons_of_mem _ hk)
theorem maxD_0 (ks : List Known) : 0 ≤ maxD ks := fold_max.1
theorem maxD_le {ks : List Known} {B : Int} (h0 : 0 ≤ B) (h : ∀ k ∈ ks, k.d + 1 ≤ B) : maxD ks ≤ B := fold_max.2 B h0 h
theorem fold_inv {α β : Type} {f : β → α → β} {p : β → Prop} : ∀ {l : List α} {b : β}, p b → (∀ b, ∀ x ∈ l, p b → p (f b x)) → p (l.foldl f b) := by
  intro l
  induction l with
  | nil => intro b h _; exact h
  | cons x r ih =>
    intro b h hs
    exact ih (hs b x (List.mem_cons_self ..) h) fun b y hy => hs b y (List.mem_cons_of_mem _ hy)
theorem best_d {F : Fx} : ∀ {f s : Nat}, -1 ≤ (bestM F f s).d ∧ (bestM F f s).d ≤ f := by
  intro f
  induction f with
  | zero => intro s; exact ⟨by show (-1 : Int) ≤ -1; omega, by show (-1 : Int) ≤ 0; omega⟩
  | succ f ih =>
    intro s
    refine fold_inv (p := fun k : Known => -1 ≤ k.d ∧ k.d ≤ ((f + 1 : Nat) : Int)) ?_ ?_
    · unfold out0
      split
      · refine ⟨?_, ?_⟩ <;> dsimp only <;> omega
      · unfold kn0
        refine ⟨?_, ?_⟩ <;> dsimp only <;> omega
    · intro k q _ hk
      unfold stepQ
      split
      · exact hk
      · unfold stepW
        split
        · refine ⟨?_, ?_⟩
          · show -1 ≤ maxD _
            have := maxD_0 ((ansQ F s q).map fun a => bestM F f (partQ F s q a))
            omega
          · show maxD _ ≤ _
            refine maxD_le (by omega) fun k hk => ?_
            obtain ⟨a, _, rfl⟩ := List.mem_map.1 hk
            have := (ih (s := partQ F s q a)).2
            omega
        · exact hk
theorem bestV_d (F : Fx) (s : Nat) : -1 ≤ (bestV F s).d ∧ (bestV F s).d ≤ 8 := by
  have h := best_d (F := F) (f := (candL s).length) (s := s)
  have h8 : (candL s).length ≤ 8 := candN_len s 8
  exact ⟨h.1, by have := h.2; unfold bestV; omega⟩
theorem best_ok' {F : Fx} {B : Nat} (P : Nat → Plan → Prop) (h0 : ∀ h p, p.m ≤ B → p.n ≤ B → (∀ i, i < p.m → P h (p.kid i)) → P (h + 1) p) (hB : 8 ≤ B) : ∀ f s, P (f + 1) (bestM F f s).plan := by
  intro f
  induction f with
  | zero => intro s; exact h0 _ _ (Nat.zero_le _) (Nat.zero_le _) fun i hi => absurd hi (Nat.not_lt_zero i)
  | succ f ih =>
    intro s
    refine fold_inv (p := fun k : Known => P (f + 1 + 1) k.plan) ?_ ?_
    · unfold out0
      split <;> exact h0 _ _ (Nat.zero_le _) (Nat.zero_le _) fun i hi => absurd hi (Nat.not_lt_zero i)
    · intro k q _ hk
      have hA : (ansQ F s q).length ≤ 8 := by
        have h := distS_len (ansL F q (candL s))
        have h1 : (ansL F q (candL s)).length = (candL s).length := by unfold ansL; rw [List.length_map]
        have h8 : (candL s).length ≤ 8 := candN_len s 8
        unfold ansQ
        omega
      unfold stepQ
      split
      · exact hk
      · unfold stepW
        split
        · refine h0 _ _ ?_ ?_ fun i hi => ?_
          · show (List.map Known.plan _).length ≤ B
            rw [List.length_map, List.length_map]
            omega
          · show (ansQ F s q).length ≤ B
            omega
          · have hi' : i < ((ansQ F s q).map fun a => bestM F f (partQ F s q a)).length := by
              have : i < (List.map Known.plan ((ansQ F s q).map fun a => bestM F f (partQ F s q a))).length := hi
              rwa [List.length_map] at this
            show P (f + 1) ((List.map Known.plan ((ansQ F s q).map fun a => bestM F f (partQ F s q a))).getD i dP)
            rw [List.getD_eq_getElem?_getD, List.getElem?_map, List.getElem?_eq_getElem hi']
            simp only [Option.map_some, Option.getD_some, List.getElem_map]
            exact ih _
        · exact hk
end A7
