/- A part of the proof: see the last text. -/
import Derived.Test.YtnkkbbjljmbjbaaA7
open Go Go.Eng Go.Proofs A0 A1 A2 A3 A4 A5 A6 A7
set_option maxRecDepth 100000
namespace A8
theorem ent_nu {l : NL} {k : Keep} {hp : List (Nat × HObj)} {m : Nat} {r r' : List (Nat × Nat)} : ∀ (i : Nat) (x y : MKey × Nat × Nat), l[i]? = some x → l[i]? = some y → x.1 = y.1 ∧ x.2.2 = y.2.2 ∧ sub k hp (m + 2) (rnS r (nuE x.2.1)) (rnS r' (nuE y.2.1)) := same_ent2 (p := sub k hp (m + 2)) (ev := fun v => rnS r (nuE v)) (ev' := fun v => rnS r' (nuE v)) fun _ => ⟨rfl, rfl⟩
theorem sub_app3 {α : Type} {enc : α → SV} {d : α} {k : Keep} {f : SV → SV → Prop} {l M : List α} {x : α} {e : Nat → SV} (hM : M = l ++ [x]) (h : ∀ a, SubC k f (enc a) (enc a)) (he : SubC k f (e 0) (enc x)) : ∀ j, j < l.length + 1 → SubC k f (appE l.length (lc enc d l) e j) (lc enc d M j) := by
  subst hM
  exact sub_app2 h he rfl
abbrev KL := List (MKey × Known × Nat)
def kvE (k : Known) : SV := .agg (knC k)
theorem rn_plan (r : List (Nat × Nat)) : ∀ p, rnS r (planC p) = planC p := by
  intro p
  induction p with
  | leaf q c n ans => rfl
  | node q c n ans m next ih =>
    show SV.cons (.int .i64 q) (.cons (.int .i64 c) (.cons (txE n ans) (.cons (.slice 4 m fun i => rnS r (planC (next i))) .nil))) = _
    rw [funext ih]
    rfl
section
variable {k : Keep} {hp : List (Nat × HObj)} {m : Nat}
theorem sub_pRC (hl : loose k = true) {r : List (Nat × Nat)} {f : Nat → Plan} {n : Nat} : ∀ j, j < n → SubC k (sub k hp m) (rnS r (planC (f j))) (planC (f j)) := fun j _ => by rw [rn_plan]; exact .inr ⟨hl, imp_plan _⟩
theorem sub_peq (hl : loose k = true) {L M : List Plan} (h : L = M) {n : Nat} : ∀ j, j < n → SubC k (sub k hp m) (lc planC dP L j) (lc planC dP M j) := fun j _ => by rw [h]; exact .inr ⟨hl, imp_plan _⟩
theorem sub_peq0 (hl : loose k = true) {L M : List Plan} (h : L = M) {n : Nat} : ∀ j, j < n → SubC k (sub k hp m) (lc planC dP L (0 + j)) (lc planC dP M j) := fun j _ => by rw [h, Nat.zero_add]; exact .inr ⟨hl, imp_plan _⟩
theorem sub_kn (hl : loose k = true) (v : Known) : sub k hp (m + 20) (kvE v) (kvE v) := by
  repeat' (first | exact hl | refine And.intro ?_ ?_ | exact trivial | exact rfl | exact sub_lc (fun a => sub_strN _ _ _ a) | exact sub_lc0 (fun a => sub_strN _ _ _ a) | exact fun (j : Nat) (hj : j < _) => Or.inl (sub_strN _ _ _ _) | exact sub_lc (fun a => sub_natN _ _ _ a) | exact fun (j : Nat) (hj : j < _) => Or.inl (sub_fx _ _ _ _ rfl hj) | exact sub_pCC hl)
theorem sub_rk (hl : loose k = true) {r : List (Nat × Nat)} (v : Known) : sub k hp (m + 20) (rnS r (kvE v)) (kvE v) := by
  repeat' (first | exact hl | refine And.intro ?_ ?_ | exact trivial | exact rfl | exact sub_lc (fun a => sub_strN _ _ _ a) | exact sub_lc0 (fun a => sub_strN _ _ _ a) | exact fun (j : Nat) (hj : j < _) => Or.inl (sub_strN _ _ _ _) | exact sub_lc (fun a => sub_natN _ _ _ a) | exact fun (j : Nat) (hj : j < _) => Or.inl (sub_fx _ _ _ _ rfl hj) | exact sub_pRC hl)
end
def fE (x : MKey × Known × Nat) : MKey × SV × Nat := (x.1, kvE x.2.1, x.2.2)
theorem mget_fE {k : MKey} : ∀ {l : KL}, mget (l.map fE) k = (mget l k).map fun p => (kvE p.1, p.2) := by
  intro l
  induction l with
  | nil => rfl
  | cons x r ih =>
    simp only [List.map_cons, mget]
    by_cases h : x.1 = k
    · rw [if_pos h, if_pos (show (fE x).1 = k from h)]
      rfl
    · rw [if_neg h, if_neg (show ¬ (fE x).1 = k from h)]
      exact ih
theorem mget_mapE {k : MKey} {l : KL} {v : Known} {u : Nat} (h : mget l k = some (v, u)) : mget (l.map fE) k = some (kvE v, u) := by rw [mget_fE, h]; rfl
theorem mget_mapN {k : MKey} {l : KL} (h : mget l k = none) : mget (l.map fE) k = none := by rw [mget_fE, h]; rfl
theorem ent_mapp {l : KL} {key : MKey} {raw : SV} {v : Known} {c : Nat} {p : SV → SV → Prop} (hp : ∀ v, p (kvE v) (kvE v)) (hr : p raw (kvE v)) : ∀ (i : Nat) (x : MKey × SV × Nat) (y : MKey × Known × Nat), (l.map fE ++ [(key, raw, c)])[i]? = some x → (l ++ [(key, v, c)])[i]? = some y → x.1 = y.1 ∧ x.2.2 = y.2.2 ∧ p (id x.2.1) (kvE y.2.1) := by
  intro i x y h1 h2
  by_cases hi : i < l.length
  · rw [List.getElem?_append_left (by simpa using hi), List.getElem?_map] at h1
    rw [List.getElem?_append_left hi] at h2
    rw [h2] at h1
    cases Option.some.inj h1
    exact ⟨rfl, rfl, hp _⟩
  · rw [List.getElem?_append_right (by simpa using hi)] at h1
    rw [List.getElem?_append_right (by omega)] at h2
    rw [List.length_map] at h1
    cases hk : i - l.length with
    | zero =>
      rw [hk] at h1 h2
      cases Option.some.inj h1
      cases Option.some.inj h2
      exact ⟨rfl, rfl, hr⟩
    | succ n =>
      rw [hk] at h1
      simp at h1
theorem ent_mput {key : MKey} {raw : SV} {v : Known} {p : SV → SV → Prop} (hp : ∀ v, p (kvE v) (kvE v)) (hr : p raw (kvE v)) : ∀ {l : KL} (i : Nat) (x : MKey × SV × Nat) (y : MKey × Known × Nat), (mput (l.map fE) key raw)[i]? = some x → (mput l key v)[i]? = some y → x.1 = y.1 ∧ x.2.2 = y.2.2 ∧ p (id x.2.1) (kvE y.2.1) := by
  intro l
  induction l with
  | nil => intro i x y h1 _; simp [mput] at h1
  | cons z r ih =>
    intro i x y h1 h2
    simp only [List.map_cons, mput] at h1 h2
    by_cases hz : z.1 = key
    · rw [if_pos (show (fE z).1 = key from hz)] at h1
      rw [if_pos hz] at h2
      cases i with
      | zero =>
        cases Option.some.inj h1
        cases Option.some.inj h2
        exact ⟨rfl, rfl, hr⟩
      | succ n =>
        rw [List.getElem?_cons_succ] at h1 h2
        rw [List.getElem?_map, h2] at h1
        cases Option.some.inj h1
        exact ⟨rfl, rfl, hp _⟩
    · rw [if_neg (show ¬ (fE z).1 = key from hz)] at h1
      rw [if_neg hz] at h2
      cases i with
      | zero =>
        cases Option.some.inj h1
        cases Option.some.inj h2
        exact ⟨rfl, rfl, hp _⟩
      | succ n =>
        rw [List.getElem?_cons_succ] at h1 h2
        exact ih n x y h1 h2
theorem mput_len {V : Type} {k : MKey} {v : V} {l : List (MKey × V × Nat)} : (mput l k v).length = l.length := by
  have := congrArg List.length (mput_keys (l := l) (k := k) (v := v)).1
  rwa [List.length_map, List.length_map] at this
theorem len_mputE {l : KL} {key : MKey} {raw : SV} {v : Known} : (mput (l.map fE) key raw).length = (mput l key v).length := by rw [mput_len, mput_len, List.length_map]
theorem len_mappE {l : KL} {key : MKey} {raw : SV} {v : Known} {c : Nat} : (l.map fE ++ [(key, raw, c)]).length = (l ++ [(key, v, c)]).length := by simp
/-- What is kept is right. -/
def DoneOk (F : Fx) (l : KL) : Prop := ∀ s : Nat, ∀ v u, mget l (.i .u64 (s : Int)) = some (v, u) → v = bestV F s
theorem key_inj {a b : Nat} (h : MKey.i .u64 (a : Int) = .i .u64 (b : Int)) : a = b := by
  injection h with _ h
  omega
theorem done_put {F : Fx} {l : KL} {s : Nat} {v : Known} {u : Nat} (h : DoneOk F l) (hm : mget l (.i .u64 (s : Int)) = some (v, u)) : DoneOk F (mput l (.i .u64 (s : Int)) (bestV F s)) := by
  intro t w n hg
  rw [mget_put hm] at hg
  split at hg
  · rename_i e
    rw [← key_inj e]
    exact (Prod.mk.inj (Option.some.inj hg)).1.symm
  · exact h t w n hg
theorem done_app {F : Fx} {l : KL} {s c : Nat} (h : DoneOk F l) (hm : mget l (.i .u64 (s : Int)) = none) : DoneOk F (l ++ [(.i .u64 (s : Int), bestV F s, c)]) := by
  intro t w n hg
  rw [mget_app hm] at hg
  split at hg
  · rename_i e
    rw [← key_inj e]
    exact (Prod.mk.inj (Option.some.inj hg)).1.symm
  · exact h t w n hg
structure FxOk (F : Fx) : Prop where
  n0 : 0 < F.n
  n8 : F.n ≤ 8
  k8 : F.k 0 ≤ 8
  k : ∀ j, j < F.n → F.k j = F.k 0
structure XK where
  F : Fx
  s : Nat
  l : KL
  c : Nat
def heapK (F : Fx) (l : KL) (c : Nat) : List (Nat × HObj) := [(0, .cells 40 (.cons (.mref 3) .nil)), (1, .cells 22 (.cons (fxE F) .nil)), (2, .cells 41 (.cons (.fn 16 (.cons (.own 0 0) (.cons (.own 1 0) (.cons (.own 2 0) .nil)))) .nil)), (3, .map Known (.i .u64) l c kvE (fun _ => none))]
theorem out0_1 {s : Nat} (h : (candL s).length = 1) : out0 s = ⟨-1, ((candL s).getD 0 0 : Nat), [], [], 0⟩ := by unfold out0; rw [if_pos h]
theorem out0_0 {s : Nat} (h : (candL s).length ≠ 1) : out0 s = kn0 := by unfold out0; rw [if_neg h]
structure XQ where
  q : Nat
  l : KL
  c : Nat
/-- The best one after q questions. -/
def outQ (F : Fx) (s q : Nat) : Known := (List.range q).foldl (stepQ F (bestV F) s) (out0 s)
theorem outQ_next (F : Fx) (s q : Nat) : outQ F s (q + 1) = stepQ F (bestV F) s (outQ F s q) q := by
  unfold outQ
  rw [List.range_succ, List.foldl_append]
  rfl
theorem outQ_few {F : Fx} {s q : Nat} (h : (ansQ F s q).length < 2) : outQ F s (q + 1) = outQ F s q := by
  rw [outQ_next]
  unfold stepQ
  rw [if_pos h]
structure XI where
  i : Nat
  l : KL
  c : Nat
/-- The best plans for the first i parts. -/
def ksI (F : Fx) (s q i : Nat) : List Known := ((ansQ F s q).take i).map fun a => bestV F (partQ F s q a)
def plI (F : Fx) (s q i : Nat) : List Plan := (ksI F s q i).map Known.plan
theorem getD_memS {l : Ss} {j : Nat} (h : j < l.length) : l.getD j [] ∈ l := by
  rw [List.getD_eq_getElem?_getD, List.getElem?_eq_getElem h]
  exact List.getElem_mem h
theorem ksI_next {F : Fx} {s q i : Nat} (h : i < (ansQ F s q).length) : ksI F s q (i + 1) = ksI F s q i ++ [bestV F (partQ F s q ((ansQ F s q).getD i []))] := by
  unfold ksI
  rw [List.take_add_one, List.map_append, List.getD_eq_getElem?_getD, List.getElem?_eq_getElem h]
  rfl
theorem plI_len {F : Fx} {s q i : Nat} : (plI F s q i).length ≤ i := by
  unfold plI ksI
  rw [List.length_map, List.length_map, List.length_take]
  omega
theorem ansQ_len {F : Fx} {s q : Nat} : (ansQ F s q).length ≤ 8 := by
  have h := distS_len (ansL F q (candL s))
  unfold ansL at h
  rw [List.length_map] at h
  have h8 : (candL s).length ≤ 8 := candN_len s 8
  unfold ansQ ansL
  omega
theorem take_iff {ks : List Known} {o : Known} {i j : Nat} : pickB (allD ks) (.s i) (.c (.bool false)) (pickB (decide (o.d < 0)) (.c (.bool true)) (.s j) true (decide (maxD ks < o.d))) false = decide (allD ks = true ∧ (o.d < 0 ∨ maxD ks < o.d)) := by
  rw [pickB_and, pickB_or, Bool.eq_iff_iff]
  simp
theorem outQ_take {F : Fx} {s q : Nat} {ks : List Known} {i j : Nat} (h2 : 2 ≤ (ansQ F s q).length) (hk : ks = (ansQ F s q).map fun a => bestV F (partQ F s q a)) (h : pickB (allD ks) (.s i) (.c (.bool false)) (pickB (decide ((outQ F s q).d < 0)) (.c (.bool true)) (.s j) true (decide (maxD ks < (outQ F s q).d))) false = true) : outQ F s (q + 1) = ⟨(q : Int), -1, ansQ F s q, ks.map Known.plan, maxD ks⟩ := by
  rw [take_iff, decide_eq_true_eq] at h
  rw [outQ_next]
  unfold stepQ stepW
  rw [if_neg (by omega), ← hk, if_pos h]
theorem outQ_keep {F : Fx} {s q : Nat} {ks : List Known} {i j : Nat} (h2 : 2 ≤ (ansQ F s q).length) (hk : ks = (ansQ F s q).map fun a => bestV F (partQ F s q a)) (h : pickB (allD ks) (.s i) (.c (.bool false)) (pickB (decide ((outQ F s q).d < 0)) (.c (.bool true)) (.s j) true (decide (maxD ks < (outQ F s q).d))) false = false) : outQ F s (q + 1) = outQ F s q := by
  rw [take_iff, decide_eq_false_iff_not] at h
  rw [outQ_next]
  unfold stepQ stepW
  rw [if_neg (by omega), ← hk, if_neg h]
/-- gazetteer/ask.Make$1 -/
def g16 : List Nat := [7, 24, 6, 31, 9, 40, 42, 2, 53, 10, 11, 59, 61, 58, 3, 12, 16, 17, 60, 14, 104, 13, 41, 1, 0, 8, 5]
def c16 : SCode :=
  .seq (.region g16 [⟨some 5, none, .alloc 45 (.cons (.int .i64 0) (.cons (.int .i64 0) (.cons (.nilsl) (.cons (.nilsl) (.cons (.int .i64 0) .nil))))), []⟩]) (.seq (.seq (.region g16 [⟨some 19, none, .load 1 false (.s 1), []⟩, ⟨some 20, none, .move (.s 0), []⟩, ⟨some 21, none, .mlook (.agg (.cons (.int .i64 0) (.cons (.int .i64 0) (.cons (.nilsl) (.cons (.nilsl) (.cons (.int .i64 0) .nil)))))) true (.i (.u64)) (.s 19) (.s 20), []⟩, ⟨some 18, none, .move (.s 21), []⟩, ⟨some 22, none, .extract 0 (.s 18), []⟩, ⟨some 23, none, .extract 1 (.s 18), []⟩, ⟨some 6, none, .alloc 45 (.cons (.int .i64 0) (.cons (.int .i64 0) (.cons (.nilsl) (.cons (.nilsl) (.cons (.int .i64 0) .nil))))), []⟩, ⟨none, none, .store 5 (.s 6) (.s 22), []⟩, ⟨some 7, none, .move (.s 23), []⟩]) (.seq (.region g16 [⟨some 24, none, .move (.s 7), []⟩]) (.cond (.s 24) (.seq (.region g16 [⟨some 25, none, .load 5 true (.s 6), []⟩, ⟨none, none, .store 5 (.s 5) (.s 25), []⟩]) .ret) .skip))) (.seq (.region g16 [⟨some 26, none, .build (.cons (.int .i64 0) (.cons (.int .i64 0) (.cons (.nilsl) (.cons (.nilsl) (.cons (.int .i64 0) .nil))))) [(4, 1, .c (.int .i64 (-1)))], []⟩, ⟨some 8, none, .alloc 45 (.cons (.int .i64 0) (.cons (.int .i64 0) (.cons (.nilsl) (.cons (.nilsl) (.cons (.int .i64 0) .nil))))), []⟩, ⟨none, none, .store 5 (.s 8) (.s 26), []⟩]) (.seq (.seq (.region g16 [⟨some 27, none, .move (.s 0), []⟩, ⟨some 28, none, .call (.c (.fn 17)) [.s 27], []⟩, ⟨some 9, none, .move (.s 28), []⟩]) (.seq (.region g16 [⟨some 29, none, .move (.s 9), []⟩, ⟨some 30, none, .lenSl (.s 29), []⟩, ⟨some 31, none, .bin (.eql) (.s 30) (.c (.int .i64 1)), []⟩]) (.join 0 [32, 33, 34, 35, 36] (.cond (.s 31) (.region g16 [⟨some 32, none, .move (.s 9), []⟩, ⟨some 33, none, .idxSl 1 (.s 32) (.c (.int .i64 0)), []⟩, ⟨some 34, none, .load 1 false (.s 33), []⟩, ⟨some 35, none, .build (.cons (.int .i64 0) (.cons (.int .i64 0) (.cons (.nilsl) (.cons (.nilsl) .nil)))) [(0, 1, .c (.int .i64 (-1))), (1, 1, .s 34)], []⟩, ⟨some 36, none, .build (.cons (.int .i64 0) (.cons (.int .i64 0) (.cons (.nilsl) (.cons (.nilsl) (.cons (.int .i64 0) .nil))))) [(0, 4, .s 35), (4, 1, .c (.int .i64 0))], []⟩, ⟨none, none, .store 5 (.s 8) (.s 36), []⟩]) .skip)))) (.seq (.seq (.region g16 [⟨some 37, none, .load 1 false (.s 2), []⟩, ⟨some 38, none, .idxSl 1 (.s 37) (.c (.int .i64 0)), []⟩, ⟨some 39, none, .load 1 false (.s 38), []⟩, ⟨some 40, none, .lenSl (.s 39), []⟩, ⟨some 41, none, .move (.c (.int .i64 0)), []⟩]) (.block 0 (.loop 1 [42, 43, 10, 45, 46, 47, 48, 44, 49, 50, 11, 12, 51, 52, 53, 54, 55, 56, 57, 13, 58, 59, 61, 62, 63, 16, 64, 65, 66, 67, 68, 17, 69, 70, 71, 72, 73, 74, 14, 75, 76, 77, 78, 79, 80, 81, 82, 83, 84, 85, 86, 87, 88, 89, 90, 91, 60, 92, 93, 94, 95, 96, 97, 98, 99, 100, 101, 102, 103, 104, 105, 106, 41] (.seq (.region g16 [⟨some 42, none, .bin (.lss) (.s 41) (.s 40), []⟩]) (.seq (.cond (.s 42) .skip (.exit 0)) (.seq (.block 1 (.seq (.region g16 [⟨some 43, none, .move (.s 41), []⟩, ⟨some 10, none, .move (.s 43), []⟩]) (.seq (.region g16 [⟨some 45, none, .load 1 false (.s 2), []⟩, ⟨some 46, none, .move (.s 0), []⟩, ⟨some 47, none, .move (.s 10), []⟩, ⟨some 48, none, .call (.c (.fn 18)) [.s 45, .s 46, .s 47], []⟩, ⟨some 44, none, .move (.s 48), []⟩, ⟨some 49, none, .extract 0 (.s 44), []⟩, ⟨some 50, none, .extract 1 (.s 44), []⟩, ⟨some 11, none, .move (.s 49), []⟩, ⟨some 12, none, .move (.s 50), []⟩]) (.seq (.seq (.region g16 [⟨some 51, none, .move (.s 11), []⟩, ⟨some 52, none, .lenSl (.s 51), []⟩, ⟨some 53, none, .bin (.lss) (.s 52) (.c (.int .i64 2)), []⟩]) (.cond (.s 53) (.exit 1) .skip)) (.seq (.region g16 [⟨some 54, none, .move (.s 10), []⟩, ⟨some 55, none, .move (.s 11), []⟩, ⟨some 56, none, .build (.cons (.int .i64 0) (.cons (.int .i64 0) (.cons (.nilsl) (.cons (.nilsl) .nil)))) [(0, 1, .s 54), (1, 1, .c (.int .i64 (-1))), (2, 1, .s 55)], []⟩, ⟨some 57, none, .build (.cons (.int .i64 0) (.cons (.int .i64 0) (.cons (.nilsl) (.cons (.nilsl) (.cons (.int .i64 0) .nil))))) [(0, 4, .s 56)], []⟩, ⟨some 13, none, .alloc 45 (.cons (.int .i64 0) (.cons (.int .i64 0) (.cons (.nilsl) (.cons (.nilsl) (.cons (.int .i64 0) .nil))))), []⟩, ⟨none, none, .store 5 (.s 13) (.s 57), []⟩]) (.seq (.region g16 [⟨some 14, none, .move (.c (.bool true)), []⟩]) (.seq (.seq (.region g16 [⟨some 58, none, .move (.s 11), []⟩, ⟨some 59, none, .lenSl (.s 58), []⟩, ⟨some 60, none, .move (.c (.int .i64 0)), []⟩]) (.block 2 (.loop 2 [61, 62, 63, 16, 64, 65, 66, 67, 68, 17, 69, 70, 71, 72, 73, 74, 14, 75, 76, 77, 78, 79, 80, 81, 82, 83, 84, 85, 86, 87, 88, 89, 90, 91, 60] (.seq (.region g16 [⟨some 61, none, .bin (.lss) (.s 60) (.s 59), []⟩]) (.seq (.cond (.s 61) .skip (.exit 2)) (.seq (.block 3 (.seq (.region g16 [⟨some 62, none, .idxSl 1 (.s 58) (.s 60), []⟩, ⟨some 63, none, .load 1 false (.s 62), []⟩, ⟨some 16, none, .move (.s 63), []⟩]) (.seq (.region g16 [⟨some 64, none, .load 1 false (.s 3), []⟩, ⟨some 65, none, .move (.s 12), []⟩, ⟨some 66, none, .move (.s 16), []⟩, ⟨some 67, none, .mlook (.int (.u64) 0) false (.s) (.s 65) (.s 66), []⟩, ⟨some 68, none, .call (.s 64) [.s 67], []⟩, ⟨some 17, none, .alloc 45 (.cons (.int .i64 0) (.cons (.int .i64 0) (.cons (.nilsl) (.cons (.nilsl) (.cons (.int .i64 0) .nil))))), []⟩, ⟨none, none, .store 5 (.s 17) (.s 68), []⟩]) (.seq (.region g16 [⟨some 69, none, .move (.s 14), []⟩, ⟨some 70, none, .move (.s 69), []⟩, ⟨some 71, some (70, true), .fldA 4 (.s 17), []⟩, ⟨some 72, some (70, true), .load 1 false (.s 71), []⟩, ⟨some 73, some (70, true), .bin (.geq) (.s 72) (.c (.int .i64 0)), []⟩, ⟨some 74, none, .pick (.s 70) (.s 73) (.c (.bool false)), []⟩, ⟨some 14, none, .move (.s 74), []⟩]) (.seq (.region g16 [⟨some 75, none, .fldA 0 (.s 13), []⟩, ⟨some 76, none, .fldA 3 (.s 75), []⟩, ⟨some 77, none, .load 1 false (.s 76), []⟩, ⟨some 78, none, .fldA 0 (.s 17), []⟩, ⟨some 79, none, .load 4 true (.s 78), []⟩, ⟨some 80, none, .buildSl 28 4 1 (.cons (.int .i64 0) (.cons (.int .i64 0) (.cons (.nilsl) (.cons (.nilsl) .nil)))) [(0, 4, .s 79)], []⟩, ⟨some 81, none, .app 28 4 64 (.s 77) (.s 80), []⟩, ⟨some 82, none, .fldA 0 (.s 13), []⟩, ⟨some 83, none, .fldA 3 (.s 82), []⟩, ⟨none, none, .store 1 (.s 83) (.s 81), []⟩]) (.region g16 [⟨some 84, none, .fldA 4 (.s 13), []⟩, ⟨some 85, none, .load 1 false (.s 84), []⟩, ⟨some 86, none, .fldA 4 (.s 17), []⟩, ⟨some 87, none, .load 1 false (.s 86), []⟩, ⟨some 88, none, .bin (.add) (.s 87) (.c (.int .i64 1)), []⟩, ⟨some 89, none, .mm true (.s 85) (.s 88), []⟩, ⟨some 90, none, .fldA 4 (.s 13), []⟩, ⟨none, none, .store 1 (.s 90) (.s 89), []⟩])))))) (.region g16 [⟨some 91, none, .bin (.add) (.s 60) (.c (.int .i64 1)), []⟩, ⟨some 60, none, .move (.s 91), []⟩]))))))) (.seq (.region g16 [⟨some 92, none, .move (.s 14), []⟩, ⟨some 93, none, .move (.s 92), []⟩, ⟨some 94, some (93, true), .fldA 4 (.s 8), []⟩, ⟨some 95, some (93, true), .load 1 false (.s 94), []⟩, ⟨some 96, some (93, true), .bin (.lss) (.s 95) (.c (.int .i64 0)), []⟩, ⟨some 97, some (93, true), .move (.s 96), []⟩, ⟨some 98, some (97, false), .fldA 4 (.s 13), []⟩, ⟨some 99, some (97, false), .load 1 false (.s 98), []⟩, ⟨some 100, some (97, false), .fldA 4 (.s 8), []⟩, ⟨some 101, some (97, false), .load 1 false (.s 100), []⟩, ⟨some 102, some (97, false), .bin (.lss) (.s 99) (.s 101), []⟩, ⟨some 103, some (93, true), .pick (.s 97) (.c (.bool true)) (.s 102), []⟩, ⟨some 104, none, .pick (.s 93) (.s 103) (.c (.bool false)), []⟩]) (.cond (.s 104) (.region g16 [⟨some 105, none, .load 5 true (.s 13), []⟩, ⟨none, none, .store 5 (.s 8) (.s 105), []⟩]) .skip))))))))) (.region g16 [⟨some 106, none, .bin (.add) (.s 41) (.c (.int .i64 1)), []⟩, ⟨some 41, none, .move (.s 106), []⟩]))))))) (.seq (.region g16 [⟨some 107, none, .load 1 false (.s 1), []⟩, ⟨some 108, none, .move (.s 0), []⟩, ⟨some 109, none, .load 5 true (.s 8), []⟩, ⟨none, none, .mupd (.i (.u64)) (.s 107) (.s 108) (.s 109), []⟩]) (.seq (.region g16 [⟨some 110, none, .load 5 true (.s 8), []⟩, ⟨none, none, .store 5 (.s 5) (.s 110), []⟩]) .ret))))))
def r16 : List SRes := [.cell 5 5 true]
def k16 : List (Nat × Nat × SCode × Nat) := []
theorem e16 : cFunc Try.prog 16 g16 [1] [] k16 = some (c16, r16, 111) := by kernel_rfl
theorem q16 : RgOk Try.prog k16 := RgOk.nil
def bestS (N : Nat) : Eng.MSpec where
  X := XK
  Y := KL × Nat
  args := fun x => .cons (.int .u64 (x.s : Int)) (.cons (.own 0 0) (.cons (.own 1 0) (.cons (.own 2 0) .nil)))
  pre := fun x => (candL x.s).length < N ∧ x.s < 256 ∧ (∀ i ∈ candL x.s, i < x.F.n) ∧ FxOk x.F ∧ DoneOk x.F x.l
  h0 := fun x => heapK x.F x.l x.c
  nx0 := 4
  post := fun x y => DoneOk x.F y.1
  res := fun x _ => kvE (bestV x.F x.s)
  h1 := fun x y => heapK x.F y.1 y.2
  nx1 := 4
  fresh := false
set_option maxHeartbeats 8000000 in
theorem best_ok : ∀ N, (bestS N).Ok Try.prog 16 := by
  intro N
  induction N with
  | zero =>
    refine Eng.MSpec.ok_of e16 q16 (fun _ => []) (fun _ _ => TabOk.nil) ?_
    intro x hx
    exact absurd hx.1 (Nat.not_lt_zero _)
  | succ N ih =>
    refine Eng.MSpec.ok_of e16 q16 (fun _ => [(17, .p cand), (18, .m split), (16, .m (bestS N))]) (fun _ _ => TabOk.p cand_ok (TabOk.m split_ok (TabOk.m ih TabOk.nil))) ?_
    rintro ⟨F, s, l, c⟩ ⟨hN, hs, hc, hF, hD⟩
    replace hN : (candL s).length < N + 1 := hN
    replace hs : s < 256 := hs
    replace hc : ∀ i ∈ candL s, i < F.n := hc
    replace hF : FxOk F := hF
    replace hD : DoneOk F l := hD
    have hs64 : s < 18446744073709551616 := by omega
    refine ⟨trivial, ?_⟩
    repeat' (first | refine And.intro ?_ ?_ | exact trivial | exact rfl)
    cases hm : mget l (.i .u64 (s : Int)) with
    | some p =>
      obtain ⟨v, u⟩ := p
      have hm2 : mget l (.i .u64 (s : Int)) = some (bestV F s, u) := by rw [← hD s v u hm]; exact hm
      refine MLook.of_some hm2 ?_
      repeat' (first | (refine fun (_ : true = true) => ?_) | (refine fun (h : true = false) => absurd h (by decide)) | refine And.intro ?_ ?_ | exact trivial | exact rfl)
      refine Exists.intro (l, c) (And.intro hD ?_)
      repeat' (first | refine And.intro ?_ ?_ | exact trivial | exact rfl | exact sub_lc (fun a => sub_strN _ _ _ a) | exact sub_lc0 (fun a => sub_strN _ _ _ a) | exact fun (j : Nat) (hj : j < _) => Or.inl (sub_strN _ _ _ _) | exact sub_lc (fun a => sub_natN _ _ _ a) | exact fun (j : Nat) (hj : j < _) => Or.inl (sub_fx _ _ _ _ rfl hj) | exact sub_pCC rfl | exact sub_pRC rfl | exact same_ent2 (p := sub _ _ 200) (fun v => sub_kn rfl v) | exact same_ent2 (p := sub _ _ 200) (fun v => sub_rk rfl v) | exact ent_nu)
    | none =>
      refine MLook.of_none hm ?_
      repeat' (first | (refine fun (h : false = true) => absurd h (by decide)) | (refine fun (_ : false = false) => ?_) | exact hs64 | refine And.intro ?_ ?_ | exact trivial | exact rfl)
      refine Exists.intro ⟨Unit, fun _ => True, fun _ => [], fun _ => [(6, .cells 45 (knC (out0 s)))], fun _ => 0⟩ (And.intro ?_ ?_)
      · repeat' (first | refine And.intro ?_ ?_ | exact trivial | exact rfl)
        · refine fun (h : decide (((candL s).length : Int) = 1) = true) => ?_
          have h1 : (candL s).length = 1 := by have := of_decide_eq_true h; omega
          have h01 : (0 : Int) < ((candL s).length : Int) := by omega
          have e1 := out0_1 h1
          repeat' (first | exact Int.le_refl 0 | exact h01 | refine And.intro ?_ ?_ | exact trivial | exact rfl)
          refine Exists.intro () (And.intro trivial ?_)
          repeat' (first | exact congrArg Known.q e1.symm | exact congrArg Known.c e1.symm | exact congrArg Known.d e1.symm | exact congrArg (fun k => k.A.length) e1 | exact congrArg (fun k => k.L.length) e1 | refine And.intro ?_ ?_ | exact trivial | exact rfl | exact sub_lc (fun a => sub_strN _ _ _ a) | exact sub_lc0 (fun a => sub_strN _ _ _ a) | exact fun (j : Nat) (hj : j < _) => Or.inl (sub_strN _ _ _ _) | exact sub_lc (fun a => sub_natN _ _ _ a) | exact fun (j : Nat) (hj : j < _) => Or.inl (sub_fx _ _ _ _ rfl hj) | exact sub_pCC rfl | exact sub_pRC rfl | exact same_ent2 (p := sub _ _ 200) (fun v => sub_kn rfl v) | exact same_ent2 (p := sub _ _ 200) (fun v => sub_rk rfl v) | exact ent_nu)
        · refine fun (h : decide (((candL s).length : Int) = 1) = false) => ?_
          have h1 : (candL s).length ≠ 1 := by have := of_decide_eq_false h; omega
          have e1 := out0_0 h1
          repeat' (first | refine And.intro ?_ ?_ | exact trivial | exact rfl)
          refine Exists.intro () (And.intro trivial ?_)
          repeat' (first | exact congrArg Known.q e1.symm | exact congrArg Known.c e1.symm | exact congrArg Known.d e1.symm | exact congrArg (fun k => k.A.length) e1 | exact congrArg (fun k => k.L.length) e1 | refine And.intro ?_ ?_ | exact trivial | exact rfl | exact sub_lc (fun a => sub_strN _ _ _ a) | exact sub_lc0 (fun a => sub_strN _ _ _ a) | exact fun (j : Nat) (hj : j < _) => Or.inl (sub_strN _ _ _ _) | exact sub_lc (fun a => sub_natN _ _ _ a) | exact fun (j : Nat) (hj : j < _) => Or.inl (sub_fx _ _ _ _ rfl hj) | exact sub_pCC rfl | exact sub_pRC rfl | exact same_ent2 (p := sub _ _ 200) (fun v => sub_kn rfl v) | exact same_ent2 (p := sub _ _ 200) (fun v => sub_rk rfl v) | exact ent_nu)
      refine fun (_ : Unit) (_ : True) => ?_
      have hF0 : (0 : Int) < (F.n : Int) := by have := hF.n0; omega
      repeat' (first | exact Int.le_refl 0 | exact hF0 | refine And.intro ?_ ?_ | exact trivial | exact rfl)
      refine ⟨⟨XQ, fun x => x.q ≤ F.k 0 ∧ DoneOk F x.l, fun x => [(41, .int .i64 (x.q : Int))], fun x => [(3, .map Known (.i .u64) x.l x.c kvE (fun _ => none)), (6, .cells 45 (knC (outQ F s x.q)))], fun x => F.k 0 - x.q⟩, ⟨0, l, c⟩, ⟨Nat.zero_le _, hD⟩, ?_, ?_⟩
      · repeat' (first | refine And.intro ?_ ?_ | exact trivial | exact rfl | exact sub_lc (fun a => sub_strN _ _ _ a) | exact sub_lc0 (fun a => sub_strN _ _ _ a) | exact fun (j : Nat) (hj : j < _) => Or.inl (sub_strN _ _ _ _) | exact sub_lc (fun a => sub_natN _ _ _ a) | exact fun (j : Nat) (hj : j < _) => Or.inl (sub_fx _ _ _ _ rfl hj) | exact sub_pCC rfl | exact sub_pRC rfl | exact same_ent2 (p := sub _ _ 200) (fun v => sub_kn rfl v) | exact same_ent2 (p := sub _ _ 200) (fun v => sub_rk rfl v) | exact ent_nu)
      clear hm hD
      rintro ⟨q, l, c⟩ ⟨hq, hD⟩
      replace hq : q ≤ F.k 0 := hq
      replace hD : DoneOk F l := hD
      refine And.intro (fun hb => ?_) (fun hb => ?_)
      · have hqk : q < F.k 0 := by have h1 : (q : Int) < (F.k 0 : Int) := of_decide_eq_true hb; omega
        have hqa : ∀ i, i < F.n → q < F.k i := fun i hi => by rw [hF.k i hi]; exact hqk
        have hn8 := hF.n8
        repeat' (first | refine And.intro ?_ ?_ | exact trivial | exact rfl)
        refine Exists.intro (XC.mk F s q) (Exists.intro [] ?_)
        repeat' (first | exact hn8 | exact hs | exact hc | exact hqa | refine And.intro ?_ ?_ | exact trivial | exact rfl | exact sub_lc (fun a => sub_strN _ _ _ a) | exact sub_lc0 (fun a => sub_strN _ _ _ a) | exact fun (j : Nat) (hj : j < _) => Or.inl (sub_strN _ _ _ _) | exact sub_lc (fun a => sub_natN _ _ _ a) | exact fun (j : Nat) (hj : j < _) => Or.inl (sub_fx _ _ _ _ rfl hj))
        refine fun (y : NL × Nat) (hP : PartOk F q (candL s) y.1) => ?_
        repeat' (first | refine And.intro ?_ ?_ | exact trivial | exact rfl)
        · refine fun (h : decide (((ansQ F s q).length : Int) < 2) = true) => ?_
          have e1 := outQ_few (show (ansQ F s q).length < 2 by have := of_decide_eq_true h; omega)
          have hin1 : -9223372036854775808 ≤ (q : Int) + 1 := by omega
          have hin2 : (q : Int) + 1 ≤ 9223372036854775807 := by have := hF.k8; omega
          repeat' (first | refine And.intro ?_ ?_ | exact trivial | exact rfl)
          · exact hin1
          · exact hin2
          refine Exists.intro (XQ.mk (q + 1) l c) (And.intro ⟨hqk, hD⟩ (And.intro ?_ ?_))
          · repeat' (first | exact congrArg Known.q e1.symm | exact congrArg Known.c e1.symm | exact congrArg Known.d e1.symm | exact congrArg (fun k => k.A.length) e1.symm | exact congrArg (fun k => k.L.length) e1.symm | exact sub_leq (congrArg Known.A e1.symm) | exact sub_peq rfl (congrArg Known.L e1.symm) | refine And.intro ?_ ?_ | exact trivial | exact rfl | exact sub_lc (fun a => sub_strN _ _ _ a) | exact sub_lc0 (fun a => sub_strN _ _ _ a) | exact fun (j : Nat) (hj : j < _) => Or.inl (sub_strN _ _ _ _) | exact sub_lc (fun a => sub_natN _ _ _ a) | exact fun (j : Nat) (hj : j < _) => Or.inl (sub_fx _ _ _ _ rfl hj) | exact sub_pCC rfl | exact sub_pRC rfl | exact same_ent2 (p := sub _ _ 200) (fun v => sub_kn rfl v) | exact same_ent2 (p := sub _ _ 200) (fun v => sub_rk rfl v) | exact ent_nu)
          · show F.k 0 - (q + 1) < F.k 0 - q
            omega
        · refine fun (h : decide (((ansQ F s q).length : Int) < 2) = false) => ?_
          have h2 : 2 ≤ (ansQ F s q).length := by have := of_decide_eq_false h; omega
          repeat' (first | refine And.intro ?_ ?_ | exact trivial | exact rfl)
          refine ⟨⟨XI, fun x => x.i ≤ (ansQ F s q).length ∧ DoneOk F x.l, fun x => [(60, .int .i64 (x.i : Int)), (14, .bool (allD (ksI F s q x.i)))], fun x => [(3, .map Known (.i .u64) x.l x.c kvE (fun _ => none)), (8, .cells 45 (.cons (.int .i64 (q : Int)) (.cons (.int .i64 (-1)) (.cons (.slice 1 (ansQ F s q).length (lc strN [] (ansQ F s q))) (.cons (.lsl 40 4 (plI F s q x.i).length) (.cons (.int .i64 (maxD (ksI F s q x.i))) .nil)))))), (40, .arr 28 4 (plI F s q x.i).length (lc planC dP (plI F s q x.i)))], fun x => (ansQ F s q).length - x.i⟩, ⟨0, l, c⟩, ⟨Nat.zero_le _, hD⟩, ?_, ?_⟩
          · repeat' (first | refine And.intro ?_ ?_ | exact trivial | exact rfl | exact sub_lc (fun a => sub_strN _ _ _ a) | exact sub_lc0 (fun a => sub_strN _ _ _ a) | exact fun (j : Nat) (hj : j < _) => Or.inl (sub_strN _ _ _ _) | exact sub_lc (fun a => sub_natN _ _ _ a) | exact fun (j : Nat) (hj : j < _) => Or.inl (sub_fx _ _ _ _ rfl hj) | exact sub_pCC rfl | exact sub_pRC rfl | exact same_ent2 (p := sub _ _ 200) (fun v => sub_kn rfl v) | exact same_ent2 (p := sub _ _ 200) (fun v => sub_rk rfl v) | exact ent_nu)
          clear hD
          rintro ⟨i, l, c⟩ ⟨hi, hD⟩
          replace hi : i ≤ (ansQ F s q).length := hi
          replace hD : DoneOk F l := hD
          refine And.intro (fun hb => ?_) (fun hb => ?_)
          · have hil : i < (ansQ F s q).length := by have h1 : (i : Int) < ((ansQ F s q).length : Int) := of_decide_eq_true hb; omega
            have hiI : (i : Int) < ((ansQ F s q).length : Int) := by omega
            have hmem : (ansQ F s q).getD i [] ∈ ansL F q (candL s) := mem_distS.1 (getD_memS hil)
            have hpart := Classical.choose_spec ((hP _).1 hmem)
            have hless := part_less (a := (ansQ F s q).getD i []) h2
            have hlN : (candL (partQ F s q ((ansQ F s q).getD i []))).length < N := by omega
            have hplt := part_lt F s q ((ansQ F s q).getD i [])
            have hpc : ∀ j ∈ candL (partQ F s q ((ansQ F s q).getD i [])), j < F.n := fun j hj => hc j (by rw [cand_part] at hj; exact (List.mem_filter.1 hj).1)
            have hd := bestV_d F (partQ F s q ((ansQ F s q).getD i []))
            have hkn := ksI_next hil
            have hpn : plI F s q (i + 1) = plI F s q i ++ [(bestV F (partQ F s q ((ansQ F s q).getD i []))).plan] := by unfold plI; rw [hkn, List.map_append]; rfl
            have hlen : (plI F s q i).length + 1 = (plI F s q (i + 1)).length := by rw [hpn]; simp
            have hlt : (plI F s q i).length ≤ i := plI_len
            have hA8 : (ansQ F s q).length ≤ 8 := ansQ_len
            have hpl1 : (plI F s q i).length + 1 ≤ 9223372036854775807 := by omega
            have hpl2 : ((plI F s q i).length + 1) * 64 ≤ 140737488355328 := by omega
            have hd1 : -9223372036854775808 ≤ (bestV F (partQ F s q ((ansQ F s q).getD i []))).d + 1 := by omega
            have hd2 : (bestV F (partQ F s q ((ansQ F s q).getD i []))).d + 1 ≤ 9223372036854775807 := by omega
            have hin1 : -9223372036854775808 ≤ (i : Int) + 1 := by omega
            have hin2 : (i : Int) + 1 ≤ 9223372036854775807 := by omega
            have hall : pickB (allD (ksI F s q i)) (.s 73) (.c (.bool false)) (decide (0 ≤ (bestV F (partQ F s q ((ansQ F s q).getD i []))).d)) false = allD (ksI F s q (i + 1)) := by rw [pickB_and, hkn, allD_app]
            have hmax : max (maxD (ksI F s q i)) ((bestV F (partQ F s q ((ansQ F s q).getD i []))).d + 1) = maxD (ksI F s q (i + 1)) := by rw [hkn, maxD_app]
            repeat' (first | exact Int.natCast_nonneg _ | exact hiI | refine And.intro ?_ ?_ | exact trivial | exact rfl)
            refine MLook.of_some hpart ?_
            repeat' (first | refine And.intro ?_ ?_ | exact trivial | exact rfl)
            refine Exists.intro (XK.mk F (partQ F s q ((ansQ F s q).getD i [])) l c) (Exists.intro [0, 1, 2, 3] ?_)
            repeat' (first | exact hlN | exact hplt | exact hpc | exact hF | exact hD | refine And.intro ?_ ?_ | exact trivial | exact rfl | exact sub_lc (fun a => sub_strN _ _ _ a) | exact sub_lc0 (fun a => sub_strN _ _ _ a) | exact fun (j : Nat) (hj : j < _) => Or.inl (sub_strN _ _ _ _) | exact sub_lc (fun a => sub_natN _ _ _ a) | exact fun (j : Nat) (hj : j < _) => Or.inl (sub_fx _ _ _ _ rfl hj) | exact sub_pCC rfl | exact sub_pRC rfl | exact same_ent2 (p := sub _ _ 200) (fun v => sub_kn rfl v) | exact same_ent2 (p := sub _ _ 200) (fun v => sub_rk rfl v) | exact ent_nu)
            refine fun (z : KL × Nat) (hz : DoneOk F z.1) => ?_
            repeat' (first | refine And.intro ?_ ?_ | exact trivial | exact rfl)
            · exact hpl1
            · exact hpl2
            · exact hd1
            · exact hd2
            · exact hin1
            · exact hin2
            refine Exists.intro (XI.mk (i + 1) z.1 z.2) (And.intro ⟨hil, hz⟩ (And.intro ?_ ?_))
            · repeat' (first | exact hall | exact hmax | exact hlen | (refine sub_app3 hpn (fun a => Or.inr (And.intro rfl (imp_plan a))) (Or.inl ?_)) | refine And.intro ?_ ?_ | exact trivial | exact rfl | exact sub_lc (fun a => sub_strN _ _ _ a) | exact sub_lc0 (fun a => sub_strN _ _ _ a) | exact fun (j : Nat) (hj : j < _) => Or.inl (sub_strN _ _ _ _) | exact sub_lc (fun a => sub_natN _ _ _ a) | exact fun (j : Nat) (hj : j < _) => Or.inl (sub_fx _ _ _ _ rfl hj) | exact sub_pCC rfl | exact sub_pRC rfl | exact same_ent2 (p := sub _ _ 200) (fun v => sub_kn rfl v) | exact same_ent2 (p := sub _ _ 200) (fun v => sub_rk rfl v) | exact ent_nu)
            · show (ansQ F s q).length - (i + 1) < (ansQ F s q).length - i
              omega
          · have hil : i = (ansQ F s q).length := by have h1 : ¬ (i : Int) < ((ansQ F s q).length : Int) := of_decide_eq_false hb; omega
            have hks : ksI F s q i = (ansQ F s q).map fun a => bestV F (partQ F s q a) := by unfold ksI; rw [hil, List.take_length]
            have hin1 : -9223372036854775808 ≤ (q : Int) + 1 := by omega
            have hin2 : (q : Int) + 1 ≤ 9223372036854775807 := by have := hF.k8; omega
            repeat' (first | refine And.intro ?_ ?_ | exact trivial | exact rfl)
            · refine fun (h : pickB _ _ _ _ _ = true) => ?_
              have e1 := outQ_take h2 hks h
              repeat' (first | refine And.intro ?_ ?_ | exact trivial | exact rfl)
              · exact hin1
              · exact hin2
              refine Exists.intro (XQ.mk (q + 1) l c) (And.intro ⟨hqk, hD⟩ (And.intro ?_ ?_))
              · have hpl : plI F s q i = (outQ F s (q + 1)).L := congrArg Known.L e1.symm
                repeat' (first | exact congrArg Known.q e1.symm | exact congrArg Known.c e1.symm | exact congrArg Known.d e1.symm | exact congrArg (fun k => k.A.length) e1.symm | exact congrArg (fun k => k.L.length) e1.symm | exact sub_leq (congrArg Known.A e1.symm) | exact sub_peq rfl (congrArg Known.L e1.symm) | exact Nat.le_of_eq (Nat.zero_add _) | exact sub_peq0 rfl hpl | refine And.intro ?_ ?_ | exact trivial | exact rfl | exact sub_lc (fun a => sub_strN _ _ _ a) | exact sub_lc0 (fun a => sub_strN _ _ _ a) | exact fun (j : Nat) (hj : j < _) => Or.inl (sub_strN _ _ _ _) | exact sub_lc (fun a => sub_natN _ _ _ a) | exact fun (j : Nat) (hj : j < _) => Or.inl (sub_fx _ _ _ _ rfl hj) | exact sub_pCC rfl | exact sub_pRC rfl | exact same_ent2 (p := sub _ _ 200) (fun v => sub_kn rfl v) | exact same_ent2 (p := sub _ _ 200) (fun v => sub_rk rfl v) | exact ent_nu)
              · show F.k 0 - (q + 1) < F.k 0 - q
                omega
            · refine fun (h : pickB _ _ _ _ _ = false) => ?_
              have e1 := outQ_keep h2 hks h
              repeat' (first | refine And.intro ?_ ?_ | exact trivial | exact rfl)
              · exact hin1
              · exact hin2
              refine Exists.intro (XQ.mk (q + 1) l c) (And.intro ⟨hqk, hD⟩ (And.intro ?_ ?_))
              · repeat' (first | exact congrArg Known.q e1.symm | exact congrArg Known.c e1.symm | exact congrArg Known.d e1.symm | exact congrArg (fun k => k.A.length) e1.symm | exact congrArg (fun k => k.L.length) e1.symm | exact sub_leq (congrArg Known.A e1.symm) | exact sub_peq rfl (congrArg Known.L e1.symm) | refine And.intro ?_ ?_ | exact trivial | exact rfl | exact sub_lc (fun a => sub_strN _ _ _ a) | exact sub_lc0 (fun a => sub_strN _ _ _ a) | exact fun (j : Nat) (hj : j < _) => Or.inl (sub_strN _ _ _ _) | exact sub_lc (fun a => sub_natN _ _ _ a) | exact fun (j : Nat) (hj : j < _) => Or.inl (sub_fx _ _ _ _ rfl hj) | exact sub_pCC rfl | exact sub_pRC rfl | exact same_ent2 (p := sub _ _ 200) (fun v => sub_kn rfl v) | exact same_ent2 (p := sub _ _ 200) (fun v => sub_rk rfl v) | exact ent_nu)
              · show F.k 0 - (q + 1) < F.k 0 - q
                omega
      · have hqk : q = F.k 0 := by have h1 : ¬ (q : Int) < (F.k 0 : Int) := of_decide_eq_false hb; omega
        have e2 : outQ F s q = bestV F s := by rw [best_eq, hqk]; rfl
        repeat' (first | refine And.intro ?_ ?_ | exact trivial | exact rfl)
        cases hm : mget l (.i .u64 (s : Int)) with
        | some p =>
          obtain ⟨v, u⟩ := p
          refine MLook.of_some (mget_mapE hm) ?_
          repeat' (first | refine And.intro ?_ ?_ | exact trivial | exact rfl)
          refine Exists.intro (mput l (MKey.i .u64 (s : Int)) (bestV F s), c) (And.intro (done_put hD hm) ?_)
          repeat' (first | exact congrArg Known.q e2 | exact congrArg Known.c e2 | exact congrArg Known.d e2 | exact congrArg (fun k => k.A.length) e2 | exact congrArg (fun k => k.L.length) e2 | exact sub_leq (congrArg Known.A e2) | exact sub_peq rfl (congrArg Known.L e2) | exact len_mputE | (refine ent_mput (p := sub _ _ 200) (fun v => sub_kn rfl v) ?_) | refine And.intro ?_ ?_ | exact trivial | exact rfl | exact sub_lc (fun a => sub_strN _ _ _ a) | exact sub_lc0 (fun a => sub_strN _ _ _ a) | exact fun (j : Nat) (hj : j < _) => Or.inl (sub_strN _ _ _ _) | exact sub_lc (fun a => sub_natN _ _ _ a) | exact fun (j : Nat) (hj : j < _) => Or.inl (sub_fx _ _ _ _ rfl hj) | exact sub_pCC rfl | exact sub_pRC rfl | exact same_ent2 (p := sub _ _ 200) (fun v => sub_kn rfl v) | exact same_ent2 (p := sub _ _ 200) (fun v => sub_rk rfl v) | exact ent_nu)
        | none =>
          refine MLook.of_none (mget_mapN hm) ?_
          repeat' (first | refine And.intro ?_ ?_ | exact trivial | exact rfl)
          refine Exists.intro (l ++ [(MKey.i .u64 (s : Int), bestV F s, c)], c + 1) (And.intro (done_app hD hm) ?_)
          repeat' (first | exact congrArg Known.q e2 | exact congrArg Known.c e2 | exact congrArg Known.d e2 | exact congrArg (fun k => k.A.length) e2 | exact congrArg (fun k => k.L.length) e2 | exact sub_leq (congrArg Known.A e2) | exact sub_peq rfl (congrArg Known.L e2) | exact len_mappE | (refine ent_mapp (p := sub _ _ 200) (fun v => sub_kn rfl v) ?_) | refine And.intro ?_ ?_ | exact trivial | exact rfl | exact sub_lc (fun a => sub_strN _ _ _ a) | exact sub_lc0 (fun a => sub_strN _ _ _ a) | exact fun (j : Nat) (hj : j < _) => Or.inl (sub_strN _ _ _ _) | exact sub_lc (fun a => sub_natN _ _ _ a) | exact fun (j : Nat) (hj : j < _) => Or.inl (sub_fx _ _ _ _ rfl hj) | exact sub_pCC rfl | exact sub_pRC rfl | exact same_ent2 (p := sub _ _ 200) (fun v => sub_kn rfl v) | exact same_ent2 (p := sub _ _ 200) (fun v => sub_rk rfl v) | exact ent_nu)
end A8
