/- A part of the proof: see the last text. -/
import Derived.Test.YtnkkbbjljmbjbaaA4
open Go Go.Eng Go.Proofs A0 A1 A2 A3 A4
set_option maxRecDepth 100000
namespace A5
abbrev Ss := List (List UInt8)
theorem le_tr (a b c : List UInt8) (h1 : decide (a ≤ b) = true) (h2 : decide (b ≤ c) = true) : decide (a ≤ c) = true :=
  decide_eq_true (List.le_trans (of_decide_eq_true h1) (of_decide_eq_true h2))
theorem le_tot (a b : List UInt8) : (decide (a ≤ b) || decide (b ≤ a)) = true := by
  rcases List.le_total a b with h | h <;> simp [h]
/-- A sorted list is known by what it holds. -/
theorem sorted_uniq {l y : Ss} (hp : y.Perm l) (hs : y.Pairwise fun a b => decide (a ≤ b) = true) : sortedS l = y := by
  refine List.Perm.eq_of_pairwise (le := fun a b => decide (a ≤ b) = true) (fun a b _ _ h1 h2 => List.le_antisymm (of_decide_eq_true h1) (of_decide_eq_true h2)) (List.pairwise_mergeSort le_tr le_tot l) hs ?_
  exact (List.mergeSort_perm l _).trans hp.symm
theorem sorted_perm {l m : Ss} (h : l.Perm m) : sortedS l = sortedS m :=
  sorted_uniq ((List.mergeSort_perm m _).trans h.symm) (List.pairwise_mergeSort le_tr le_tot m)
theorem sorted_len (l : Ss) : (sortedS l).length = l.length := by unfold sortedS; rw [List.length_mergeSort]
theorem mem_sorted {l : Ss} {s : List UInt8} : s ∈ sortedS l ↔ s ∈ l := (List.mergeSort_perm l _).mem_iff
theorem nodup_sorted {l : Ss} (h : l.Nodup) : (sortedS l).Nodup := ((List.mergeSort_perm l _).nodup_iff).2 h
/-- slices.Sorted[string] -/
def g27 : List Nat := [0, 3, 2]
def c27 : SCode :=
  .seq (.region g27 [⟨some 2, none, .move (.c (.nilsl)), []⟩]) (.seq (.region g27 [⟨some 4, none, .move (.s 0), []⟩, ⟨some 5, none, .call (.c (.fn 29)) [.s 4], []⟩, ⟨some 3, none, .move (.s 5), []⟩]) (.seq (.region g27 [⟨some 6, none, .move (.s 3), []⟩, ⟨some 7, none, .call (.c (.fn 30)) [.s 6], []⟩]) (.seq (.region g27 [⟨some 8, none, .move (.s 3), []⟩, ⟨some 2, none, .move (.s 8), []⟩]) .ret)))
def r27 : List SRes := [.slot 2]
def k27 : List (Nat × Nat × SCode × Nat) := []
theorem e27 : cFunc Try.prog 27 g27 [] [] k27 = some (c27, r27, 9) := by kernel_rfl
theorem q27 : RgOk Try.prog k27 := RgOk.nil
def Sorted : Eng.MSpec where
  X := XM
  Y := Unit
  args := fun _ => .cons (.fn 31 (.cons (.own 1 0) .nil)) .nil
  pre := fun x => MOk x.l x.c ∧ x.l.length ≤ 20000
  h0 := fun x => [(0, mapO x), (1, .cells 59 (.cons (.mref 0) .nil))]
  nx0 := 2
  post := fun _ _ => True
  res := fun x _ => .lsl 2 1 (sortedS (keysOf x.l)).length
  h1 := fun x _ => [(0, mapO x), (1, .cells 59 (.cons (.mref 0) .nil)), (2, .arr 9 1 (sortedS (keysOf x.l)).length (lc strN [] (sortedS (keysOf x.l))))]
  nx1 := 3
theorem Sorted_ok : Sorted.Ok Try.prog 27 := by
  refine Eng.MSpec.ok_of e27 q27 (fun _ => [(29, .m Collect), (30, .m SortS)]) (fun _ _ => TabOk.m Collect_ok (TabOk.m SortS_ok TabOk.nil)) ?_
  rintro ⟨l, c⟩ ⟨hm, hl⟩
  replace hm : MOk l c := hm
  replace hl : l.length ≤ 20000 := hl
  refine ⟨trivial, ?_⟩
  repeat' (first | refine And.intro ?_ ?_ | exact trivial | exact rfl | exact same_ent2 (p := sub _ _ 200) (fun v => rfl))
  refine Exists.intro ⟨l, c⟩ (Exists.intro [0, 1] ?_)
  repeat' (first | exact hm | exact hl | refine And.intro ?_ ?_ | exact trivial | exact rfl | exact same_ent2 (p := sub _ _ 200) (fun v => rfl))
  refine fun (y : List (List UInt8)) (hy : y.Perm (keysOf l)) => ?_
  have hyl : y.length ≤ 20000 := by rw [hy.length_eq]; unfold keysOf; rw [List.length_map]; exact hl
  have hys : y.length < 4611686018427387904 := by omega
  have he : sortedS y = sortedS (keysOf l) := sorted_perm hy
  repeat' (first | refine And.intro ?_ ?_ | exact trivial | exact rfl | exact same_ent2 (p := sub _ _ 200) (fun v => rfl))
  refine Exists.intro y (Exists.intro [2] ?_)
  repeat' (first | exact hys | refine And.intro ?_ ?_ | exact trivial | exact rfl | exact same_ent2 (p := sub _ _ 200) (fun v => rfl) | exact sub_lc (fun a => sub_strN _ _ _ a) | exact sub_lc0 (fun a => sub_strN _ _ _ a) | exact fun (j : Nat) (hj : j < _) => Or.inl (sub_strN _ _ _ _))
  refine fun (_ : Unit) (_ : True) => ?_
  repeat' (first | refine And.intro ?_ ?_ | exact trivial | exact rfl | exact same_ent2 (p := sub _ _ 200) (fun v => rfl))
  refine Exists.intro () (And.intro trivial ?_)
  rw [he]
  repeat' (first | refine And.intro ?_ ?_ | exact trivial | exact rfl | exact same_ent2 (p := sub _ _ 200) (fun v => rfl) | exact sub_lc (fun a => sub_strN _ _ _ a) | exact sub_lc0 (fun a => sub_strN _ _ _ a) | exact fun (j : Nat) (hj : j < _) => Or.inl (sub_strN _ _ _ _))
  exact hy.length_eq.trans (sorted_len _).symm
/-! ### sorted -/
def dd : Ss → Ss
  | [] => []
  | x :: r => if x ∈ dd r then dd r else x :: dd r
theorem mem_dd {l : Ss} {s : List UInt8} : s ∈ dd l ↔ s ∈ l := by
  induction l with
  | nil => exact Iff.rfl
  | cons x r ih =>
    simp only [dd]
    split
    · rename_i h
      rw [ih, List.mem_cons]
      refine ⟨.inr, ?_⟩
      rintro (rfl | h')
      · exact ih.1 h
      · exact h'
    · rw [List.mem_cons, List.mem_cons, ih]
theorem nodup_dd (l : Ss) : (dd l).Nodup := by
  induction l with
  | nil => exact List.nodup_nil
  | cons x r ih =>
    simp only [dd]
    split
    · exact ih
    · rename_i h
      exact List.nodup_cons.2 ⟨h, ih⟩
theorem dd_len (l : Ss) : (dd l).length ≤ l.length := by
  induction l with
  | nil => exact Nat.le_refl _
  | cons x r ih =>
    simp only [dd]
    split
    · exact Nat.le_trans ih (by simp)
    · simpa using ih
/-! Insertion, for computing -/
def ins (x : List UInt8) : Ss → Ss
  | [] => [x]
  | y :: r => if x ≤ y then x :: y :: r else y :: ins x r
def isort : Ss → Ss
  | [] => []
  | x :: r => ins x (isort r)
theorem ins_perm (x : List UInt8) : ∀ l, (ins x l).Perm (x :: l) := by
  intro l
  induction l with
  | nil => exact List.Perm.refl _
  | cons y r ih =>
    simp only [ins]
    split
    · exact List.Perm.refl _
    · exact (ih.cons y).trans (List.Perm.swap _ _ _)
theorem isort_perm : ∀ l, (isort l).Perm l := by
  intro l
  induction l with
  | nil => exact List.Perm.refl _
  | cons x r ih => exact (ins_perm x _).trans (ih.cons x)
theorem ins_sorted (x : List UInt8) : ∀ l : Ss, (l.Pairwise fun a b => decide (a ≤ b) = true) → (ins x l).Pairwise fun a b => decide (a ≤ b) = true := by
  intro l
  induction l with
  | nil => intro _; exact List.pairwise_singleton _ _
  | cons y r ih =>
    intro h
    obtain ⟨h1, h2⟩ := List.pairwise_cons.1 h
    simp only [ins]
    split
    · rename_i hxy
      refine List.pairwise_cons.2 ⟨fun z hz => ?_, h⟩
      rcases List.mem_cons.1 hz with e | e
      · rw [e]; exact decide_eq_true hxy
      · exact le_tr x y z (decide_eq_true hxy) (h1 z e)
    · rename_i hxy
      refine List.pairwise_cons.2 ⟨fun z hz => ?_, ih h2⟩
      rcases List.mem_cons.1 ((ins_perm x r).mem_iff.1 hz) with e | e
      · rw [e]
        have := le_tot x y
        simp only [decide_eq_false hxy, Bool.false_or] at this
        exact this
      · exact h1 z e
theorem isort_sorted : ∀ l : Ss, (isort l).Pairwise fun a b => decide (a ≤ b) = true := by
  intro l
  induction l with
  | nil => exact List.Pairwise.nil
  | cons x r ih => exact ins_sorted x _ ih
/-- The different texts of a list, in order. -/
def distS (l : Ss) : Ss := isort (dd l)
theorem distS_eq (l : Ss) : sortedS (dd l) = distS l := sorted_uniq (isort_perm _) (isort_sorted _)
theorem mem_distS {l : Ss} {s : List UInt8} : s ∈ distS l ↔ s ∈ l := ((isort_perm _).mem_iff).trans mem_dd
theorem nodup_distS (l : Ss) : (distS l).Nodup := ((isort_perm _).nodup_iff).2 (nodup_dd l)
theorem distS_len (l : Ss) : (distS l).length ≤ l.length := by
  unfold distS
  rw [(isort_perm _).length_eq]
  exact dd_len l
def txL (t : Tx) : Ss := (List.range t.n).map t.s
def txN (t : Tx) (i : Nat) : Ss := (List.range i).map t.s
structure XB where
  i : Nat
  l : IL
  c : Nat
structure IB (t : Tx) (x : XB) : Prop where
  i : x.i ≤ t.n
  m : MOk x.l x.c
  n : x.l.length ≤ x.i
  k : ∀ s, s ∈ keysOf x.l ↔ s ∈ txN t x.i
theorem keys_nodup {l : IL} {c : Nat} (h : MOk l c) : (keysOf l).Nodup := by
  unfold keysOf
  have key : ∀ {l : IL}, (l.map (·.1)).Nodup → (∀ x ∈ l, ∃ s, x.1 = .s s) → (l.map fun x => keyS x.1).Nodup := by
    intro l
    induction l with
    | nil => intro _ _; exact List.nodup_nil
    | cons x r ih =>
      intro hn hs
      simp only [List.map_cons, List.nodup_cons] at hn ⊢
      refine ⟨fun hm => hn.1 ?_, ih hn.2 fun y hy => hs y (List.mem_cons_of_mem _ hy)⟩
      obtain ⟨y, hy, he⟩ := List.mem_map.1 hm
      obtain ⟨s, h1⟩ := hs x (List.mem_cons_self ..)
      obtain ⟨s', h2⟩ := hs y (List.mem_cons_of_mem _ hy)
      refine List.mem_map.2 ⟨y, hy, ?_⟩
      show y.1 = x.1
      rw [h1, h2] at he ⊢
      exact congrArg MKey.s he
  exact key h.nk h.s
theorem mem_keys {l : IL} {c : Nat} (h : MOk l c) {s : List UInt8} : s ∈ keysOf l ↔ MKey.s s ∈ l.map (·.1) := by
  unfold keysOf
  rw [List.mem_map, List.mem_map]
  constructor
  · rintro ⟨x, hx, e⟩
    obtain ⟨s', h1⟩ := h.s x hx
    refine ⟨x, hx, ?_⟩
    rw [h1] at e ⊢
    exact congrArg MKey.s e
  · rintro ⟨x, hx, e⟩
    exact ⟨x, hx, by rw [e]; rfl⟩
theorem ib_start (t : Tx) : IB t ⟨0, [], 0⟩ := ⟨Nat.zero_le _, ⟨fun _ h => (by cases h), List.nodup_nil, List.nodup_nil, fun _ h => (by cases h)⟩, Nat.le_refl _, fun _ => Iff.rfl⟩
theorem ib_done {t : Tx} {l : IL} {c : Nat} (h : IB t ⟨t.n, l, c⟩) : sortedS (keysOf l) = distS (txL t) :=
  Eq.trans (sorted_perm ((List.perm_ext_iff_of_nodup (keys_nodup h.m) (nodup_dd _)).2 fun s => (h.k s).trans mem_dd.symm)) (distS_eq _)
theorem txN_next {t : Tx} {i : Nat} {s : List UInt8} : s ∈ txN t (i + 1) ↔ s ∈ txN t i ∨ s = t.s i := by
  unfold txN
  rw [List.range_succ, List.map_append, List.mem_append]
  simp
theorem ib_new {t : Tx} {i : Nat} {l : IL} {c : Nat} (h : IB t ⟨i, l, c⟩) (hi : i < t.n) (hm : mget l (.s (t.s i)) = none) : IB t ⟨i + 1, l ++ [(.s (t.s i), true, c)], c + 1⟩ := by
  have hno := mget_none.1 hm
  refine ⟨hi, ⟨?_, ?_, ?_, ?_⟩, ?_, ?_⟩
  · intro x hx
    rcases List.mem_append.1 hx with hx | hx
    · exact Nat.lt_succ_of_lt (h.m.t x hx)
    · rw [List.mem_singleton.1 hx]
      exact Nat.lt_succ_self _
  · rw [List.map_append]
    refine List.nodup_append.2 ⟨h.m.nt, by simp, ?_⟩
    intro a ha b hb e
    obtain ⟨x, hx, rfl⟩ := List.mem_map.1 ha
    have := h.m.t x hx
    have hb' : b = c := by simpa using hb
    have : x.2.2 = c := e.trans hb'
    dsimp only at *
    omega
  · rw [List.map_append]
    refine List.nodup_append.2 ⟨h.m.nk, by simp, ?_⟩
    intro a ha b hb e
    have hb' : b = .s (t.s i) := by simpa using hb
    exact hno (by rw [← hb', ← e]; exact ha)
  · intro x hx
    rcases List.mem_append.1 hx with hx | hx
    · exact h.m.s x hx
    · rw [List.mem_singleton.1 hx]
      exact ⟨_, rfl⟩
  · have := h.n
    dsimp only at this ⊢
    rw [List.length_append, List.length_singleton]
    omega
  · intro s
    rw [txN_next]
    unfold keysOf
    rw [List.map_append, List.mem_append]
    have hk := h.k s
    unfold keysOf at hk
    rw [hk]
    simp [keyS]
theorem mput_keys {V : Type} {k : MKey} {v : V} : ∀ {l : List (MKey × V × Nat)}, (mput l k v).map (·.1) = l.map (·.1) ∧ (mput l k v).map (·.2.2) = l.map (·.2.2) := by
  intro l
  induction l with
  | nil => exact ⟨rfl, rfl⟩
  | cons x r ih =>
    simp only [mput]
    split
    · rename_i h
      exact ⟨by simp [h], by simp⟩
    · exact ⟨by simp [ih.1], by simp [ih.2]⟩
theorem ib_old {t : Tx} {i : Nat} {l : IL} {c : Nat} {v : Bool} {u : Nat} (h : IB t ⟨i, l, c⟩) (hi : i < t.n) (hm : mget l (.s (t.s i)) = some (v, u)) : IB t ⟨i + 1, mput l (.s (t.s i)) true, c⟩ := by
  have hk := mput_keys (l := l) (k := .s (t.s i)) (v := true)
  have hm2 : MOk (mput l (.s (t.s i)) true) c := by
    refine ⟨fun x hx => ?_, by rw [hk.2]; exact h.m.nt, by rw [hk.1]; exact h.m.nk, fun x hx => ?_⟩
    · have : x.2.2 ∈ (mput l (.s (t.s i)) true).map (·.2.2) := List.mem_map.2 ⟨x, hx, rfl⟩
      rw [hk.2] at this
      obtain ⟨y, hy, e⟩ := List.mem_map.1 this
      rw [← e]
      exact h.m.t y hy
    · have : x.1 ∈ (mput l (.s (t.s i)) true).map (·.1) := List.mem_map.2 ⟨x, hx, rfl⟩
      rw [hk.1] at this
      obtain ⟨y, hy, e⟩ := List.mem_map.1 this
      rw [← e]
      exact h.m.s y hy
  refine ⟨hi, hm2, ?_, fun s => ?_⟩
  · have := congrArg List.length hk.1
    rw [List.length_map, List.length_map] at this
    have h2 := h.n
    dsimp only at h2 ⊢
    omega
  · rw [mem_keys hm2, hk.1, ← mem_keys h.m, h.k, txN_next]
    refine ⟨.inl, ?_⟩
    rintro (h' | rfl)
    · exact h'
    · rw [← h.k, mem_keys h.m]
      exact List.mem_map.2 ⟨_, mget_mem hm, rfl⟩
/-- gazetteer/ask.sorted[string] -/
def g24 : List Nat := [0, 8, 10, 7, 5, 9, 3, 2]
def c24 : SCode :=
  .seq (.region g24 [⟨some 2, none, .move (.c (.nilsl)), []⟩]) (.seq (.region g24 [⟨some 6, none, .mkmap (.s), []⟩, ⟨some 3, none, .move (.s 6), []⟩]) (.seq (.seq (.region g24 [⟨some 7, none, .move (.s 0), []⟩, ⟨some 8, none, .lenSl (.s 7), []⟩, ⟨some 9, none, .move (.c (.int .i64 0)), []⟩]) (.block 0 (.loop 0 [10, 11, 12, 5, 13, 14, 15, 9] (.seq (.region g24 [⟨some 10, none, .bin (.lss) (.s 9) (.s 8), []⟩]) (.seq (.cond (.s 10) .skip (.exit 0)) (.seq (.block 1 (.seq (.region g24 [⟨some 11, none, .idxSl 1 (.s 7) (.s 9), []⟩, ⟨some 12, none, .load 1 false (.s 11), []⟩, ⟨some 5, none, .move (.s 12), []⟩]) (.region g24 [⟨some 13, none, .move (.s 3), []⟩, ⟨some 14, none, .move (.s 5), []⟩, ⟨none, none, .mupd (.s) (.s 13) (.s 14) (.c (.bool true)), []⟩]))) (.region g24 [⟨some 15, none, .bin (.add) (.s 9) (.c (.int .i64 1)), []⟩, ⟨some 9, none, .move (.s 15), []⟩]))))))) (.seq (.region g24 [⟨some 16, none, .move (.s 3), []⟩, ⟨some 17, none, .call (.c (.fn 28)) [.s 16], []⟩, ⟨some 18, none, .call (.c (.fn 27)) [.s 17], []⟩, ⟨some 2, none, .move (.s 18), []⟩]) .ret)))
def r24 : List SRes := [.slot 2]
def k24 : List (Nat × Nat × SCode × Nat) := []
theorem e24 : cFunc Try.prog 24 g24 [] [] k24 = some (c24, r24, 19) := by kernel_rfl
theorem q24 : RgOk Try.prog k24 := RgOk.nil
def sorted : Eng.Spec where
  X := Tx
  args := fun t => .cons (txE t.n t.s) .nil
  pre := fun t => t.n ≤ 20000
  res := fun t => .slice 1 (distS (txL t)).length (lc strN [] (distS (txL t)))
  inst := fun
    | .cons (.slice _ n e) .nil => some ⟨n, fun j => hdS (e j)⟩
    | _ => none
theorem sorted_ok : sorted.Ok Try.prog 24 := by
  refine Eng.Spec.ok_of e24 q24 (fun _ => [(28, .m Keys), (27, .m Sorted)]) (fun _ _ => TabOk.m Keys_ok (TabOk.m Sorted_ok TabOk.nil)) ?_
  intro t hn
  replace hn : t.n ≤ 20000 := hn
  refine ⟨trivial, ?_⟩
  repeat' (first | refine And.intro ?_ ?_ | exact trivial | exact rfl)
  refine ⟨⟨XB, IB t, fun x => [(9, .int .i64 (x.i : Int))], fun x => [(0, .map Bool .s x.l x.c SV.bool boD)], fun x => t.n - x.i⟩, ⟨0, [], 0⟩, ib_start t, ?_, ?_⟩
  · repeat' (first | refine And.intro ?_ ?_ | exact trivial | exact rfl | exact sub_lc (fun a => sub_strN _ _ _ a) | exact sub_lc0 (fun a => sub_strN _ _ _ a) | exact fun (j : Nat) (hj : j < _) => Or.inl (sub_strN _ _ _ _) | exact ent_nil | exact same_ent2 (p := sub _ _ 200) (fun v => rfl))
  rintro ⟨i, l, c⟩ hB
  replace hB : IB t ⟨i, l, c⟩ := hB
  have hi : i ≤ t.n := hB.i
  have hln : l.length ≤ 20000 := Nat.le_trans hB.n (Nat.le_trans hi hn)
  refine And.intro (fun hb => ?_) (fun hb => ?_)
  · have hil : i < t.n := by have h1 : (i : Int) < (t.n : Int) := of_decide_eq_true hb; omega
    repeat' (first | refine And.intro ?_ ?_ | exact trivial | exact rfl | exact same_ent2 (p := sub _ _ 200) (fun v => rfl) | exact sub_lc (fun a => sub_strN _ _ _ a) | exact sub_lc0 (fun a => sub_strN _ _ _ a) | exact fun (j : Nat) (hj : j < _) => Or.inl (sub_strN _ _ _ _) | omega | (dsimp only; omega))
    cases hm : mget l (.s (t.s i)) with
    | none =>
      refine MLook.of_none hm ?_
      repeat' (first | refine And.intro ?_ ?_ | exact trivial | exact rfl | omega | (dsimp only; omega))
      refine Exists.intro (XB.mk (i + 1) _ _) (And.intro (ib_new hB hil hm) (And.intro ?_ ?_))
      · repeat' (first | refine And.intro ?_ ?_ | exact trivial | exact rfl | exact same_ent2 (p := sub _ _ 200) (fun v => rfl) | exact sub_lc (fun a => sub_strN _ _ _ a) | exact sub_lc0 (fun a => sub_strN _ _ _ a) | exact fun (j : Nat) (hj : j < _) => Or.inl (sub_strN _ _ _ _) | fail)
      · show t.n - (i + 1) < t.n - i
        omega
    | some q =>
      obtain ⟨v, u⟩ := q
      refine MLook.of_some hm ?_
      repeat' (first | refine And.intro ?_ ?_ | exact trivial | exact rfl | omega | (dsimp only; omega))
      refine Exists.intro (XB.mk (i + 1) _ _) (And.intro (ib_old hB hil hm) (And.intro ?_ ?_))
      · repeat' (first | refine And.intro ?_ ?_ | exact trivial | exact rfl | exact same_ent2 (p := sub _ _ 200) (fun v => rfl) | exact sub_lc (fun a => sub_strN _ _ _ a) | exact sub_lc0 (fun a => sub_strN _ _ _ a) | exact fun (j : Nat) (hj : j < _) => Or.inl (sub_strN _ _ _ _) | fail)
      · show t.n - (i + 1) < t.n - i
        omega
  · have hil : i = t.n := by have h1 : ¬ (i : Int) < (t.n : Int) := of_decide_eq_false hb; omega
    have he : sortedS (keysOf l) = distS (txL t) := ib_done (by rw [← hil]; exact hB)
    have hmk : MOk l c := hB.m
    repeat' (first | refine And.intro ?_ ?_ | exact trivial | exact rfl | exact same_ent2 (p := sub _ _ 200) (fun v => rfl) | exact sub_lc (fun a => sub_strN _ _ _ a) | exact sub_lc0 (fun a => sub_strN _ _ _ a) | exact fun (j : Nat) (hj : j < _) => Or.inl (sub_strN _ _ _ _))
    refine Exists.intro (XM.mk l c) (Exists.intro [0] ?_)
    repeat' (first | refine And.intro ?_ ?_ | exact trivial | exact rfl | exact same_ent2 (p := sub _ _ 200) (fun v => rfl))
    refine fun (_ : Unit) (_ : True) => ?_
    repeat' (first | refine And.intro ?_ ?_ | exact trivial | exact rfl | exact same_ent2 (p := sub _ _ 200) (fun v => rfl))
    refine Exists.intro (XM.mk l c) (Exists.intro [0, 1] ?_)
    repeat' (first | exact hmk | exact hln | refine And.intro ?_ ?_ | exact trivial | exact rfl | exact same_ent2 (p := sub _ _ 200) (fun v => rfl))
    refine fun (_ : Unit) (_ : True) => ?_
    repeat' (first | refine And.intro ?_ ?_ | exact trivial | exact rfl | exact same_ent2 (p := sub _ _ 200) (fun v => rfl))
    · exact congrArg List.length he
    · exact Nat.le_of_eq (Nat.zero_add _)
    · exact sub_rn0 he
end A5
