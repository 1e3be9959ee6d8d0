/- A part of the proof: see the last text. -/
import Derived.Test.YtcckdpimimkejaaG11
open Go Go.Eng Go.Proofs G1 G2 G3 G4 G5 G6 G7 G8 G9 G10 G11
set_option maxRecDepth 100000
namespace G12
def lcP (L : List Pt) : Nat → SV := fun j => ptL (L.getD j (0, 0))
theorem sub_ab {k : Keep} {hp : List (Nat × HObj)} {m : Nat} {a b : Pt} : ∀ j, j < 2 → SubC k (sub k hp (m + 4)) (nthE (.cons (ptL a) (.cons (ptL b) .nil)) j) (lcP [a, b] j) := by
  intro j hj
  match j, hj with
  | 0, _ => exact Or.inl (sub_ptN _ _ _ _)
  | 1, _ => exact Or.inl (sub_ptN _ _ _ _)
theorem sub_apP {k : Keep} {hp : List (Nat × HObj)} {m : Nat} {L : List Pt} {q : Pt} {e : Nat → SV} (he : e 0 = ptL q) : ∀ j, j < L.length + 1 → SubC k (sub k hp (m + 4)) (appE L.length (lcP L) e j) (lcP (L ++ [q]) j) := by
  intro j hj
  have : appE L.length (lcP L) e j = lcP (L ++ [q]) j := by
    unfold appE lcP
    rw [List.getD_eq_getElem?_getD, List.getD_eq_getElem?_getD]
    by_cases hl : j < L.length
    · have hb : Nat.blt j L.length = true := by rw [Nat.blt_eq]; exact hl
      rw [hb, cond_true, List.getElem?_append_left hl]
    · have hb : Nat.blt j L.length = false := by
        cases h : Nat.blt j L.length with
        | false => rfl
        | true => rw [Nat.blt_eq] at h; exact absurd h hl
      have e2 : j = L.length := by omega
      rw [hb, cond_false, List.getElem?_append_right (by omega), e2, Nat.sub_self]
      simpa using he
  rw [this]
  exact Or.inl (sub_ptN _ _ _ _)
theorem sub_atQ {k : Keep} {hp : List (Nat × HObj)} {m : Nat} {L : List Pt} {nm : List (Nat × Nat)} : ∀ j, j < L.length → SubC k (sub k hp (m + 4)) (rnS nm (atL ptL L j)) (ptL (L.getD j (0, 0))) := by
  intro j hj
  have : atL ptL L j = ptL (L.getD j (0, 0)) := by
    unfold atL
    rw [List.getD_eq_getElem?_getD, List.getElem?_eq_getElem hj]
    rfl
  rw [this]
  exact Or.inl (sub_ptN _ _ _ _)
theorem sub_atP {k : Keep} {hp : List (Nat × HObj)} {m : Nat} {L : List Pt} : ∀ j, j < L.length → SubC k (sub k hp (m + 4)) (lcP L j) (atL ptL L j) := by
  intro j hj
  have : atL ptL L j = lcP L j := by
    unfold atL lcP
    rw [List.getD_eq_getElem?_getD, List.getElem?_eq_getElem hj]
    rfl
  rw [this]
  exact Or.inl (sub_ptN _ _ _ _)
theorem sub_apQ {k : Keep} {hp : List (Nat × HObj)} {m n : Nat} {L M : List Pt} {q : Pt} {e : Nat → SV} (hM : M = L ++ [q]) (he : e 0 = ptL q) (hn : n = L.length + 1) : ∀ j, j < n → SubC k (sub k hp (m + 4)) (appE L.length (lcP L) e j) (lcP M j) := by
  rw [hM, hn]
  exact sub_apP he
theorem sub_eqP {k : Keep} {hp : List (Nat × HObj)} {m n : Nat} {L M : List Pt} (hM : M = L) : ∀ j, j < n → SubC k (sub k hp (m + 4)) (lcP L j) (lcP M j) := by
  rw [hM]
  exact fun _ _ => Or.inl (sub_ptN _ _ _ _)
theorem one_all {p : Pt} : ∀ j, j < 1 → allOne (nthE (.cons (ptL p) .nil) (0 + j)) = true := by
  intro j hj
  match j, hj with
  | 0, _ => rfl
theorem stK_succ {a b : Pt} {s : Pts} {k : Nat} : stK a b s (k + 1) = stK a b s k ++ [s.p k].filter fun u => betV u a b := by
  unfold G11.stK
  rw [lsR_succ, List.filter_append, List.append_assoc]
theorem stK_yes {a b : Pt} {s : Pts} {k : Nat} (h : betV (s.p k) a b = true) : stK a b s (k + 1) = stK a b s k ++ [s.p k] := by
  rw [stK_succ]
  simp [h]
theorem stK_no {a b : Pt} {s : Pts} {k : Nat} (h : betV (s.p k) a b = false) : stK a b s (k + 1) = stK a b s k := by
  rw [stK_succ]
  simp [h]
theorem stK_len {a b : Pt} {s : Pts} {k : Nat} : 2 ≤ (stK a b s k).length ∧ (stK a b s k).length ≤ k + 2 := by
  unfold G11.stK
  have := List.length_filter_le (fun u => betV u a b) (lsR s.p k)
  have e : (lsR s.p k).length = k := by unfold lsR; simp
  simp only [List.length_append, List.length_cons, List.length_nil]
  omega
def middles : Eng.MSpec where
  X := Pts × Pts
  Y := Pts
  args := fun x => .cons (rgE x.1) (.cons (rgE x.2) .nil)
  pre := fun x => (x.1.n ≤ 50 ∧ OnR x.1) ∧ (x.2.n ≤ 50 ∧ OnR x.2)
  h0 := fun _ => []
  nx0 := 0
  post := fun x y => y.n ≤ 5000 ∧ ∀ m, m ∈ lsR y.p y.n ↔ m ∈ midL x.1 x.2
  res := fun _ y => .slice 2 y.n fun i => ptL (y.p i)
  h1 := fun _ _ => []
  nx1 := 0
def midZ (z : Pts) (j : Nat) : List Pt := lsR (fun j => addP (z.p j) (z.p (j + 1))) j
theorem zero_len {L : List Pt} {z : Pts} : L.length = (L ++ midZ z 0).length := by
  unfold midZ lsR
  simp
theorem midZ_len {L : List Pt} {z : Pts} {j : Nat} : (L ++ midZ z j).length = L.length + j := by
  unfold midZ lsR
  simp
theorem lsR_getD {L : List Pt} : lsR (fun j => L.getD j (0, 0)) L.length = L := by
  apply List.ext_getElem
  · unfold lsR; simp
  · intro i h1 h2
    unfold lsR
    simp [List.getElem?_eq_getElem h2]
theorem sub_lcR {k : Keep} {hp : List (Nat × HObj)} {m : Nat} {L : List Pt} : ∀ j, j < L.length → SubC k (sub k hp (m + 4)) (lcP L (0 + j)) (ptL (L.getD j (0, 0))) := by
  intro j _
  rw [Nat.zero_add]
  exact Or.inl (sub_ptN _ _ _ _)
structure XO where
  i : Nat
  L : List Pt
structure IO_ (r s : Pts) (x : XO) : Prop where
  hi : x.i ≤ r.n
  hl : x.L.length ≤ x.i * 60
  mem : ∀ m, m ∈ x.L ↔ m ∈ midK r s x.i
/-- (gazetteer/polygon.ring).sides$1 -/
def g72 : List Nat := [6, 8, 5, 0, 4, 3, 1, 23, 7]
def c72 : SCode :=
  .seq (.region g72 [⟨some 5, none, .load 1 false (.s 1), []⟩, ⟨some 6, none, .lenSl (.s 5), []⟩, ⟨some 7, none, .move (.c (.int .i64 0)), []⟩]) (.block 0 (.loop 0 [8, 9, 10, 11, 4, 3, 12, 13, 14, 15, 16, 17, 18, 19, 20, 21, 22, 23, 24, 7] (.seq (.region g72 [⟨some 8, none, .bin (.lss) (.s 7) (.s 6), []⟩]) (.seq (.cond (.s 8) .skip (.exit 0)) (.seq (.block 1 (.seq (.region g72 [⟨some 9, none, .move (.s 7), []⟩, ⟨some 10, none, .idxSl 2 (.s 5) (.s 7), []⟩, ⟨some 11, none, .load 2 true (.s 10), []⟩, ⟨some 4, none, .alloc 24 (.cons (.int .i64 0) (.cons (.int .i64 0) .nil)), []⟩, ⟨some 3, none, .move (.s 9), []⟩, ⟨none, none, .store 2 (.s 4) (.s 11), []⟩]) (.seq (.drawn g72 (.pure 0 ⟨some 12, none, .move (.s 0), []⟩ (.pure 1 ⟨some 13, none, .load 2 true (.s 4), []⟩ (.pure 2 ⟨some 14, none, .load 1 false (.s 1), []⟩ (.pure 3 ⟨some 15, none, .move (.s 3), []⟩ (.pure 4 ⟨some 16, none, .bin (.add) (.s 15) (.c (.int .i64 1)), []⟩ (.pure 5 ⟨some 17, none, .load 1 false (.s 1), []⟩ (.pure 6 ⟨some 18, none, .lenSl (.s 17), []⟩ (.pure 7 ⟨some 19, none, .bin (.rem) (.s 16) (.s 18), []⟩ (.pure 8 ⟨some 20, none, .idxSl 2 (.s 14) (.s 19), []⟩ (.pure 9 ⟨some 21, none, .load 2 true (.s 20), []⟩ (.eff 10 ⟨some 22, none, .call (.s 12) [.s 13, .s 21], []⟩ [] (.pure 11 ⟨some 23, none, .not (.s 22), []⟩ .done) .none)))))))))))) (.cond (.s 23) .ret .skip)))) (.region g72 [⟨some 24, none, .bin (.add) (.s 7) (.c (.int .i64 1)), []⟩, ⟨some 7, none, .move (.s 24), []⟩]))))))
def r72 : List SRes := []
def k72 : List (Nat × Nat × SCode × Nat) := []
theorem e72 : cFunc Try.prog 72 g72 [] [22] k72 = some (c72, r72, 25) := by kernel_rfl
theorem q72 : RgOk Try.prog k72 := RgOk.nil
/-- (gazetteer/polygon.ring).middles -/
def g49 : List Nat := [1, 0, 14, 15, 16, 3, 21, 23, 20, 7, 29, 10, 22, 6, 42, 44, 41, 8, 11, 12, 43, 5, 4]
def c49 : SCode :=
  .seq (.region g49 [⟨some 3, none, .box 47 (.s 1), []⟩, ⟨some 4, none, .move (.c (.nilsl)), []⟩]) (.seq (.region g49 [⟨some 5, none, .alloc 22 (.cons (.nilsl) .nil), []⟩]) (.seq (.seq (.region g49 [⟨some 13, none, .move (.s 0), []⟩, ⟨some 14, none, .call (.c (.fn 58)) [.s 13], []⟩]) (.block 0 (.range 0 (.s 14) 72 (c72) 25 [15, 16] (.seq (.region g49 [⟨some 6, none, .alloc 24 (.cons (.int .i64 0) (.cons (.int .i64 0) .nil)), []⟩, ⟨none, none, .store 2 (.s 6) (.s 15), []⟩]) (.region g49 [⟨some 7, none, .alloc 24 (.cons (.int .i64 0) (.cons (.int .i64 0) .nil)), []⟩, ⟨none, none, .store 2 (.s 7) (.s 16), []⟩])) (.block 1 (.seq (.region g49 [⟨some 17, none, .load 2 true (.s 6), []⟩, ⟨some 18, none, .load 2 true (.s 7), []⟩, ⟨some 19, none, .buildSl 24 2 2 (.cons (.int .i64 0) (.cons (.int .i64 0) .nil)) [(0, 2, .s 17), (2, 2, .s 18)], []⟩, ⟨some 8, none, .move (.s 19), []⟩]) (.seq (.seq (.region g49 [⟨some 20, none, .load 1 false (.s 3), []⟩, ⟨some 21, none, .lenSl (.s 20), []⟩, ⟨some 22, none, .move (.c (.int .i64 0)), []⟩]) (.block 2 (.loop 2 [23, 24, 25, 10, 26, 27, 28, 29, 30, 31, 32, 33, 8, 34, 22] (.seq (.region g49 [⟨some 23, none, .bin (.lss) (.s 22) (.s 21), []⟩]) (.seq (.cond (.s 23) .skip (.exit 2)) (.seq (.block 3 (.seq (.region g49 [⟨some 24, none, .idxSl 2 (.s 20) (.s 22), []⟩, ⟨some 25, none, .load 2 true (.s 24), []⟩, ⟨some 10, none, .alloc 24 (.cons (.int .i64 0) (.cons (.int .i64 0) .nil)), []⟩, ⟨none, none, .store 2 (.s 10) (.s 25), []⟩]) (.seq (.region g49 [⟨some 26, none, .load 2 true (.s 10), []⟩, ⟨some 27, none, .load 2 true (.s 6), []⟩, ⟨some 28, none, .load 2 true (.s 7), []⟩, ⟨some 29, none, .call (.c (.fn 26)) [.s 26, .s 27, .s 28], []⟩]) (.cond (.s 29) (.region g49 [⟨some 30, none, .move (.s 8), []⟩, ⟨some 31, none, .load 2 true (.s 10), []⟩, ⟨some 32, none, .buildSl 24 2 1 (.cons (.int .i64 0) (.cons (.int .i64 0) .nil)) [(0, 2, .s 31)], []⟩, ⟨some 33, none, .app 24 2 16 (.s 30) (.s 32), []⟩, ⟨some 8, none, .move (.s 33), []⟩]) .skip)))) (.region g49 [⟨some 34, none, .bin (.add) (.s 22) (.c (.int .i64 1)), []⟩, ⟨some 22, none, .move (.s 34), []⟩]))))))) (.seq (.region g49 [⟨some 35, none, .move (.s 8), []⟩, ⟨some 36, none, .mkfn 67 [.s 6], []⟩, ⟨some 37, none, .call (.c (.fn 66)) [.s 35, .s 36], []⟩]) (.seq (.region g49 [⟨some 38, none, .move (.s 8), []⟩, ⟨some 39, none, .call (.c (.fn 69)) [.s 38], []⟩, ⟨some 8, none, .move (.s 39), []⟩]) (.seq (.region g49 [⟨some 40, none, .move (.s 8), []⟩, ⟨some 41, none, .sliceSl 2 (.s 40) (some (.c (.int .i64 1))) none, []⟩, ⟨some 42, none, .lenSl (.s 41), []⟩, ⟨some 43, none, .move (.c (.int .i64 0)), []⟩]) (.block 4 (.loop 3 [44, 45, 46, 47, 12, 11, 48, 49, 50, 51, 52, 53, 54, 55, 56, 57, 58, 59, 60, 61, 62, 63, 64, 65, 66, 67, 68, 43] (.seq (.region g49 [⟨some 44, none, .bin (.lss) (.s 43) (.s 42), []⟩]) (.seq (.cond (.s 44) .skip (.exit 4)) (.seq (.block 5 (.seq (.region g49 [⟨some 45, none, .move (.s 43), []⟩, ⟨some 46, none, .idxSl 2 (.s 41) (.s 43), []⟩, ⟨some 47, none, .load 2 true (.s 46), []⟩, ⟨some 12, none, .alloc 24 (.cons (.int .i64 0) (.cons (.int .i64 0) .nil)), []⟩, ⟨some 11, none, .move (.s 45), []⟩, ⟨none, none, .store 2 (.s 12) (.s 47), []⟩]) (.drawn g49 (.pure 0 ⟨some 48, none, .load 1 false (.s 5), []⟩ (.pure 1 ⟨some 49, none, .move (.s 8), []⟩ (.pure 2 ⟨some 50, none, .move (.s 11), []⟩ (.pure 3 ⟨some 51, none, .idxSl 2 (.s 49) (.s 50), []⟩ (.pure 4 ⟨some 52, none, .fldA 0 (.s 51), []⟩ (.pure 5 ⟨some 53, none, .load 1 false (.s 52), []⟩ (.pure 6 ⟨some 54, none, .fldA 0 (.s 12), []⟩ (.pure 7 ⟨some 55, none, .load 1 false (.s 54), []⟩ (.pure 8 ⟨some 56, none, .bin (.add) (.s 53) (.s 55), []⟩ (.pure 9 ⟨some 57, none, .move (.s 8), []⟩ (.pure 10 ⟨some 58, none, .move (.s 11), []⟩ (.pure 11 ⟨some 59, none, .idxSl 2 (.s 57) (.s 58), []⟩ (.pure 12 ⟨some 60, none, .fldA 1 (.s 59), []⟩ (.pure 13 ⟨some 61, none, .load 1 false (.s 60), []⟩ (.pure 14 ⟨some 62, none, .fldA 1 (.s 12), []⟩ (.pure 15 ⟨some 63, none, .load 1 false (.s 62), []⟩ (.pure 16 ⟨some 64, none, .bin (.add) (.s 61) (.s 63), []⟩ (.pure 17 ⟨some 65, none, .build (.cons (.int .i64 0) (.cons (.int .i64 0) .nil)) [(0, 1, .s 56), (1, 1, .s 64)], []⟩ (.pure 18 ⟨some 66, none, .buildSl 24 2 1 (.cons (.int .i64 0) (.cons (.int .i64 0) .nil)) [(0, 2, .s 65)], []⟩ (.eff 19 ⟨some 67, none, .app 24 2 16 (.s 48) (.s 66), []⟩ [] (.eff 20 ⟨none, none, .store 1 (.s 5) (.s 67), []⟩ [] .done .none) .none))))))))))))))))))))))) (.region g49 [⟨some 68, none, .bin (.add) (.s 43) (.c (.int .i64 1)), []⟩, ⟨some 43, none, .move (.s 68), []⟩]))))))))))))))) (.seq (.region g49 [⟨some 69, none, .load 1 false (.s 5), []⟩, ⟨some 4, none, .move (.s 69), []⟩]) .ret)))
def r49 : List SRes := [.slot 4]
def k49 : List (Nat × Nat × SCode × Nat) := [(0, 72, c72, 25)]
theorem e49 : cFunc Try.prog 49 g49 [] [] k49 = some (c49, r49, 70) := by kernel_rfl
theorem q49 : RgOk Try.prog k49 := RgOk.cons (RgOk.nil) q72 e72
set_option maxHeartbeats 8000000 in
theorem middles_ok : middles.Ok Try.prog 49 := by
  refine Eng.MSpec.ok_of e49 q49 (fun _ => [(2097152, .own), (58, .p sides), (26, .p Between), (66, .m SortF), (69, .m Compact)]) (fun _ _ => TabOk.o (TabOk.p sides_ok (TabOk.p Between_ok (TabOk.m SortF_ok (TabOk.m Compact_ok TabOk.nil))))) ?_
  rintro ⟨r, s⟩ ⟨⟨hn, hr⟩, hsn, hs⟩
  replace hn : r.n ≤ 50 := hn
  replace hr : OnR r := hr
  replace hsn : s.n ≤ 50 := hsn
  replace hs : OnR s := hs
  refine ⟨trivial, ?_⟩
  repeat' (first | refine And.intro ?_ ?_ | exact trivial | exact rfl | exact fun (j : Nat) (hj : j < _) => Or.inl (sub_ptN _ _ _ _))
  refine ⟨⟨XO, IO_ r s, fun x => [(7, .int .i64 (x.i : Int))], fun x => [(1, .cells 22 (.cons (.lsl 20 2 x.L.length) .nil)), (20, .arr 24 2 x.L.length (lcP x.L))], fun x => r.n - x.i⟩, ⟨0, []⟩, ⟨Nat.zero_le _, Nat.zero_le _, fun _ => Iff.rfl⟩, ?_, ?_⟩
  · repeat' (first | refine And.intro ?_ ?_ | exact trivial | exact rfl | exact fun (j : Nat) (hj : j < _) => Or.inl (sub_ptN _ _ _ _))
  rintro ⟨i, L⟩ ⟨hi, hl, hmem⟩
  replace hi : i ≤ r.n := hi
  replace hl : L.length ≤ i * 60 := hl
  replace hmem : ∀ m, m ∈ L ↔ m ∈ midK r s i := hmem
  repeat' (first | refine And.intro ?_ ?_ | exact trivial | exact rfl | exact fun (j : Nat) (hj : j < _) => Or.inl (sub_ptN _ _ _ _))
  · refine fun (h : decide ((i : Int) < (r.n : Int)) = true) => ?_
    have hi1 : (i : Int) < (r.n : Int) := of_decide_eq_true h
    have hil : i < r.n := by omega
    have hi0 : (0 : Int) ≤ (i : Int) := by omega
    have b1 : -9223372036854775808 ≤ (i : Int) + 1 := by omega
    have b2 : (i : Int) + 1 ≤ 9223372036854775807 := by omega
    have hnz : (r.n : Int) ≠ 0 := by omega
    have hm := tmod_nx (i := i) (n := r.n) (by omega)
    have hq : r.p (((i : Int) + 1).tmod (r.n : Int)).toNat = nxt r i := by rw [hm]; rfl
    have hm1 : 0 ≤ ((i : Int) + 1).tmod (r.n : Int) := by rw [hm]; omega
    have hm2 : ((i : Int) + 1).tmod (r.n : Int) < (r.n : Int) := by rw [hm]; have := Nat.mod_lt (i + 1) (show 0 < r.n by omega); omega
    repeat' (first | with_reducible exact hi1 | with_reducible exact hi0 | with_reducible exact b1 | with_reducible exact b2 | with_reducible exact hnz | with_reducible exact hm1 | with_reducible exact hm2 | refine And.intro ?_ ?_ | exact trivial | exact rfl | exact fun (j : Nat) (hj : j < _) => Or.inl (sub_ptN _ _ _ _) | exact fun (h : (!true) = true) => Bool.noConfusion h | (refine fun (_ : (!true) = false) => ?_))
    refine ⟨⟨Nat, fun k => k ≤ s.n, fun k => [(22, .int .i64 (k : Int)), (8, .lsl 40 2 (stK (r.p i) (r.p (((i : Int) + 1).tmod (r.n : Int)).toNat) s k).length)], fun k => [(40, .arr 24 2 (stK (r.p i) (r.p (((i : Int) + 1).tmod (r.n : Int)).toNat) s k).length (lcP (stK (r.p i) (r.p (((i : Int) + 1).tmod (r.n : Int)).toNat) s k)))], fun k => s.n - k⟩, 0, Nat.zero_le _, ?_, ?_⟩
    · repeat' (first | refine And.intro ?_ ?_ | exact trivial | exact rfl | exact fun (j : Nat) (hj : j < _) => Or.inl (sub_ptN _ _ _ _) | exact sub_ab | exact sub_apP rfl | exact sub_atP)
    rintro (k : Nat) (hk : k ≤ s.n)
    have hS := stK_len (a := r.p i) (b := r.p (((i : Int) + 1).tmod (r.n : Int)).toNat) (s := s) (k := k)
    repeat' (first | refine And.intro ?_ ?_ | exact trivial | exact rfl | exact fun (j : Nat) (hj : j < _) => Or.inl (sub_ptN _ _ _ _) | exact sub_ab | exact sub_apP rfl | exact sub_atP)
    · refine fun (h : decide ((k : Int) < (s.n : Int)) = true) => ?_
      have ki1 : (k : Int) < (s.n : Int) := of_decide_eq_true h
      have kil : k < s.n := by omega
      have ki0 : (0 : Int) ≤ (k : Int) := by omega
      have c1 : -9223372036854775808 ≤ (k : Int) + 1 := by omega
      have c2 : (k : Int) + 1 ≤ 9223372036854775807 := by omega
      repeat' (first | with_reducible exact ki1 | with_reducible exact ki0 | refine And.intro ?_ ?_ | exact trivial | exact rfl | exact fun (j : Nat) (hj : j < _) => Or.inl (sub_ptN _ _ _ _))
      · refine fun (hb : betV (s.p k) (r.p i) (r.p (((i : Int) + 1).tmod (r.n : Int)).toNat) = true) => ?_
        have e1 := stK_yes hb
        have o1 : 0 + 1 ≤ 1 := Nat.le_refl 1
        have e2 : (stK (r.p i) (r.p (((i : Int) + 1).tmod (r.n : Int)).toNat) s k).length + 1 = (stK (r.p i) (r.p (((i : Int) + 1).tmod (r.n : Int)).toNat) s (k + 1)).length := by rw [e1]; simp
        have f1 : (stK (r.p i) (r.p (((i : Int) + 1).tmod (r.n : Int)).toNat) s k).length + 1 ≤ 9223372036854775807 := by omega
        have f2 : ((stK (r.p i) (r.p (((i : Int) + 1).tmod (r.n : Int)).toNat) s k).length + 1) * 16 ≤ 140737488355328 := by omega
        repeat' (first | with_reducible exact f1 | with_reducible exact f2 | with_reducible exact c1 | with_reducible exact c2 | with_reducible exact o1 | exact one_all | refine And.intro ?_ ?_ | exact trivial | exact rfl | exact fun (j : Nat) (hj : j < _) => Or.inl (sub_ptN _ _ _ _))
        refine Exists.intro (k + 1) ?_
        refine And.intro (show k + 1 ≤ s.n from kil) ?_
        repeat' (first | with_reducible exact e2 | exact sub_apQ e1 rfl rfl | refine And.intro ?_ ?_ | exact trivial | exact rfl | exact fun (j : Nat) (hj : j < _) => Or.inl (sub_ptN _ _ _ _))
        show s.n - (k + 1) < s.n - k
        omega
      · refine fun (hb : betV (s.p k) (r.p i) (r.p (((i : Int) + 1).tmod (r.n : Int)).toNat) = false) => ?_
        have e1 := stK_no hb
        have e2 : (stK (r.p i) (r.p (((i : Int) + 1).tmod (r.n : Int)).toNat) s k).length = (stK (r.p i) (r.p (((i : Int) + 1).tmod (r.n : Int)).toNat) s (k + 1)).length := by rw [e1]
        repeat' (first | with_reducible exact c1 | with_reducible exact c2 | refine And.intro ?_ ?_ | exact trivial | exact rfl | exact fun (j : Nat) (hj : j < _) => Or.inl (sub_ptN _ _ _ _))
        refine Exists.intro (k + 1) ?_
        refine And.intro (show k + 1 ≤ s.n from kil) ?_
        repeat' (first | with_reducible exact e2 | exact sub_eqP e1 | refine And.intro ?_ ?_ | exact trivial | exact rfl | exact fun (j : Nat) (hj : j < _) => Or.inl (sub_ptN _ _ _ _))
        show s.n - (k + 1) < s.n - k
        omega
    refine fun (h : decide ((k : Int) < (s.n : Int)) = false) => ?_
    have ki1 : ¬ (k : Int) < (s.n : Int) := of_decide_eq_false h
    have ek : k = s.n := by omega
    have hqb : onB (r.p (((i : Int) + 1).tmod (r.n : Int)).toNat) = true := by rw [hq]; exact nxt_on hr hil
    have hso := stops_on (s := s) (k := k) (hr i hil) hqb
    have hdom : (stK (r.p i) (r.p (((i : Int) + 1).tmod (r.n : Int)).toNat) s k).length < 4611686018427387904 ∧ ∀ y ∈ stK (r.p i) (r.p (((i : Int) + 1).tmod (r.n : Int)).toNat) s k, domP (r.p i) y := ⟨by omega, fun y hy => ⟨hr i hil, (hso y hy).1⟩⟩
    repeat' (first | refine And.intro ?_ ?_ | exact trivial | exact rfl | exact fun (j : Nat) (hj : j < _) => Or.inl (sub_ptN _ _ _ _))
    refine Exists.intro (r.p i, stK (r.p i) (r.p (((i : Int) + 1).tmod (r.n : Int)).toNat) s k) (Exists.intro [40] ?_)
    refine And.intro hdom ?_
    repeat' (first | refine And.intro ?_ ?_ | exact trivial | exact rfl | exact fun (j : Nat) (hj : j < _) => Or.inl (sub_ptN _ _ _ _) | exact sub_atP)
    refine fun (y : List Pt) (hy : y.Perm (stK (r.p i) (r.p (((i : Int) + 1).tmod (r.n : Int)).toNat) s k) ∧ y.Pairwise (fun p q => ltOf (nearF (r.p i)) q p = false)) => ?_
    have hyl := hy.1.length_eq
    have hylr := hyl.symm
    have hcp : 2 ≤ y.length ∧ y.length ≤ 1000 := ⟨by omega, by omega⟩
    repeat' (first | refine And.intro ?_ ?_ | exact trivial | exact rfl | exact fun (j : Nat) (hj : j < _) => Or.inl (sub_ptN _ _ _ _))
    refine Exists.intro (Pts.mk y.length fun j => y.getD j (0, 0)) (Exists.intro [40] ?_)
    refine And.intro hcp ?_
    repeat' (first | with_reducible exact hylr | exact sub_atQ | refine And.intro ?_ ?_ | exact trivial | exact rfl | exact fun (j : Nat) (hj : j < _) => Or.inl (sub_ptN _ _ _ _))
    refine fun (z : Pts) (hz : 1 ≤ z.n ∧ z.n ≤ y.length ∧ lsR z.p z.n = ddL (fun j => y.getD j (0, 0)) y.length) => ?_
    have hz1 := hz.1
    have hz2 := hz.2.1
    have z0 : (0 : Int) ≤ 1 := by decide
    have z1 : (1 : Int) ≤ (z.n : Int) := by omega
    have hzon : ∀ j, j < z.n → onB (z.p j) = true := fun j hj => by
      have h1 : z.p j ∈ lsR z.p z.n := mem_lsR.2 ⟨j, hj, rfl⟩
      rw [hz.2.2] at h1
      obtain ⟨t, ht, e⟩ := mem_ddL.1 h1
      have h2 : z.p j ∈ y := by
        rw [← e, List.getD_eq_getElem?_getD, List.getElem?_eq_getElem ht]
        exact List.getElem_mem ht
      exact (hso _ (hy.1.mem_iff.1 h2)).1
    repeat' (first | with_reducible exact z0 | with_reducible exact z1 | refine And.intro ?_ ?_ | exact trivial | exact rfl | exact fun (j : Nat) (hj : j < _) => Or.inl (sub_ptN _ _ _ _))
    refine ⟨⟨Nat, fun j => j ≤ z.n - 1, fun j => [(43, .int .i64 (j : Int))], fun j => [(1, .cells 22 (.cons (.lsl 56 2 (L ++ midZ z j).length) .nil)), (56, .arr 24 2 (L ++ midZ z j).length (lcP (L ++ midZ z j))), (20, .gone)], fun j => z.n - j⟩, 0, Nat.zero_le _, ?_, ?_⟩
    · repeat' (first | exact zero_len | exact sub_eqP (List.append_nil L) | refine And.intro ?_ ?_ | exact trivial | exact rfl | exact fun (j : Nat) (hj : j < _) => Or.inl (sub_ptN _ _ _ _))
    rintro (j : Nat) (hj : j ≤ z.n - 1)
    have hml := midZ_len (z := z) (j := j) (L := L)
    repeat' (first | refine And.intro ?_ ?_ | exact trivial | exact rfl | exact fun (j : Nat) (hj : j < _) => Or.inl (sub_ptN _ _ _ _))
    · refine fun (h : decide ((j : Int) < ((z.n - (1 : Int).toNat : Nat) : Int)) = true) => ?_
      have ji1 : (j : Int) < ((z.n - (1 : Int).toNat : Nat) : Int) := of_decide_eq_true h
      have ji0 : (0 : Int) ≤ (j : Int) := by omega
      have ji2 : (j : Int) < (z.n : Int) := by omega
      have e1 : 0 + (1 : Int).toNat + (j : Int).toNat = j + 1 := by omega
      have e2 : 0 + (j : Int).toNat = j := by omega
      have ji3 : 0 + (1 : Int).toNat + (j : Int).toNat < z.n := by omega
      have ji4 : 0 + (j : Int).toNat < z.n := by omega
      have d1 : -9223372036854775808 ≤ (j : Int) + 1 := by omega
      have d2 : (j : Int) + 1 ≤ 9223372036854775807 := by omega
      have q1 := onB_iff.1 (hzon _ ji3)
      have q2 := onB_iff.1 (hzon _ ji4)
      have x1 : -9223372036854775808 ≤ (z.p (0 + (j : Int).toNat)).1 + (z.p (0 + (1 : Int).toNat + (j : Int).toNat)).1 := by omega
      have x2 : (z.p (0 + (j : Int).toNat)).1 + (z.p (0 + (1 : Int).toNat + (j : Int).toNat)).1 ≤ 9223372036854775807 := by omega
      have x3 : -9223372036854775808 ≤ (z.p (0 + (j : Int).toNat)).2 + (z.p (0 + (1 : Int).toNat + (j : Int).toNat)).2 := by omega
      have x4 : (z.p (0 + (j : Int).toNat)).2 + (z.p (0 + (1 : Int).toNat + (j : Int).toNat)).2 ≤ 9223372036854775807 := by omega
      have f1 : (L ++ midZ z j).length + 1 ≤ 9223372036854775807 := by omega
      have f2 : ((L ++ midZ z j).length + 1) * 16 ≤ 140737488355328 := by omega
      have g1 : L ++ midZ z (j + 1) = (L ++ midZ z j) ++ [addP (z.p (0 + (j : Int).toNat)) (z.p (0 + (1 : Int).toNat + (j : Int).toNat))] := by
        rw [e1, e2]
        unfold midZ
        rw [lsR_succ, List.append_assoc]
      have g2 : (L ++ midZ z j).length + 1 = (L ++ midZ z (j + 1)).length := by rw [g1]; simp only [List.length_append, List.length_cons, List.length_nil]
      repeat' (first | with_reducible exact ji0 | with_reducible exact ji1 | with_reducible exact ji2 | with_reducible exact ji3 | with_reducible exact ji4 | with_reducible exact d1 | with_reducible exact d2 | with_reducible exact x1 | with_reducible exact x2 | with_reducible exact x3 | with_reducible exact x4 | with_reducible exact f1 | with_reducible exact f2 | refine And.intro ?_ ?_ | exact trivial | exact rfl | exact fun (j : Nat) (hj : j < _) => Or.inl (sub_ptN _ _ _ _))
      refine Exists.intro (j + 1) ?_
      refine And.intro (show j + 1 ≤ z.n - 1 by omega) ?_
      repeat' (first | with_reducible exact g2 | exact sub_apQ g1 rfl rfl | refine And.intro ?_ ?_ | exact trivial | exact rfl | exact fun (j : Nat) (hj : j < _) => Or.inl (sub_ptN _ _ _ _))
      show z.n - (j + 1) < z.n - j
      omega
    refine fun (h : decide ((j : Int) < ((z.n - (1 : Int).toNat : Nat) : Int)) = false) => ?_
    have ji1 : ¬ (j : Int) < ((z.n - (1 : Int).toNat : Nat) : Int) := of_decide_eq_false h
    have ej : j = z.n - 1 := by omega
    have hmk := mids_ok (s := s) (k := k) (hr i hil) hqb hy.1 hy.2 hz.2.2
    rw [hq, ek] at hmk
    have hmem1 : ∀ m, m ∈ L ++ midZ z j ↔ m ∈ midK r s (i + 1) := by
      intro m
      rw [midK_succ, List.mem_append, List.mem_append, hmem m]
      refine or_congr Iff.rfl ?_
      unfold midZ
      rw [mem_lsR]
      refine Iff.trans ?_ (hmk m).symm
      constructor
      · rintro ⟨t, ht, e⟩; exact ⟨t, by omega, e.symm⟩
      · rintro ⟨t, ht, e⟩; exact ⟨t, by omega, e.symm⟩
    have hlen1 : (L ++ midZ z j).length ≤ (i + 1) * 60 := by omega
    repeat' (first | with_reducible exact b1 | with_reducible exact b2 | refine And.intro ?_ ?_ | exact trivial | exact rfl | exact fun (j : Nat) (hj : j < _) => Or.inl (sub_ptN _ _ _ _) | exact fun (h : (!true) = true) => Bool.noConfusion h | (refine fun (_ : (!true) = false) => ?_))
    refine Exists.intro (XO.mk (i + 1) (L ++ midZ z j)) ?_
    refine And.intro ⟨hil, hlen1, hmem1⟩ ?_
    repeat' (first | refine And.intro ?_ ?_ | exact trivial | exact rfl | exact fun (j : Nat) (hj : j < _) => Or.inl (sub_ptN _ _ _ _))
    show r.n - (i + 1) < r.n - i
    omega
  · refine fun (h : decide ((i : Int) < (r.n : Int)) = false) => ?_
    have hi1 : ¬ (i : Int) < (r.n : Int) := of_decide_eq_false h
    have e : i = r.n := by omega
    have h0L : 0 + L.length ≤ L.length := by omega
    have hpost : L.length ≤ 5000 ∧ ∀ m, m ∈ lsR (fun j => L.getD j (0, 0)) L.length ↔ m ∈ midL r s := by
      refine ⟨by omega, fun m => ?_⟩
      rw [lsR_getD, hmem m, e]
      exact Iff.rfl
    repeat' (first | refine And.intro ?_ ?_ | exact trivial | exact rfl | exact fun (j : Nat) (hj : j < _) => Or.inl (sub_ptN _ _ _ _))
    refine Exists.intro (Pts.mk L.length fun j => L.getD j (0, 0)) ?_
    refine And.intro hpost ?_
    repeat' (first | with_reducible exact h0L | refine And.intro ?_ ?_ | exact trivial | exact rfl | exact fun (j : Nat) (hj : j < _) => Or.inl (sub_ptN _ _ _ _) | exact sub_lcR)
end G12
