/- A part of the proof: see the last text. -/
import Derived.Test.YtjfjbkgkafgofaaR20
open Go Go.Eng Go.Proofs R2 R3 R4 R1 R5 R6 R7 R8 R9 R10 R10b R11 R12 R13 R14 R15 R16 R17 R18 R19 R20
set_option maxRecDepth 100000
namespace R21
theorem codeM_0 {D : List En} {e : En} : codeM D e = 0 ↔ (isNameB e.1 = true ∧ onB e.2 = true) ∧ ¬ e.1 ∈ D.map (·.1) ∧ D.length < 20000 := by
  unfold codeM
  constructor
  · intro h
    split at h
    · rename_i hv
      split at h
      · cases h
      · rename_i hm
        split at h
        · cases h
        · rename_i hl
          exact ⟨hv, hm, by omega⟩
    · cases h
  · rintro ⟨h1, h2, h3⟩
    rw [if_pos h1, if_neg h2, if_neg (by omega)]
theorem codes_iff {a : Nat → En} {n : Nat} : (∀ j, j < n → codeM (putMN a j) (a j) = 0) ↔ (∀ j, j < n → isNameB (a j).1 = true ∧ onB (a j).2 = true) ∧ (∀ i j, i < j → j < n → (a i).1 ≠ (a j).1) ∧ n ≤ 20000 := by
  constructor
  · intro h
    have h' : ∀ j, j < n → putMN a j = (List.range j).map a := fun j hj => putMN_all fun i hi => h i (by omega)
    refine ⟨fun j hj => (codeM_0.1 (h j hj)).1, fun i j hij hj e => ?_, ?_⟩
    · have := (codeM_0.1 (h j hj)).2.1
      rw [h' j hj] at this
      refine this (List.mem_map.2 ⟨a i, List.mem_map.2 ⟨i, List.mem_range.2 hij, rfl⟩, e⟩)
    · refine Classical.byContradiction fun hn => ?_
      have := (codeM_0.1 (h 20000 (by omega))).2.2
      rw [h' 20000 (by omega), List.length_map, List.length_range] at this
      omega
  · rintro ⟨h1, h2, h3⟩ j
    induction j using Nat.strongRecOn with
    | ind j ih =>
      intro hj
      have e : putMN a j = (List.range j).map a := putMN_all fun i hi => ih i hi (by omega)
      rw [e]
      refine codeM_0.2 ⟨h1 j hj, fun hm => ?_, ?_⟩
      · obtain ⟨x, hx, hxe⟩ := List.mem_map.1 hm
        obtain ⟨i, hi, rfl⟩ := List.mem_map.1 hx
        exact h2 i j (List.mem_range.1 hi) hj hxe
      · rw [List.length_map, List.length_range]
        omega
/-- The addresses in the opposite order. -/
def backA (l : Adrs) : Adrs := ⟨l.n, fun i => l.a (l.n - 1 - i)⟩
theorem back_codes {l : Adrs} (h : ∀ j, j < l.n → codeN l.a j = 0) : ∀ j, j < (backA l).n → codeN (backA l).a j = 0 := by
  have h1 : ∀ j, j < l.n → codeM (putMN (fun j => DA (l.a j)) j) (DA (l.a j)) = 0 := fun j hj => by rw [← codeN_M]; exact h j hj
  have h2 := codes_iff.1 h1
  intro j hj
  rw [codeN_M]
  refine codes_iff.2 ⟨fun i hi => h2.1 _ ?_, fun i k hik hk e => ?_, h2.2.2⟩ j hj
  · have : i < l.n := hi
    omega
  · have hk' : k < l.n := hk
    exact h2.2.1 (l.n - 1 - k) (l.n - 1 - i) (by omega) (by omega) e.symm
theorem back_perm (l : Adrs) : (DX (backA l)).Perm (DX l) := by
  have e : DX (backA l) = (DX l).reverse := by
    show (List.range l.n).map (fun j => DA (l.a (l.n - 1 - j))) = ((List.range l.n).map fun j => DA (l.a j)).reverse
    refine List.ext_getElem ?_ fun i h1 h2 => ?_
    · rw [List.length_reverse, List.length_map, List.length_map]
    · rw [List.getElem_reverse, List.getElem_map, List.getElem_map, List.getElem_range, List.getElem_range, List.length_map, List.length_range]
  rw [e]
  exact List.reverse_perm _
theorem put_split {g : G} {D : List En} {a : Adr} {Q : Int × G → Prop} (hg : GOk g) (hD : DG g = D) (h1 : codeM D (DA a) = 0 → ∀ g' : G, GOk g' → DG g' = D ++ [DA a] → Q (0, g')) (h2 : ∀ c : Int, c ≠ 0 → ∀ g' : G, GOk g' → DG g' = D → Q (c, g')) : ∀ y, y = putG g a → Q y := by
  intro y hy
  have h := put_M hg a
  have hk := put_ok hg a
  rw [hD] at h
  rw [← hy] at h hk
  obtain ⟨c, g'⟩ := y
  have hc : c = codeM D (DA a) := h.1
  have hm : DG g' = putM D (DA a) := h.2
  by_cases h0 : codeM D (DA a) = 0
  · rw [hc, h0]
    refine h1 h0 g' hk ?_
    rw [hm]
    unfold putM
    rw [if_pos h0]
  · refine h2 c (by rw [hc]; exact h0) g' hk ?_
    rw [hm]
    unfold putM
    rw [if_neg h0]
theorem drop_last {g : G} {D : List En} {e : En} {Q : Int × G → Prop} (hg : GOk g) (hD : DG g = D ++ [e]) (he : ¬ e.1 ∈ D.map (·.1)) (hQ : ∀ g' : G, GOk g' → DG g' = D → Q (0, g')) : ∀ y, y = dropG g e.1 → Q y := by
  intro y hy
  have h := drop_M hg e.1
  have hk := drop_ok hg e.1
  rw [hD] at h
  rw [← hy] at h hk
  obtain ⟨c, g'⟩ := y
  have hc : c = codeD (D ++ [e]) e.1 := h.1
  have hm : DG g' = dropM (D ++ [e]) e.1 := h.2
  have h0 : codeD (D ++ [e]) e.1 = 0 := by
    unfold codeD
    rw [if_pos]
    rw [List.map_append]
    exact List.mem_append.2 (.inr (List.mem_singleton.2 rfl))
  rw [hc, h0]
  refine hQ g' hk ?_
  rw [hm]
  unfold dropM
  rw [List.eraseP_append_right]
  · simp
  · intro x hx hxe
    exact he (List.mem_map.2 ⟨x, hx, of_decide_eq_true hxe⟩)
theorem near_gen {g : G} {D : List En} {p : Int × Int} {most : Int} {Q : List Fnd × Int × Int → Prop} (hg : GOk g) (hD : DG g = D) (hQ : ∀ (L : List Fnd) (n c : Int), NM D p most (L, n, c) → Q (L, n, c)) : ∀ y, nearP g p most y → Q y := by
  intro y hy
  have := NM.of_near hg hy
  rw [hD] at this
  exact hQ _ _ _ this
theorem NM_perm {D D' : List En} (h : D'.Perm D) {p : Int × Int} {most : Int} {y : List Fnd × Int × Int} (hy : NM D' p most y) : NM D p most y := by
  unfold NM at *
  rw [allS_of_perm h] at hy
  exact hy
theorem near_same {g : G} {D D' : List En} {p : Int × Int} {most : Int} {y0 : List Fnd × Int × Int} {Q : List Fnd × Int × Int → Prop} (hg : GOk g) (hD : DG g = D') (hp : D'.Perm D) (h0 : NM D p most y0) (hQ : Q y0) : ∀ y, nearP g p most y → Q y := by
  intro y hy
  have := NM.of_near hg hy
  rw [hD] at this
  rw [(NM_perm hp this).uniq h0]
  exact hQ
theorem NM_len {D : List En} {p : Int × Int} {most : Int} {L : List Fnd} {n c : Int} (h : NM D p most (L, n, c)) : L.length ≤ D.length := by
  unfold NM at h
  split at h
  · obtain ⟨r, _, _, _, e⟩ := h
    have : L = (allS D p).take most.toNat := congrArg Prod.fst e
    rw [this, List.length_take, allS_len]
    omega
  · have : L = [] := congrArg Prod.fst h
    rw [this]
    exact Nat.zero_le _
theorem same_self (L : List Fnd) : sameB (twoL L L L.length) = true := same_take rfl fun _ _ => rfl
theorem back_step {q : Keep} {hp : List (Nat × HObj)} {l : Adrs} {k n m : Nat} {e : Nat → SV} (he : e 0 = adL (l.a (l.n - 1 - k))) (hn : n = k + 1) : ∀ i, i < n → sub q hp (m + 13) (appE k (fun i => adL (l.a (l.n - 1 - i))) e i) (adL (l.a (l.n - 1 - i))) := by
  intro i hi
  have e : appE k (fun i => adL (l.a (l.n - 1 - i))) e i = adL (l.a (l.n - 1 - i)) := by
    unfold appE
    by_cases h : i < k
    · have hb : Nat.blt i k = true := by rw [Nat.blt_eq]; exact h
      rw [hb]
      rfl
    · have hik : i = k := by omega
      have hb : Nat.blt i k = false := by
        cases hb : Nat.blt i k with
        | false => rfl
        | true => rw [Nat.blt_eq] at hb; exact absurd hb h
      rw [hb, hik, Nat.sub_self, cond_false, he]
  rw [e]
  exact sub_ad _ _ _ _
theorem at_back {l : Adrs} {k : Nat} (hk : k < l.n) : ((l.n : Int) - 1 - (k : Int)).toNat = l.n - 1 - k := by omega
theorem back_arg {q : Keep} {hp : List (Nat × HObj)} {l : Adrs} {n m : Nat} : ∀ i, i < n → sub q hp (m + 13) (adL (l.a (l.n - 1 - (0 + i)))) (adL ((backA l).a i)) := by
  intro i _
  rw [Nat.zero_add]
  exact sub_ad q hp m (l.a (l.n - 1 - i))
theorem put_c0 (i : Nat) : pickB (decide ((0 : Int) = 0)) (.s i) (.c (.bool false)) (!decide ((0 : Int) = 0)) false = false := by
  rw [pickB_and]
  rfl
theorem put_c1 {c : Int} (h : c ≠ 0) (i : Nat) {b : Bool} : pickB (decide (c = 0)) (.s i) (.c (.bool false)) b false = false := by
  rw [pickB_and, decide_eq_false h]
  rfl
theorem fin6 {L : List Fnd} {n c : Int} {i j k : Nat} : pickB (pickB (pickB true (.s i) (.c (.bool false)) (sameB (twoL L L L.length)) false) (.s j) (.c (.bool false)) (decide (n = n)) false) (.s k) (.c (.bool false)) (decide (c = c)) false = true := by
  rw [pickB_and, pickB_and, pickB_and, same_self, decide_eq_true rfl, decide_eq_true rfl]
  rfl
structure X6 where
  l : Adrs
  a : Adr
  p : Int × Int
  most : Int
/-- gazetteer/gazetteerlaw39.ReverseOrder -/
def g6 : List Nat := [1, 2, 11, 35, 41, 0, 13, 12, 15, 57, 16, 5, 69, 10, 14, 6, 3, 9, 17, 20, 18, 21, 19, 22, 8]
def c6 : SCode :=
  .seq (.region g6 [⟨some 5, none, .box 40 (.s 1), []⟩, ⟨some 6, none, .box 38 (.s 2), []⟩, ⟨some 8, none, .move (.c (.bool false)), []⟩]) (.seq (.region g6 [⟨some 23, none, .call (.c (.fn 8)) [], []⟩, ⟨some 9, none, .move (.s 23), []⟩]) (.seq (.region g6 [⟨some 25, none, .move (.s 0), []⟩, ⟨some 26, none, .call (.c (.fn 10)) [.s 25], []⟩, ⟨some 24, none, .move (.s 26), []⟩, ⟨some 27, none, .extract 0 (.s 24), []⟩, ⟨some 28, none, .extract 1 (.s 24), []⟩, ⟨some 10, none, .move (.s 27), []⟩, ⟨some 11, none, .move (.s 28), []⟩]) (.seq (.seq (.region g6 [⟨some 29, none, .move (.s 0), []⟩, ⟨some 30, none, .call (.c (.fn 9)) [.s 29], []⟩, ⟨some 31, none, .not (.s 30), []⟩, ⟨some 32, none, .move (.s 31), []⟩, ⟨some 33, some (32, false), .move (.s 11), []⟩, ⟨some 34, some (32, false), .bin (.neq) (.s 33) (.c (.int .i64 0)), []⟩, ⟨some 35, none, .pick (.s 32) (.c (.bool true)) (.s 34), []⟩]) (.cond (.s 35) (.seq (.region g6 [⟨some 36, none, .move (.s 9), []⟩, ⟨some 8, none, .move (.s 36), []⟩]) .ret) .skip)) (.seq (.region g6 [⟨some 12, none, .move (.c (.nilsl)), []⟩]) (.seq (.seq (.region g6 [⟨some 37, none, .move (.s 0), []⟩, ⟨some 38, none, .lenSl (.s 37), []⟩, ⟨some 39, none, .bin (.sub) (.s 38) (.c (.int .i64 1)), []⟩, ⟨some 13, none, .move (.s 39), []⟩]) (.block 0 (.loop 0 [40, 41, 44, 45, 46, 47, 48, 49, 50, 12, 42, 43, 13] (.seq (.seq (.region g6 [⟨some 40, none, .move (.s 13), []⟩, ⟨some 41, none, .bin (.geq) (.s 40) (.c (.int .i64 0)), []⟩]) (.cond (.s 41) .skip (.exit 0))) (.seq (.block 1 (.region g6 [⟨some 44, none, .move (.s 12), []⟩, ⟨some 45, none, .move (.s 0), []⟩, ⟨some 46, none, .move (.s 13), []⟩, ⟨some 47, none, .idxSl 11 (.s 45) (.s 46), []⟩, ⟨some 48, none, .load 11 true (.s 47), []⟩, ⟨some 49, none, .buildSl 40 11 1 (.cons (.str []) (.cons (.str []) (.cons (.str []) (.cons (.str []) (.cons (.str []) (.cons (.int .i64 0) (.cons (.str []) (.cons (.int .i64 0) (.cons (.int .i64 0) (.cons (.int .i64 0) (.cons (.int .i64 0) .nil))))))))))) [(0, 11, .s 48)], []⟩, ⟨some 50, none, .app 40 11 136 (.s 44) (.s 49), []⟩, ⟨some 12, none, .move (.s 50), []⟩])) (.region g6 [⟨some 42, none, .move (.s 13), []⟩, ⟨some 43, none, .bin (.sub) (.s 42) (.c (.int .i64 1)), []⟩, ⟨some 13, none, .move (.s 43), []⟩])))))) (.seq (.region g6 [⟨some 52, none, .move (.s 12), []⟩, ⟨some 53, none, .call (.c (.fn 10)) [.s 52], []⟩, ⟨some 51, none, .move (.s 53), []⟩, ⟨some 54, none, .extract 0 (.s 51), []⟩, ⟨some 55, none, .extract 1 (.s 51), []⟩, ⟨some 14, none, .move (.s 54), []⟩, ⟨some 15, none, .move (.s 55), []⟩]) (.seq (.seq (.region g6 [⟨some 56, none, .move (.s 15), []⟩, ⟨some 57, none, .bin (.neq) (.s 56) (.c (.int .i64 0)), []⟩]) (.cond (.s 57) (.seq (.region g6 [⟨some 8, none, .move (.c (.bool false)), []⟩]) .ret) .skip)) (.seq (.seq (.region g6 [⟨some 58, none, .move (.s 14), []⟩, ⟨some 59, none, .load 11 true (.s 5), []⟩, ⟨some 60, none, .call (.c (.fn 12)) [.s 58, .s 59], []⟩, ⟨some 16, none, .move (.s 60), []⟩]) (.seq (.region g6 [⟨some 61, none, .move (.s 16), []⟩, ⟨some 62, none, .bin (.eql) (.s 61) (.c (.int .i64 0)), []⟩, ⟨some 63, none, .move (.s 62), []⟩, ⟨some 64, some (63, true), .move (.s 14), []⟩, ⟨some 65, some (63, true), .fldA 0 (.s 5), []⟩, ⟨some 66, some (63, true), .load 1 false (.s 65), []⟩, ⟨some 67, some (63, true), .call (.c (.fn 14)) [.s 64, .s 66], []⟩, ⟨some 68, some (63, true), .bin (.neq) (.s 67) (.c (.int .i64 0)), []⟩, ⟨some 69, none, .pick (.s 63) (.s 68) (.c (.bool false)), []⟩]) (.cond (.s 69) (.seq (.region g6 [⟨some 8, none, .move (.c (.bool false)), []⟩]) .ret) .skip))) (.seq (.region g6 [⟨some 71, none, .move (.s 10), []⟩, ⟨some 72, none, .load 2 true (.s 6), []⟩, ⟨some 73, none, .move (.s 3), []⟩, ⟨some 74, none, .call (.c (.fn 16)) [.s 71, .s 72, .s 73], []⟩, ⟨some 70, none, .move (.s 74), []⟩, ⟨some 75, none, .extract 0 (.s 70), []⟩, ⟨some 76, none, .extract 1 (.s 70), []⟩, ⟨some 77, none, .extract 2 (.s 70), []⟩, ⟨some 17, none, .move (.s 75), []⟩, ⟨some 18, none, .move (.s 76), []⟩, ⟨some 19, none, .move (.s 77), []⟩]) (.seq (.region g6 [⟨some 79, none, .move (.s 14), []⟩, ⟨some 80, none, .load 2 true (.s 6), []⟩, ⟨some 81, none, .move (.s 3), []⟩, ⟨some 82, none, .call (.c (.fn 16)) [.s 79, .s 80, .s 81], []⟩, ⟨some 78, none, .move (.s 82), []⟩, ⟨some 83, none, .extract 0 (.s 78), []⟩, ⟨some 84, none, .extract 1 (.s 78), []⟩, ⟨some 85, none, .extract 2 (.s 78), []⟩, ⟨some 20, none, .move (.s 83), []⟩, ⟨some 21, none, .move (.s 84), []⟩, ⟨some 22, none, .move (.s 85), []⟩]) (.seq (.region g6 [⟨some 86, none, .move (.s 9), []⟩, ⟨some 87, none, .move (.s 86), []⟩, ⟨some 88, some (87, true), .move (.s 17), []⟩, ⟨some 89, some (87, true), .move (.s 20), []⟩, ⟨some 90, some (87, true), .call (.c (.fn 18)) [.s 88, .s 89], []⟩, ⟨some 91, none, .pick (.s 87) (.s 90) (.c (.bool false)), []⟩, ⟨some 92, none, .move (.s 91), []⟩, ⟨some 93, some (92, true), .move (.s 18), []⟩, ⟨some 94, some (92, true), .move (.s 21), []⟩, ⟨some 95, some (92, true), .bin (.eql) (.s 93) (.s 94), []⟩, ⟨some 96, none, .pick (.s 92) (.s 95) (.c (.bool false)), []⟩, ⟨some 97, none, .move (.s 96), []⟩, ⟨some 98, some (97, true), .move (.s 19), []⟩, ⟨some 99, some (97, true), .move (.s 22), []⟩, ⟨some 100, some (97, true), .bin (.eql) (.s 98) (.s 99), []⟩, ⟨some 101, none, .pick (.s 97) (.s 100) (.c (.bool false)), []⟩, ⟨some 8, none, .move (.s 101), []⟩]) .ret)))))))))))
def r6 : List SRes := [.slot 8]
def k6 : List (Nat × Nat × SCode × Nat) := []
theorem e6 : cFunc Try.prog 6 g6 [] [] k6 = some (c6, r6, 102) := by kernel_rfl
theorem q6 : RgOk Try.prog k6 := RgOk.nil

def law6 : Eng.Spec where
  X := X6
  args := fun x => .cons (.slice 11 x.l.n fun i => adL (x.l.a i)) (.cons (adE x.a) (.cons (ptE x.p) (.cons (.int .i64 x.most) .nil)))
  pre := fun x => ((x.l.n : Int) ≤ 9223372036854775806 ∧ ∀ i, i < x.l.n → ((x.l.a i).door.length : Int) ≤ 9223372036854775807) ∧ (x.a.door.length : Int) ≤ 9223372036854775807
  res := fun _ => .bool true
  inst := fun _ => none
set_option maxHeartbeats 4000000 in
theorem law6_ok : law6.Ok Try.prog 6 := by
  refine Eng.Spec.ok_of e6 q6 (fun _ => [(8, .p headS), (10, .m New), (9, .p Few), (12, .m Put), (14, .m Drop), (16, .m Near), (18, .p Same)]) (fun _ _ => TabOk.p head_ok (TabOk.m New_ok (TabOk.p Few_ok (TabOk.m Put_ok (TabOk.m Drop_ok (TabOk.m Near_ok (TabOk.p Same_ok TabOk.nil))))))) ?_
  rintro ⟨l, a, p, most⟩ ⟨⟨hn, hs⟩, ha⟩
  replace hn : (l.n : Int) ≤ 9223372036854775806 := hn
  replace hs : ∀ i, i < l.n → ((l.a i).door.length : Int) ≤ 9223372036854775807 := hs
  replace ha : (a.door.length : Int) ≤ 9223372036854775807 := ha
  refine ⟨trivial, ?_⟩
  repeat' (first | refine And.intro ?_ ?_ | exact trivial | exact rfl)
  refine Exists.intro l (Exists.intro [] ?_)
  repeat' (first | refine And.intro ?_ ?_ | exact trivial | exact rfl | exact hn | exact hs | exact fun (j : Nat) (hj : j < _) => sub_ad _ _ _ _)
  refine new_split (fun hc => ?_) (fun c hc => ?_)
  · have hg := putN_ok l.a l.n
    have hD := new_D hc
    have hK := DX_keys hc
    cases hv : fewB l with
    | true =>
      have hcond := fun i => (or2_f (f := fewB l) (e := !decide ((0 : Int) = 0)) (i := i) rfl).trans (by rw [hv]; rfl : _ = false)
      have hn30 := few_n hv
      have hdl : (putN l.a l.n).d.length ≤ 20000 := by
        rw [← DG_len, hD, DX_len]
        omega
      repeat' (first | refine And.intro ?_ ?_ | exact trivial | exact rfl | exact hn | exact fun (j : Nat) (hj : j < _) => sub_ad _ _ _ _ | (refine fun (_ : guardP _ _ _ _) => ?_) | (refine fun (hb : pickB _ _ _ _ _ = true) => absurd (hb.symm.trans (hcond _)) (by decide)) | (refine fun (hb : pickB _ _ _ _ _ = false) => ?_) | omega | (dsimp only; omega))
      refine ⟨⟨Nat, fun k => k ≤ l.n, fun k => [(12, .lsl 20 11 k), (13, .int .i64 ((l.n : Int) - 1 - (k : Int)))], fun k => [(20, .arr 40 11 k fun i => adL (l.a (l.n - 1 - i)))], fun k => l.n - k⟩, 0, Nat.zero_le _, ?_, ?_⟩
      · repeat' (first | refine And.intro ?_ ?_ | exact trivial | exact rfl | exact fun (j : Nat) (hj : j < _) => sub_ad _ _ _ _ | exact fun (i : Nat) (hi : i < _) => sub_fn _ _ 16 _ | exact same_ent2 (p := sub _ _ 20) (fun v => sub_pt _ _ v) | exact same_ent2 (p := sub _ _ 20) (fun v => And.intro rfl rfl) | exact same_ent (p := sub _ _ 20) (sub_pt _ _) | (refine same_ent (p := sub _ _ 20) ?_; exact fun v => And.intro rfl rfl) | exact fun (i : Nat) => same_in _ _ _ | exact fun (i : Nat) => same_rn _ _ _ _ _ | exact fun (i : Nat) => same_rr _ _ _ _ _ _ _ | omega | (dsimp only; omega))
      rintro (k : Nat) hk
      replace hk : k ≤ l.n := hk
      refine And.intro (fun hb => ?_) (fun hb => ?_)
      · have hkl : k < l.n := by have h1 : (0 : Int) ≤ (l.n : Int) - 1 - (k : Int) := of_decide_eq_true hb; omega
        repeat' (first | refine And.intro ?_ ?_ | exact trivial | exact rfl | (refine fun (h : false = true) => absurd h (by decide)) | (refine fun (_ : false = false) => ?_) | (refine fun (_ : true = true) => ?_) | (refine fun (h : true = false) => absurd h (by decide)) | (refine fun (_ : guardP _ _ _ _) => ?_) | omega | (dsimp only; omega))
        refine Exists.intro (k + 1) (And.intro hkl (And.intro ?_ ?_))
        · repeat' (first | refine And.intro ?_ ?_ | exact trivial | exact rfl | exact fun (j : Nat) (hj : j < _) => sub_ad _ _ _ _ | exact fun (i : Nat) (hi : i < _) => sub_fn _ _ 16 _ | exact same_ent2 (p := sub _ _ 20) (fun v => sub_pt _ _ v) | exact same_ent2 (p := sub _ _ 20) (fun v => And.intro rfl rfl) | exact same_ent (p := sub _ _ 20) (sub_pt _ _) | (refine same_ent (p := sub _ _ 20) ?_; exact fun v => And.intro rfl rfl) | exact fun (i : Nat) => same_in _ _ _ | exact fun (i : Nat) => same_rn _ _ _ _ _ | exact fun (i : Nat) => same_rr _ _ _ _ _ _ _ | omega | (dsimp only; omega))
          · exact back_step (m := _) (show adL (l.a ((l.n : Int) - 1 - (k : Int)).toNat) = _ by rw [at_back hkl]) rfl
        · show l.n - (k + 1) < l.n - k
          omega
      · have hkl : k = l.n := by have h1 : ¬ (0 : Int) ≤ (l.n : Int) - 1 - (k : Int) := of_decide_eq_false hb; omega
        subst hkl
        repeat' (first | refine And.intro ?_ ?_ | exact trivial | exact rfl | (refine fun (h : false = true) => absurd h (by decide)) | (refine fun (_ : false = false) => ?_) | (refine fun (_ : true = true) => ?_) | (refine fun (h : true = false) => absurd h (by decide)) | (refine fun (_ : guardP _ _ _ _) => ?_) | omega | (dsimp only; omega))
        refine Exists.intro (backA l) (Exists.intro [] ?_)
        repeat' (first | refine And.intro ?_ ?_ | exact trivial | exact rfl | exact hn | exact fun (j : Nat) (hj : j < _) => sub_ad _ _ _ _ | exact same_ent2 (p := sub _ _ 20) (fun v => sub_pt _ _ v) | exact same_ent2 (p := sub _ _ 20) (fun v => And.intro rfl rfl) | exact same_ent (p := sub _ _ 20) (sub_pt _ _) | (refine same_ent (p := sub _ _ 20) ?_; exact fun v => And.intro rfl rfl) | exact fun (i : Nat) => same_in _ _ _ | exact fun (i : Nat) => same_rn _ _ _ _ _ | exact fun (i : Nat) => same_rr _ _ _ _ _ _ _ | omega | (dsimp only; omega))
        · exact fun i hi => hs _ (by have : i < l.n := hi; omega)
        · exact back_arg
        refine new_ok (back_codes hc) ?_
        have hg2 := putN_ok (backA l).a (backA l).n
        have hD2 := new_D (back_codes hc)
        have hperm := back_perm l
        have hX2 : (putN (backA l).a (backA l).n).d.length ≤ 20000 := by
          rw [← DG_len, hD2, DX_len]
          show l.n ≤ 20000
          omega
        repeat' (first | refine And.intro ?_ ?_ | exact trivial | exact rfl | (refine fun (h : false = true) => absurd h (by decide)) | (refine fun (_ : false = false) => ?_) | (refine fun (_ : true = true) => ?_) | (refine fun (h : true = false) => absurd h (by decide)) | omega | (dsimp only; omega))
        refine Exists.intro (putN (backA l).a (backA l).n, a) (Exists.intro [21, 22, 23, 24] ?_)
        repeat' (first | refine And.intro ?_ ?_ | exact trivial | exact rfl | exact same_ent2 (p := sub _ _ 20) (fun v => sub_pt _ _ v) | exact same_ent2 (p := sub _ _ 20) (fun v => And.intro rfl rfl) | exact same_ent (p := sub _ _ 20) (sub_pt _ _) | (refine same_ent (p := sub _ _ 20) ?_; exact fun v => And.intro rfl rfl) | exact fun (i : Nat) => same_in _ _ _ | exact fun (i : Nat) => same_rn _ _ _ _ _ | exact fun (i : Nat) => same_rr _ _ _ _ _ _ _ | exact hg2 | exact ha)
        refine put_split hg2 hD2 (fun hc1 g' hg' hD' => ?_) (fun c hc1 g' hg' hD' => ?_)
        · have hno := (codeM_0.1 hc1).2.1
          repeat' (first | refine And.intro ?_ ?_ | exact trivial | exact rfl | (refine fun (h : false = true) => absurd h (by decide)) | (refine fun (_ : false = false) => ?_) | (refine fun (_ : true = true) => ?_) | (refine fun (h : true = false) => absurd h (by decide)) | omega | (dsimp only; omega))
          refine Exists.intro (g', a.door) (Exists.intro [21, 22, 23, 24] ?_)
          repeat' (first | refine And.intro ?_ ?_ | exact trivial | exact rfl | exact same_ent2 (p := sub _ _ 20) (fun v => sub_pt _ _ v) | exact same_ent2 (p := sub _ _ 20) (fun v => And.intro rfl rfl) | exact same_ent (p := sub _ _ 20) (sub_pt _ _) | (refine same_ent (p := sub _ _ 20) ?_; exact fun v => And.intro rfl rfl) | exact fun (i : Nat) => same_in _ _ _ | exact fun (i : Nat) => same_rn _ _ _ _ _ | exact fun (i : Nat) => same_rr _ _ _ _ _ _ _ | exact hg' | omega | (dsimp only; omega))
          refine drop_last hg' hD' hno (fun g2 hg2' hD2' => ?_)
          have hl' : g2.d.length ≤ 20000 := by
            rw [← DG_len, hD2', DX_len]
            show l.n ≤ 20000
            omega
          repeat' (first | refine And.intro ?_ ?_ | exact trivial | exact rfl | (refine fun (h : false = true) => absurd h (by decide)) | (refine fun (_ : false = false) => ?_) | (refine fun (_ : true = true) => ?_) | (refine fun (h : true = false) => absurd h (by decide)) | (refine fun (hb : pickB _ _ _ _ _ = true) => absurd (hb.symm.trans (put_c0 _)) (by decide)) | (refine fun (hb : pickB _ _ _ _ _ = false) => ?_) | omega | (dsimp only; omega))
          refine Exists.intro (putN l.a l.n, p, most) (Exists.intro [2, 3, 4, 5] ?_)
          repeat' (first | refine And.intro ?_ ?_ | exact trivial | exact rfl | exact same_ent2 (p := sub _ _ 20) (fun v => sub_pt _ _ v) | exact same_ent2 (p := sub _ _ 20) (fun v => And.intro rfl rfl) | exact same_ent (p := sub _ _ 20) (sub_pt _ _) | (refine same_ent (p := sub _ _ 20) ?_; exact fun v => And.intro rfl rfl) | exact fun (i : Nat) => same_in _ _ _ | exact fun (i : Nat) => same_rn _ _ _ _ _ | exact fun (i : Nat) => same_rr _ _ _ _ _ _ _ | exact hg | exact hdl)
          refine near_gen hg hD (fun L n c0 hNM => ?_)
          have hLl := NM_len hNM
          rw [DX_len] at hLl
          repeat' (first | refine And.intro ?_ ?_ | exact trivial | exact rfl | (refine fun (h : false = true) => absurd h (by decide)) | (refine fun (_ : false = false) => ?_) | (refine fun (_ : true = true) => ?_) | (refine fun (h : true = false) => absurd h (by decide)) | omega | (dsimp only; omega))
          refine Exists.intro (g2, p, most) (Exists.intro [21, 22, 23, 24] ?_)
          repeat' (first | refine And.intro ?_ ?_ | exact trivial | exact rfl | exact same_ent2 (p := sub _ _ 20) (fun v => sub_pt _ _ v) | exact same_ent2 (p := sub _ _ 20) (fun v => And.intro rfl rfl) | exact same_ent (p := sub _ _ 20) (sub_pt _ _) | (refine same_ent (p := sub _ _ 20) ?_; exact fun v => And.intro rfl rfl) | exact fun (i : Nat) => same_in _ _ _ | exact fun (i : Nat) => same_rn _ _ _ _ _ | exact fun (i : Nat) => same_rr _ _ _ _ _ _ _ | exact hg2' | exact hl')
          refine near_same hg2' hD2' hperm hNM ?_
          repeat' (first | refine And.intro ?_ ?_ | exact trivial | exact rfl | (refine fun (h : false = true) => absurd h (by decide)) | (refine fun (_ : false = false) => ?_) | (refine fun (_ : true = true) => ?_) | (refine fun (h : true = false) => absurd h (by decide)) | (refine fun (i : Nat) (_ : i < _) => ?_) | omega | (dsimp only; omega))
          exact fin6
        · have hl' : g'.d.length ≤ 20000 := by
            rw [← DG_len, hD', DX_len]
            show l.n ≤ 20000
            omega
          repeat' (first | refine And.intro ?_ ?_ | exact trivial | exact rfl | (refine fun (h : false = true) => absurd h (by decide)) | (refine fun (_ : false = false) => ?_) | (refine fun (_ : true = true) => ?_) | (refine fun (h : true = false) => absurd h (by decide)) | omega | (dsimp only; omega))
          · exact fun (hb : decide (c = 0) = true) => absurd (of_decide_eq_true hb) hc1
          · refine fun (hb : decide (c = 0) = !true) => ?_
            repeat' (first | refine And.intro ?_ ?_ | exact trivial | exact rfl)
            · exact fun (hb : decide (c = 0) = true) => absurd (of_decide_eq_true hb) hc1
            · exact decide_eq_false hc1
            · exact fun (h : false = true) => absurd h (by decide)
            refine fun (_ : false = false) => ?_
            repeat' (first | refine And.intro ?_ ?_ | exact trivial | exact rfl)
            refine Exists.intro (putN l.a l.n, p, most) (Exists.intro [2, 3, 4, 5] ?_)
            repeat' (first | refine And.intro ?_ ?_ | exact trivial | exact rfl | exact same_ent2 (p := sub _ _ 20) (fun v => sub_pt _ _ v) | exact same_ent2 (p := sub _ _ 20) (fun v => And.intro rfl rfl) | exact same_ent (p := sub _ _ 20) (sub_pt _ _) | (refine same_ent (p := sub _ _ 20) ?_; exact fun v => And.intro rfl rfl) | exact fun (i : Nat) => same_in _ _ _ | exact fun (i : Nat) => same_rn _ _ _ _ _ | exact fun (i : Nat) => same_rr _ _ _ _ _ _ _ | exact hg | exact hdl)
            refine near_gen hg hD (fun L n c0 hNM => ?_)
            have hLl := NM_len hNM
            rw [DX_len] at hLl
            repeat' (first | refine And.intro ?_ ?_ | exact trivial | exact rfl | (refine fun (h : false = true) => absurd h (by decide)) | (refine fun (_ : false = false) => ?_) | (refine fun (_ : true = true) => ?_) | (refine fun (h : true = false) => absurd h (by decide)) | omega | (dsimp only; omega))
            refine Exists.intro (g', p, most) (Exists.intro [21, 22, 23, 24] ?_)
            repeat' (first | refine And.intro ?_ ?_ | exact trivial | exact rfl | exact same_ent2 (p := sub _ _ 20) (fun v => sub_pt _ _ v) | exact same_ent2 (p := sub _ _ 20) (fun v => And.intro rfl rfl) | exact same_ent (p := sub _ _ 20) (sub_pt _ _) | (refine same_ent (p := sub _ _ 20) ?_; exact fun v => And.intro rfl rfl) | exact fun (i : Nat) => same_in _ _ _ | exact fun (i : Nat) => same_rn _ _ _ _ _ | exact fun (i : Nat) => same_rr _ _ _ _ _ _ _ | exact hg' | exact hl')
            refine near_same hg' hD' hperm hNM ?_
            repeat' (first | refine And.intro ?_ ?_ | exact trivial | exact rfl | (refine fun (h : false = true) => absurd h (by decide)) | (refine fun (_ : false = false) => ?_) | (refine fun (_ : true = true) => ?_) | (refine fun (h : true = false) => absurd h (by decide)) | (refine fun (i : Nat) (_ : i < _) => ?_) | omega | (dsimp only; omega))
            exact fin6
    | false =>
      have hcond := fun i => (or2_f (f := fewB l) (e := !decide ((0 : Int) = 0)) (i := i) rfl).trans (by rw [hv]; rfl : _ = true)
      repeat' (first | refine And.intro ?_ ?_ | exact trivial | exact rfl | exact hn | exact fun (j : Nat) (hj : j < _) => sub_ad _ _ _ _ | (refine fun (_ : guardP _ _ _ _) => ?_) | (refine fun (hb : pickB _ _ _ _ _ = false) => absurd (hb.symm.trans (hcond _)) (by decide)) | (refine fun (hb : pickB _ _ _ _ _ = true) => ?_))
  · have hcond := fun i => or2_t (f := fewB l) (e := !decide (c = 0)) (i := i) (by rw [decide_eq_false hc]; rfl)
    repeat' (first | refine And.intro ?_ ?_ | exact trivial | exact rfl | exact hn | exact fun (j : Nat) (hj : j < _) => sub_ad _ _ _ _ | (refine fun (_ : guardP _ _ _ _) => ?_) | (refine fun (hb : pickB _ _ _ _ _ = false) => absurd (hb.symm.trans (hcond _)) (by decide)) | (refine fun (hb : pickB _ _ _ _ _ = true) => ?_))
end R21
