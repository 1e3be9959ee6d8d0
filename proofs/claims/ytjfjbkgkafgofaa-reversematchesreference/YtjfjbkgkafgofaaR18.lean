/- A part of the proof: see the last text. -/
import Derived.Test.YtjfjbkgkafgofaaR17
open Go Go.Eng Go.Proofs R2 R3 R4 R1 R5 R6 R7 R8 R9 R10 R10b R11 R12 R13 R14 R15 R16 R17
set_option maxRecDepth 100000
namespace R18
theorem same_ent2 {V : Type} {l : List (MKey × V × Nat)} {p : SV → SV → Prop} {ev ev' : V → SV} (h : ∀ v, p (ev v) (ev' v)) :
    ∀ (i : Nat) (x y : MKey × V × Nat), l[i]? = some x → l[i]? = some y → x.1 = y.1 ∧ x.2.2 = y.2.2 ∧ p (ev x.2.1) (ev' y.2.1) := by
  intro i x y h1 h2
  cases Option.some.inj (h1.symm.trans h2)
  exact ⟨rfl, rfl, h _⟩
theorem near_var {g : G} {D : List En} {p : Int × Int} {most : Int} {Q : List Fnd × Int × Int → Prop} (hg : GOk g) (hD : DG g = D) (hv : onB p = true ∧ 1 ≤ most ∧ most ≤ 8)
    (hQ : ∀ (L : List Fnd) (n : Int) (r : Nat), r ≤ 31 → (∀ r' : Nat, r' < r → ¬ stopL (allS D p) p most r') → stopL (allS D p) p most r → L = (allS D p).take most.toNat → n = cellsN p r → Q (L, n, 0)) : ∀ y, nearP g p most y → Q y := by
  intro y hy
  have := NM.of_near hg hy
  rw [hD] at this
  unfold NM at this
  rw [if_pos hv] at this
  obtain ⟨r, h1, h2, h3, rfl⟩ := this
  exact hQ _ _ r h1 h2 h3 rfl rfl
theorem new_split {x : Adrs} {Q : Int × Option G → Prop} (h1 : (∀ j, j < x.n → codeN x.a j = 0) → Q (0, some (putN x.a x.n))) (h2 : ∀ c : Int, c ≠ 0 → Q (c, none)) : ∀ y, newV x y → Q y := by
  intro y hy
  rcases hy with ⟨h, rfl⟩ | ⟨i, hi, _, h, rfl⟩
  · exact h1 h
  · exact h2 _ h
/-- The addresses of a list. -/
def DX (x : Adrs) : List En := (List.range x.n).map fun j => DA (x.a j)
theorem new_D {x : Adrs} (h : ∀ j, j < x.n → codeN x.a j = 0) : DG (putN x.a x.n) = DX x := by
  rw [putN_M]
  exact putMN_all fun j hj => by rw [← codeN_M]; exact h j hj
theorem DX_len (x : Adrs) : (DX x).length = x.n := by unfold DX; rw [List.length_map, List.length_range]
theorem few_n {x : Adrs} (h : fewB x = true) : x.n ≤ 30 := by
  unfold fewB at h
  simp only [Bool.and_eq_true, decide_eq_true_eq] at h
  exact h.1
theorem or3_t {f o e : Bool} {i j : Nat} (h : e = true) : pickB (pickB (!f) (.c (.bool true)) (.s i) true e) (.c (.bool true)) (.s j) true (!o) = true := by
  rw [pickB_or, pickB_or, h]
  cases f <;> rfl
theorem or3_f {f o e : Bool} {i j : Nat} (h1 : e = false) : pickB (pickB (!f) (.c (.bool true)) (.s i) true e) (.c (.bool true)) (.s j) true (!o) = !(f && o) := by
  rw [pickB_or, pickB_or, h1]
  cases f <;> cases o <;> rfl
theorem tm8 {a : Int} (h : 0 ≤ a ∧ a ≤ 255) : 0 ≤ a.tmod 8 ∧ a.tmod 8 ≤ 7 := by
  rw [Int.tmod_eq_emod_of_nonneg h.1]
  omega
theorem tmd {b d : Int} (h : 0 ≤ b ∧ b ≤ 255) (hd : 1 ≤ d) : 0 ≤ b.tmod d ∧ b.tmod d ≤ d - 1 := by
  rw [Int.tmod_eq_emod_of_nonneg h.1]
  have h1 := Int.emod_nonneg b (show d ≠ 0 by omega)
  have h2 := Int.emod_lt_of_pos b (show 0 < d by omega)
  omega
abbrev twoL (L M : List Fnd) (k : Nat) : Two := ⟨L.length, k, fun i => L.getD i ([], 0), fun i => M.getD i ([], 0)⟩
theorem same_take {L M : List Fnd} {k : Nat} (h1 : L.length = k) (h2 : ∀ i, i < L.length → L.getD i ([], 0) = M.getD i ([], 0)) : sameB (twoL L M k) = true := by
  unfold sameB
  rw [Bool.and_eq_true, decide_eq_true_eq, decide_eq_true_eq]
  exact ⟨h1, h2⟩
theorem getD_take {S : List Fnd} {k i : Nat} (h : i < (S.take k).length) : (S.take k).getD i ([], 0) = S.getD i ([], 0) := by
  rw [List.length_take] at h
  rw [List.getD_eq_getElem?_getD, List.getD_eq_getElem?_getD, List.getElem?_take_of_lt (by omega)]
/-- With a greater number no fewer rings are searched. -/
theorem stop_less {S : List Fnd} (hS : Srt S) {p : Int × Int} {a b r : Int} (ha : 1 ≤ a) (hab : a ≤ b) (h : stopL S p b r) : stopL S p a r := by
  rcases h with ⟨h1, h2⟩ | h
  · refine .inl ⟨by omega, ?_⟩
    have hb : b.toNat - 1 < S.length := by omega
    have ha' : a.toNat - 1 < S.length := by omega
    rw [List.getD_eq_getElem?_getD, List.getElem?_eq_getElem hb] at h2
    rw [List.getD_eq_getElem?_getD, List.getElem?_eq_getElem ha']
    by_cases e : a.toNat - 1 = b.toNat - 1
    · have h3 : (S[b.toNat - 1]).2 < reachP p r * reachP p r := h2
      simp only [e]
      exact h3
    · have := bef_away (List.pairwise_iff_getElem.1 hS _ _ ha' hb (by omega))
      have h3 : (S[b.toNat - 1]).2 < reachP p r * reachP p r := h2
      show (S[a.toNat - 1]).2 < _
      omega
  · exact .inr h
theorem fin5 {S L M : List Fnd} (hS : Srt S) {p : Int × Int} (hp : onB p = true) {a b n m : Int} {r s : Nat} (ha : 1 ≤ a) (hab : a ≤ b) (hmin : ∀ r' : Nat, r' < r → ¬ stopL S p a r') (hs : stopL S p b s) (hL : L = S.take a.toNat) (hM : M = S.take b.toNat) (hn : n = cellsN p r) (hm : m = cellsN p s) {i1 i2 i3 i4 i5 : Nat} {u v : Bool} (hu : u = true) (hv : v = true) :
    pickB (pickB (pickB (pickB (pickB true (.s i1) (.c (.bool false)) u false) (.s i2) (.c (.bool false)) v false) (.s i3) (.c (.bool false)) (decide ((L.length : Int) ≤ (M.length : Int))) false) (.s i4) (.c (.bool false)) (sameB (twoL L M (min (L.length : Int) (M.length : Int)).toNat)) false) (.s i5) (.c (.bool false)) (decide (n ≤ m)) false = true := by
  have h1 : L.length ≤ M.length := by rw [hL, hM, List.length_take, List.length_take]; omega
  have h2 : sameB (twoL L M (min (L.length : Int) (M.length : Int)).toNat) = true := by
    refine same_take (by omega) (fun i hi => ?_)
    have hiM : i < M.length := by omega
    rw [hL] at hi ⊢
    rw [hM] at hiM ⊢
    rw [getD_take hi, getD_take hiM]
  have h3 : n ≤ m := by
    rw [hn, hm]
    refine cells_mono hp (by omega) ?_
    refine Classical.byContradiction fun hlt => ?_
    exact hmin s (by omega) (stop_less hS ha hab hs)
  rw [pickB_and, pickB_and, pickB_and, pickB_and, pickB_and, hu, hv, h2, decide_eq_true h3, decide_eq_true (p := (L.length : Int) ≤ (M.length : Int)) (by omega)]
  rfl
structure X5 where
  l : Adrs
  p : Int × Int
  a : Int
  b : Int
/-- gazetteer/gazetteerlaw39.ReverseMore -/
def g5 : List Nat := [1, 0, 11, 37, 2, 3, 12, 10, 5, 13, 9, 16, 19, 14, 17, 15, 18, 8]
def c5 : SCode :=
  .seq (.region g5 [⟨some 5, none, .box 38 (.s 1), []⟩, ⟨some 8, none, .move (.c (.bool false)), []⟩]) (.seq (.region g5 [⟨some 20, none, .call (.c (.fn 8)) [], []⟩, ⟨some 9, none, .move (.s 20), []⟩]) (.seq (.region g5 [⟨some 22, none, .move (.s 0), []⟩, ⟨some 23, none, .call (.c (.fn 10)) [.s 22], []⟩, ⟨some 21, none, .move (.s 23), []⟩, ⟨some 24, none, .extract 0 (.s 21), []⟩, ⟨some 25, none, .extract 1 (.s 21), []⟩, ⟨some 10, none, .move (.s 24), []⟩, ⟨some 11, none, .move (.s 25), []⟩]) (.seq (.seq (.region g5 [⟨some 26, none, .move (.s 0), []⟩, ⟨some 27, none, .call (.c (.fn 9)) [.s 26], []⟩, ⟨some 28, none, .not (.s 27), []⟩, ⟨some 29, none, .move (.s 28), []⟩, ⟨some 30, some (29, false), .move (.s 11), []⟩, ⟨some 31, some (29, false), .bin (.neq) (.s 30) (.c (.int .i64 0)), []⟩, ⟨some 32, none, .pick (.s 29) (.c (.bool true)) (.s 31), []⟩, ⟨some 33, none, .move (.s 32), []⟩, ⟨some 34, some (33, false), .load 2 true (.s 5), []⟩, ⟨some 35, some (33, false), .call (.c (.fn 19)) [.s 34], []⟩, ⟨some 36, some (33, false), .not (.s 35), []⟩, ⟨some 37, none, .pick (.s 33) (.c (.bool true)) (.s 36), []⟩]) (.cond (.s 37) (.seq (.region g5 [⟨some 38, none, .move (.s 9), []⟩, ⟨some 8, none, .move (.s 38), []⟩]) .ret) .skip)) (.seq (.region g5 [⟨some 39, none, .move (.s 2), []⟩, ⟨some 40, none, .cnv .i64 (.s 39), []⟩, ⟨some 41, none, .bin (.rem) (.s 40) (.c (.int .i64 8)), []⟩, ⟨some 42, none, .bin (.add) (.c (.int .i64 1)) (.s 41), []⟩, ⟨some 12, none, .move (.s 42), []⟩]) (.seq (.region g5 [⟨some 43, none, .move (.s 12), []⟩, ⟨some 44, none, .move (.s 3), []⟩, ⟨some 45, none, .cnv .i64 (.s 44), []⟩, ⟨some 46, none, .move (.s 12), []⟩, ⟨some 47, none, .bin (.sub) (.c (.int .i64 9)) (.s 46), []⟩, ⟨some 48, none, .bin (.rem) (.s 45) (.s 47), []⟩, ⟨some 49, none, .bin (.add) (.s 43) (.s 48), []⟩, ⟨some 13, none, .move (.s 49), []⟩]) (.seq (.region g5 [⟨some 51, none, .move (.s 10), []⟩, ⟨some 52, none, .load 2 true (.s 5), []⟩, ⟨some 53, none, .move (.s 12), []⟩, ⟨some 54, none, .call (.c (.fn 16)) [.s 51, .s 52, .s 53], []⟩, ⟨some 50, none, .move (.s 54), []⟩, ⟨some 55, none, .extract 0 (.s 50), []⟩, ⟨some 56, none, .extract 1 (.s 50), []⟩, ⟨some 57, none, .extract 2 (.s 50), []⟩, ⟨some 14, none, .move (.s 55), []⟩, ⟨some 15, none, .move (.s 56), []⟩, ⟨some 16, none, .move (.s 57), []⟩]) (.seq (.region g5 [⟨some 59, none, .move (.s 10), []⟩, ⟨some 60, none, .load 2 true (.s 5), []⟩, ⟨some 61, none, .move (.s 13), []⟩, ⟨some 62, none, .call (.c (.fn 16)) [.s 59, .s 60, .s 61], []⟩, ⟨some 58, none, .move (.s 62), []⟩, ⟨some 63, none, .extract 0 (.s 58), []⟩, ⟨some 64, none, .extract 1 (.s 58), []⟩, ⟨some 65, none, .extract 2 (.s 58), []⟩, ⟨some 17, none, .move (.s 63), []⟩, ⟨some 18, none, .move (.s 64), []⟩, ⟨some 19, none, .move (.s 65), []⟩]) (.seq (.region g5 [⟨some 66, none, .move (.s 9), []⟩, ⟨some 67, none, .move (.s 66), []⟩, ⟨some 68, some (67, true), .move (.s 16), []⟩, ⟨some 69, some (67, true), .bin (.eql) (.s 68) (.c (.int .i64 0)), []⟩, ⟨some 70, none, .pick (.s 67) (.s 69) (.c (.bool false)), []⟩, ⟨some 71, none, .move (.s 70), []⟩, ⟨some 72, some (71, true), .move (.s 19), []⟩, ⟨some 73, some (71, true), .bin (.eql) (.s 72) (.c (.int .i64 0)), []⟩, ⟨some 74, none, .pick (.s 71) (.s 73) (.c (.bool false)), []⟩, ⟨some 75, none, .move (.s 74), []⟩, ⟨some 76, some (75, true), .move (.s 14), []⟩, ⟨some 77, some (75, true), .lenSl (.s 76), []⟩, ⟨some 78, some (75, true), .move (.s 17), []⟩, ⟨some 79, some (75, true), .lenSl (.s 78), []⟩, ⟨some 80, some (75, true), .bin (.leq) (.s 77) (.s 79), []⟩, ⟨some 81, none, .pick (.s 75) (.s 80) (.c (.bool false)), []⟩, ⟨some 82, none, .move (.s 81), []⟩, ⟨some 83, some (82, true), .move (.s 14), []⟩, ⟨some 84, some (82, true), .move (.s 17), []⟩, ⟨some 85, some (82, true), .move (.s 14), []⟩, ⟨some 86, some (82, true), .lenSl (.s 85), []⟩, ⟨some 87, some (82, true), .move (.s 17), []⟩, ⟨some 88, some (82, true), .lenSl (.s 87), []⟩, ⟨some 89, some (82, true), .mm false (.s 86) (.s 88), []⟩, ⟨some 90, some (82, true), .sliceSl 2 (.s 84) none (some (.s 89)), []⟩, ⟨some 91, some (82, true), .call (.c (.fn 18)) [.s 83, .s 90], []⟩, ⟨some 92, none, .pick (.s 82) (.s 91) (.c (.bool false)), []⟩, ⟨some 93, none, .move (.s 92), []⟩, ⟨some 94, some (93, true), .move (.s 15), []⟩, ⟨some 95, some (93, true), .move (.s 18), []⟩, ⟨some 96, some (93, true), .bin (.leq) (.s 94) (.s 95), []⟩, ⟨some 97, none, .pick (.s 93) (.s 96) (.c (.bool false)), []⟩, ⟨some 8, none, .move (.s 97), []⟩]) .ret))))))))
def r5 : List SRes := [.slot 8]
def k5 : List (Nat × Nat × SCode × Nat) := []
theorem e5 : cFunc Try.prog 5 g5 [] [] k5 = some (c5, r5, 98) := by kernel_rfl
theorem q5 : RgOk Try.prog k5 := RgOk.nil

def law5 : Eng.Spec where
  X := X5
  args := fun x => .cons (.slice 11 x.l.n fun i => adL (x.l.a i)) (.cons (ptE x.p) (.cons (.int .u8 x.a) (.cons (.int .u8 x.b) .nil)))
  pre := fun x => ((x.l.n : Int) ≤ 9223372036854775806 ∧ ∀ i, i < x.l.n → ((x.l.a i).door.length : Int) ≤ 9223372036854775807) ∧ (0 ≤ x.a ∧ x.a ≤ 255) ∧ (0 ≤ x.b ∧ x.b ≤ 255)
  res := fun _ => .bool true
  inst := fun _ => none
set_option maxHeartbeats 4000000 in
theorem law5_ok : law5.Ok Try.prog 5 := by
  refine Eng.Spec.ok_of e5 q5 (fun _ => [(8, .p headS), (10, .m New), (9, .p Few), (19, .p On), (16, .m Near), (18, .p Same)]) (fun _ _ => TabOk.p head_ok (TabOk.m New_ok (TabOk.p Few_ok (TabOk.p On_ok (TabOk.m Near_ok (TabOk.p Same_ok TabOk.nil)))))) ?_
  rintro ⟨l, p, a, b⟩ ⟨⟨hn, hs⟩, ha, hb⟩
  replace hn : (l.n : Int) ≤ 9223372036854775806 := hn
  replace hs : ∀ i, i < l.n → ((l.a i).door.length : Int) ≤ 9223372036854775807 := hs
  replace ha : 0 ≤ a ∧ a ≤ 255 := ha
  replace hb : 0 ≤ b ∧ b ≤ 255 := hb
  refine ⟨trivial, ?_⟩
  repeat' (first | refine And.intro ?_ ?_ | exact trivial | exact rfl)
  refine Exists.intro l (Exists.intro [] ?_)
  repeat' (first | refine And.intro ?_ ?_ | exact trivial | exact rfl | exact hn | exact hs | exact fun (j : Nat) (hj : j < _) => sub_ad _ _ _ _)
  refine new_split (fun hc => ?_) (fun c hc => ?_)
  · have hg := putN_ok l.a l.n
    have hD := new_D hc
    cases hv : (fewB l && onB p) with
    | true =>
      have hcond := fun i j => (or3_f (f := fewB l) (o := onB p) (e := !decide ((0 : Int) = 0)) (i := i) (j := j) rfl).trans (by rw [hv]; rfl : _ = false)
      simp only [Bool.and_eq_true] at hv
      have hn30 := few_n hv.1
      have h8 := tm8 ha
      have hm := tmd (d := 9 - (1 + a.tmod 8)) hb (by omega)
      have hdl : (putN l.a l.n).d.length ≤ 20000 := by
        rw [← DG_len, hD, DX_len]
        omega
      repeat' (first | refine And.intro ?_ ?_ | exact trivial | exact rfl | exact hn | exact fun (j : Nat) (hj : j < _) => sub_ad _ _ _ _ | (refine fun (_ : guardP _ _ _ _) => ?_) | (refine fun (hb : pickB _ _ _ _ _ = true) => absurd (hb.symm.trans (hcond _ _)) (by decide)) | (refine fun (hb : pickB _ _ _ _ _ = false) => ?_) | omega | (dsimp only; omega))
      refine Exists.intro (putN l.a l.n, p, 1 + a.tmod 8) (Exists.intro [1, 2, 3, 4] ?_)
      repeat' (first | refine And.intro ?_ ?_ | exact trivial | exact rfl | exact same_ent2 (p := sub _ _ 20) (fun v => sub_pt _ _ v) | exact same_ent2 (p := sub _ _ 20) (fun v => And.intro rfl rfl) | exact same_ent (p := sub _ _ 20) (sub_pt _ _) | (refine same_ent (p := sub _ _ 20) ?_; exact fun v => And.intro rfl rfl) | exact fun (i : Nat) => same_in _ _ _ | exact fun (i : Nat) => same_rn _ _ _ _ _ | exact hg | exact hdl)
      have hSl : (allS (DX l) p).length ≤ 30 := by
        rw [allS_len, DX_len]
        exact hn30
      refine near_var (most := 1 + a.tmod 8) hg hD ⟨hv.2, by omega, by omega⟩ (fun L n r hr hmin hstop hL hnr => ?_)
      have hLl : L.length ≤ 30 := by rw [hL, List.length_take]; omega
      repeat' (first | refine And.intro ?_ ?_ | exact trivial | exact rfl | omega | (dsimp only; omega))
      refine Exists.intro (putN l.a l.n, p, 1 + a.tmod 8 + b.tmod (9 - (1 + a.tmod 8))) (Exists.intro [1, 2, 3, 4] ?_)
      repeat' (first | refine And.intro ?_ ?_ | exact trivial | exact rfl | exact same_ent2 (p := sub _ _ 20) (fun v => sub_pt _ _ v) | exact same_ent2 (p := sub _ _ 20) (fun v => And.intro rfl rfl) | exact same_ent (p := sub _ _ 20) (sub_pt _ _) | (refine same_ent (p := sub _ _ 20) ?_; exact fun v => And.intro rfl rfl) | exact fun (i : Nat) => same_in _ _ _ | exact fun (i : Nat) => same_rn _ _ _ _ _ | exact hg | exact hdl)
      refine near_var (most := 1 + a.tmod 8 + b.tmod (9 - (1 + a.tmod 8))) hg hD ⟨hv.2, by omega, by omega⟩ (fun M m s hs2 hmin2 hstop2 hM hms => ?_)
      have hMl : M.length ≤ 30 := by rw [hM, List.length_take]; omega
      repeat' (first | refine And.intro ?_ ?_ | exact trivial | exact rfl | (refine fun (_ : guardP _ _ _ _) => ?_) | (refine fun (i : Nat) (_ : i < _) => ?_) | omega | (dsimp only; omega))
      exact fin5 (allS_srt (DX l) p) hv.2 (by omega) (show 1 + a.tmod 8 ≤ 1 + a.tmod 8 + b.tmod (9 - (1 + a.tmod 8)) by omega) hmin hstop2 hL hM hnr hms rfl rfl
    | false =>
      have hcond := fun i j => (or3_f (f := fewB l) (o := onB p) (e := !decide ((0 : Int) = 0)) (i := i) (j := j) rfl).trans (by rw [hv]; rfl : _ = true)
      repeat' (first | refine And.intro ?_ ?_ | exact trivial | exact rfl | exact hn | exact fun (j : Nat) (hj : j < _) => sub_ad _ _ _ _ | (refine fun (_ : guardP _ _ _ _) => ?_) | (refine fun (hb : pickB _ _ _ _ _ = false) => absurd (hb.symm.trans (hcond _ _)) (by decide)) | (refine fun (hb : pickB _ _ _ _ _ = true) => ?_))
  · have hcond := fun i j => or3_t (f := fewB l) (o := onB p) (e := !decide (c = 0)) (i := i) (j := j) (by rw [decide_eq_false hc]; rfl)
    repeat' (first | refine And.intro ?_ ?_ | exact trivial | exact rfl | exact hn | exact fun (j : Nat) (hj : j < _) => sub_ad _ _ _ _ | (refine fun (_ : guardP _ _ _ _) => ?_) | (refine fun (hb : pickB _ _ _ _ _ = false) => absurd (hb.symm.trans (hcond _ _)) (by decide)) | (refine fun (hb : pickB _ _ _ _ _ = true) => ?_))
end R18
