/- A part of the proof: see the last text. -/
import Derived.Test.YtjfjbkgkafgofaaR12
open Go Go.Eng Go.Proofs R2 R3 R4 R1 R5 R6 R7 R8 R12
set_option maxRecDepth 100000
namespace R13
/-- (*gazetteer/gazetteerref39.Grid).Drop -/
def g15 : List Nat := [7, 1, 12, 0, 5, 4]
def c15 : SCode :=
  .seq (.region g15 [⟨some 4, none, .move (.c (.int .i64 0)), []⟩]) (.seq (.seq (.region g15 [⟨some 6, none, .move (.s 0), []⟩, ⟨some 7, none, .ptrEq false (.s 6) (.c (.nilptr)), []⟩]) (.cond (.s 7) (.seq (.region g15 [⟨some 4, none, .move (.c (.int .i64 1)), []⟩]) .ret) .skip)) (.seq (.region g15 [⟨some 8, none, .move (.s 0), []⟩, ⟨some 9, none, .move (.s 1), []⟩, ⟨some 10, none, .call (.c (.fn 28)) [.s 8, .s 9], []⟩, ⟨some 5, none, .move (.s 10), []⟩]) (.seq (.seq (.region g15 [⟨some 11, none, .move (.s 5), []⟩, ⟨some 12, none, .bin (.lss) (.s 11) (.c (.int .i64 0)), []⟩]) (.cond (.s 12) (.seq (.region g15 [⟨some 4, none, .move (.c (.int .i64 10)), []⟩]) .ret) .skip)) (.seq (.drawn g15 (.pure 0 ⟨some 13, none, .move (.s 0), []⟩ (.pure 1 ⟨some 14, none, .buildSl 40 11 0 (.cons (.str []) (.cons (.str []) (.cons (.str []) (.cons (.str []) (.cons (.str []) (.cons (.int .i64 0) (.cons (.str []) (.cons (.int .i64 0) (.cons (.int .i64 0) (.cons (.int .i64 0) (.cons (.int .i64 0) .nil))))))))))) [], []⟩ (.pure 2 ⟨some 15, none, .move (.s 0), []⟩ (.pure 3 ⟨some 16, none, .nilCheck (.s 15), []⟩ (.pure 4 ⟨some 17, none, .fldA 0 (.s 16), []⟩ (.pure 5 ⟨some 18, none, .load 1 false (.s 17), []⟩ (.pure 6 ⟨some 19, none, .move (.s 5), []⟩ (.pure 7 ⟨some 20, none, .sliceSl 11 (.s 18) none (some (.s 19)), []⟩ (.pure 9 ⟨some 22, none, .move (.s 0), []⟩ (.pure 10 ⟨some 23, none, .nilCheck (.s 22), []⟩ (.pure 11 ⟨some 24, none, .fldA 0 (.s 23), []⟩ (.pure 12 ⟨some 25, none, .load 1 false (.s 24), []⟩ (.pure 13 ⟨some 26, none, .move (.s 5), []⟩ (.pure 14 ⟨some 27, none, .bin (.add) (.s 26) (.c (.int .i64 1)), []⟩ (.pure 15 ⟨some 28, none, .sliceSl 11 (.s 25) (some (.s 27)) none, []⟩ (.eff 8 ⟨some 21, none, .app 40 11 136 (.s 14) (.s 20), []⟩ [⟨some 25, none, .load 1 false (.s 24), []⟩] (.eff 16 ⟨some 29, none, .app 40 11 136 (.s 21) (.s 28), []⟩ [] (.pure 17 ⟨some 30, none, .nilCheck (.s 13), []⟩ (.pure 18 ⟨some 31, none, .fldA 0 (.s 30), []⟩ (.eff 19 ⟨none, none, .store 1 (.s 31) (.s 29), []⟩ [] .done .none))) .none) .none))))))))))))))))) (.seq (.region g15 [⟨some 4, none, .move (.c (.int .i64 0)), []⟩]) .ret)))))
def r15 : List SRes := [.slot 4]
def k15 : List (Nat × Nat × SCode × Nat) := []
theorem e15 : cFunc Try.prog 15 g15 [] [] k15 = some (c15, r15, 32) := by kernel_rfl
theorem q15 : RgOk Try.prog k15 := RgOk.nil
def dropL (l : List Adr) (s : List UInt8) : Int × List Adr :=
  if there l s then (0, l.eraseP fun a => decide (a.door = s)) else (10, l)
theorem eraseP_at {α : Type} {p : α → Bool} {d : α} : ∀ {l : List α} {i : Nat}, i < l.length → p (l.getD i d) = true → (∀ j, j < i → p (l.getD j d) = false) → l.eraseP p = l.take i ++ l.drop (i + 1) := by
  intro l
  induction l with
  | nil => intro i h; exact absurd h (Nat.not_lt_zero i)
  | cons a t ih =>
    intro i hi hp hn
    cases i with
    | zero =>
      have h0 : p a = true := hp
      rw [List.eraseP_cons, h0]
      rfl
    | succ i =>
      have h0 : p a = false := hn 0 (Nat.succ_pos i)
      rw [List.eraseP_cons, h0]
      simp only [cond_false, List.take_succ_cons, List.drop_succ_cons, List.cons_append]
      rw [ih (Nat.lt_of_succ_lt_succ hi) hp (fun j hj => hn (j + 1) (Nat.succ_lt_succ hj))]
theorem drop_at {l : List Adr} {s : List UInt8} {i : Nat} (h1 : i < l.length) (h2 : (l.getD i ad0).door = s) (h3 : ∀ j, j < i → (l.getD j ad0).door ≠ s) : dropL l s = (0, l.take i ++ l.drop (i + 1)) := by
  unfold dropL
  rw [if_pos ⟨i, h1, h2⟩, eraseP_at (d := ad0) h1 (decide_eq_true h2) (fun j hj => decide_eq_false (h3 j hj))]
theorem drop_no {l : List Adr} {s : List UInt8} (h : ∀ j, j < l.length → (l.getD j ad0).door ≠ s) : dropL l s = (10, l) := by
  unfold dropL
  rw [if_neg]
  rintro ⟨j, h1, h2⟩
  exact h j h1 h2
theorem getD_app {l m : List Adr} {j : Nat} : (l ++ m).getD j ad0 = if j < l.length then l.getD j ad0 else m.getD (j - l.length) ad0 := by
  rw [List.getD_eq_getElem?_getD, List.getD_eq_getElem?_getD, List.getD_eq_getElem?_getD]
  split
  · rename_i h; rw [List.getElem?_append_left h]
  · rename_i h; rw [List.getElem?_append_right (by omega)]
theorem take_drop_len {l : List Adr} {i : Nat} (h : i < l.length) : ((i : Nat) : Int).toNat + (l.length - ((i : Nat) + 1 : Int).toNat) = (l.take i ++ l.drop (i + 1)).length := by
  rw [List.length_append, List.length_take, List.length_drop]
  omega
theorem take_drop_sub {k : Keep} {hp : List (Nat × HObj)} {l : List Adr} {i n : Nat} (h : i < l.length) (_hn : n = (l.take i ++ l.drop (i + 1)).length) : ∀ j, j < n → sub k hp 20 (appE ((i : Nat) : Int).toNat (fun j => adAt l (0 + j)) (fun j => adAt l (0 + ((i : Nat) + 1 : Int).toNat + j)) j) (adAt (l.take i ++ l.drop (i + 1)) j) := by
  intro j hj
  rw [_hn, List.length_append, List.length_take, List.length_drop] at hj
  have e : appE ((i : Nat) : Int).toNat (fun j => adAt l (0 + j)) (fun j => adAt l (0 + ((i : Nat) + 1 : Int).toNat + j)) j = adAt (l.take i ++ l.drop (i + 1)) j := by
    unfold appE adAt
    dsimp only
    rw [getD_app, List.length_take, Nat.min_eq_left (by omega), Int.toNat_natCast]
    by_cases e : j < i
    · have hb : Nat.blt j i = true := by rw [Nat.blt_eq]; exact e
      rw [hb, if_pos e, cond_true, Nat.zero_add, List.getD_eq_getElem?_getD, List.getD_eq_getElem?_getD, List.getElem?_take_of_lt e]
    · have hb : Nat.blt j i = false := by
        cases h : Nat.blt j i with
        | false => rfl
        | true => exact absurd (by rw [Nat.blt_eq] at h; exact h) e
      rw [hb, if_neg e, cond_false, List.getD_eq_getElem?_getD, List.getD_eq_getElem?_getD, List.getElem?_drop]
      congr 3
      omega
  rw [e]
  exact sub_ad k hp 7 _
theorem room_drop {l : List Adr} {i : Nat} (hl : l.length ≤ 20000) (h : i < l.length) : ((i : Nat) : Int).toNat + (l.length - ((i : Nat) + 1 : Int).toNat) ≤ 20000 := by omega
theorem adall {l : List Adr} {m n : Nat} : ∀ j, j < n → allOne (adAt l (m + j)) = true := fun _ _ => rfl
/-- The list is the object 3 where an address has been removed. -/
def RDrop : Eng.MSpec where
  X := List Adr × List UInt8
  Y := Int × List Adr × Nat
  args := fun x => .cons (.own 0 0) (.cons (.str x.2) .nil)
  pre := fun x => x.1.length ≤ 20000
  h0 := fun x => rH 1 x.1
  nx0 := 2
  post := fun x y => (y.1, y.2.1) = dropL x.1 x.2 ∧ y.2.2 = if y.1 = 0 then 3 else 1
  res := fun _ y => .int .i64 y.1
  h1 := fun _x y => rH y.2.2 y.2.1
  nx1 := 4
theorem RDrop_ok : RDrop.Ok Try.prog 15 := by
  refine Eng.MSpec.ok_of e15 q15 (fun _ => [(28, .m index)]) (fun _ _ => TabOk.m index_ok TabOk.nil) ?_
  rintro ⟨l, s⟩ hl
  replace hl : l.length ≤ 20000 := hl
  refine ⟨trivial, ?_⟩
  repeat' (first | refine And.intro ?_ ?_ | exact trivial | exact rfl | (refine fun (h : false = true) => absurd h (by decide)) | (refine fun (_ : false = false) => ?_))
  refine Exists.intro (l, s) (Exists.intro [0, 1] ?_)
  repeat' (first | refine And.intro ?_ ?_ | exact trivial | exact rfl | exact hl | omega | (dsimp only; omega) | exact fun (j : Nat) (hj : j < _) => sub_adAt _ _ 7 _ hj)
  refine fun (y : Int) (hy : idxP l s y) => ?_
  refine And.intro (fun hw => ?_) (fun hw => ?_)
  · have e : dropL l s = (10, l) := by
      rcases hy with ⟨_, h⟩ | ⟨i, _, rfl, _⟩
      · exact drop_no h
      · have := of_decide_eq_true hw
        omega
    refine Exists.intro (10, l, 1) (And.intro ⟨e.symm, rfl⟩ ?_)
    repeat' (first | refine And.intro ?_ ?_ | exact trivial | exact rfl | omega | (dsimp only; omega) | exact fun (j : Nat) (hj : j < _) => sub_adAt _ _ 7 _ hj)
  · have hi : ∃ i : Nat, i < l.length ∧ y = (i : Int) ∧ dropL l s = (0, l.take i ++ l.drop (i + 1)) := by
      rcases hy with ⟨rfl, _⟩ | ⟨i, h1, h2, h3, h4⟩
      · have := of_decide_eq_false hw
        omega
      · exact ⟨i, h1, h2, drop_at h1 h3 h4⟩
    refine Exists.elim hi ?_
    rintro i ⟨hil, rfl, e⟩
    have hrm := room_drop hl hil
    repeat' (first | refine And.intro ?_ ?_ | exact trivial | exact rfl | omega | (dsimp only; omega) | exact adall)
    refine Exists.intro (0, l.take i ++ l.drop (i + 1), 3) (And.intro ⟨e.symm, rfl⟩ ?_)
    repeat' (first | refine And.intro ?_ ?_ | exact trivial | exact rfl | exact take_drop_len hil | exact take_drop_sub hil (take_drop_len hil) | omega | (dsimp only; omega) | exact fun (j : Nat) (hj : j < _) => sub_adAt _ _ 7 _ hj)
/-- gazetteer/gazetteerref39.New -/
def g11 : List Nat := [12, 0, 22, 6, 5, 4, 2, 3]
def c11 : SCode :=
  .seq (.region g11 [⟨some 2, none, .move (.c (.nilptr)), []⟩, ⟨some 3, none, .move (.c (.int .i64 0)), []⟩]) (.seq (.region g11 [⟨some 7, none, .build (.cons (.nilsl) .nil) [], []⟩, ⟨some 8, none, .box 61 (.s 7), []⟩, ⟨some 4, none, .move (.s 8), []⟩]) (.seq (.seq (.region g11 [⟨some 5, none, .move (.c (.int .i64 0)), []⟩]) (.block 0 (.loop 0 [9, 10, 11, 12, 15, 16, 17, 18, 19, 20, 6, 21, 22, 23, 2, 3, 13, 14, 5] (.seq (.seq (.region g11 [⟨some 9, none, .move (.s 5), []⟩, ⟨some 10, none, .move (.s 0), []⟩, ⟨some 11, none, .lenSl (.s 10), []⟩, ⟨some 12, none, .bin (.lss) (.s 9) (.s 11), []⟩]) (.cond (.s 12) .skip (.exit 0))) (.seq (.block 1 (.seq (.region g11 [⟨some 15, none, .move (.s 4), []⟩, ⟨some 16, none, .move (.s 0), []⟩, ⟨some 17, none, .move (.s 5), []⟩, ⟨some 18, none, .idxSl 11 (.s 16) (.s 17), []⟩, ⟨some 19, none, .load 11 true (.s 18), []⟩, ⟨some 20, none, .call (.c (.fn 13)) [.s 15, .s 19], []⟩, ⟨some 6, none, .move (.s 20), []⟩]) (.seq (.region g11 [⟨some 21, none, .move (.s 6), []⟩, ⟨some 22, none, .bin (.neq) (.s 21) (.c (.int .i64 0)), []⟩]) (.cond (.s 22) (.seq (.region g11 [⟨some 23, none, .move (.s 6), []⟩, ⟨some 2, none, .move (.c (.nilptr)), []⟩, ⟨some 3, none, .move (.s 23), []⟩]) .ret) .skip)))) (.region g11 [⟨some 13, none, .move (.s 5), []⟩, ⟨some 14, none, .bin (.add) (.s 13) (.c (.int .i64 1)), []⟩, ⟨some 5, none, .move (.s 14), []⟩])))))) (.seq (.region g11 [⟨some 24, none, .move (.s 4), []⟩, ⟨some 2, none, .move (.s 24), []⟩, ⟨some 3, none, .move (.c (.int .i64 0)), []⟩]) .ret)))
def r11 : List SRes := [.slot 2, .slot 3]
def k11 : List (Nat × Nat × SCode × Nat) := []
theorem e11 : cFunc Try.prog 11 g11 [] [] k11 = some (c11, r11, 25) := by kernel_rfl
theorem q11 : RgOk Try.prog k11 := RgOk.nil
/-- The list behind the first i addresses. -/
def putLN (a : Nat → Adr) : Nat → List Adr
  | 0 => []
  | i + 1 => (R12.putL (putLN a i) (a i)).2
def codeLN (a : Nat → Adr) (i : Nat) : Int := (R12.putL (putLN a i) (a i)).1
theorem putL_len {l : List Adr} (a : Adr) (h : l.length ≤ 20000) : (R12.putL l a).2.length ≤ 20000 := by
  unfold R12.putL
  split
  · split
    · exact h
    · split
      · exact h
      · rw [List.length_append, List.length_singleton]; omega
  · exact h
theorem putLN_len (a : Nat → Adr) : ∀ i, (putLN a i).length ≤ 20000 := by
  intro i
  induction i with
  | zero => exact Nat.zero_le _
  | succ i ih => exact putL_len _ ih
def newVL (x : Adrs) (y : Int × Option (List Adr)) : Prop :=
  ((∀ j, j < x.n → codeLN x.a j = 0) ∧ y = (0, some (putLN x.a x.n))) ∨ ∃ i, i < x.n ∧ (∀ j, j < i → codeLN x.a j = 0) ∧ codeLN x.a i ≠ 0 ∧ y = (codeLN x.a i, none)
def optL : Option (List Adr) → List (Nat × HObj)
  | some l => rH 1 l
  | none => []
def optE : Option (List Adr) → SV
  | some _ => .own 0 0
  | none => .val (.pointer none)
def RNew : Eng.MSpec where
  X := Adrs
  Y := Int × Option (List Adr)
  args := fun x => .cons (.slice 11 x.n fun i => adL (x.a i)) .nil
  pre := fun x => (x.n : Int) ≤ 9223372036854775806 ∧ ∀ i, i < x.n → ((x.a i).door.length : Int) ≤ 9223372036854775807
  h0 := fun _ => []
  nx0 := 0
  post := newVL
  res := fun _ y => .tup (.cons (optE y.2) (.cons (.int .i64 y.1) .nil))
  h1 := fun _ y => optL y.2
  nx1 := 2
/-- The two ways of adding an address. -/
theorem putR_all {l : List Adr} {a : Adr} {Q : Int × List Adr × Nat → Prop} (h1 : (R12.putL l a).1 = 0 → Q (0, (R12.putL l a).2, 2)) (h2 : (R12.putL l a).1 ≠ 0 → (R12.putL l a).2 = l → Q ((R12.putL l a).1, l, 1)) :
    ∀ y : Int × List Adr × Nat, ((y.1, y.2.1) = R12.putL l a ∧ y.2.2 = if y.1 = 0 then 2 else 1) → Q y := by
  rintro ⟨c, m, k⟩ ⟨e, hk⟩
  replace hk : k = if c = 0 then 2 else 1 := hk
  have e1 : (R12.putL l a).1 = c := by rw [← e]
  have e2 : (R12.putL l a).2 = m := by rw [← e]
  by_cases hc : c = 0
  · have hk' : k = 2 := by rw [hk]; exact if_pos hc
    rw [hk', ← e2, hc]
    exact h1 (e1.trans hc)
  · have hk' : k = 1 := by rw [hk]; exact if_neg hc
    have hne : (R12.putL l a).1 ≠ 0 := by rw [e1]; exact hc
    have e3 : (R12.putL l a).2 = l := by
      revert hne
      unfold R12.putL
      split
      · split
        · intro _; rfl
        · split
          · intro _; rfl
          · intro h; exact absurd rfl h
      · intro _; rfl
    have := h2 hne e3
    rw [e1] at this
    rw [hk', ← e2, e3]
    exact this
theorem sub_rn (k : Keep) (hp : List (Nat × HObj)) (l : List (Nat × Nat)) (m : List Adr) {j n : Nat} (_ : j < n) : sub k hp 20 (rnS l (adAt m j)) (adAt m j) := by
  unfold adAt
  generalize m.getD j ad0 = a
  repeat' (first | refine And.intro ?_ ?_ | exact trivial | exact rfl)
theorem code_no {c : Int} {P : Prop} (h : c ≠ 0) (hb : (!decide (c = 0)) = false) : P := by
  rw [decide_eq_false h] at hb
  cases hb
theorem RNew_ok : RNew.Ok Try.prog 11 := by
  refine Eng.MSpec.ok_of e11 q11 (fun _ => [(13, .m RPut)]) (fun _ _ => TabOk.m RPut_ok TabOk.nil) ?_
  intro (x : Adrs) ⟨hn, hs⟩
  replace hn : (x.n : Int) ≤ 9223372036854775806 := hn
  refine ⟨trivial, ?_⟩
  refine ⟨⟨Nat, fun i => i ≤ x.n ∧ ∀ j, j < i → codeLN x.a j = 0, fun i => [(5, .int .i64 (i : Int))], fun i => [(0, .cells 61 (.cons (.lsl 8 11 (putLN x.a i).length) .nil)), (8, .arr 40 11 (putLN x.a i).length (adAt (putLN x.a i)))], fun i => x.n - i⟩, 0, ⟨Nat.zero_le _, fun j hj => absurd hj (Nat.not_lt_zero j)⟩, ?_, ?_⟩
  · repeat' (first | refine And.intro ?_ ?_ | exact trivial | exact rfl | exact fun (j : Nat) (hj : j < _) => sub_ad _ _ 6 _)
  rintro (i : Nat) ⟨hi, hall⟩
  replace hi : i ≤ x.n := hi
  replace hall : ∀ j, j < i → codeLN x.a j = 0 := hall
  have hlen := putLN_len x.a i
  refine ⟨fun hlt => ?_, fun hge => ?_⟩
  · have hlt' : i < x.n := by simpa using hlt
    have hai := hs i hlt'
    repeat' (first | refine And.intro ?_ ?_ | exact trivial | exact rfl | exact fun (j : Nat) (hj : j < _) => sub_adAt _ _ 7 _ hj | omega | refine Exists.intro (putLN x.a i, x.a i) (Exists.intro [0, 8] ?_) | exact hlen | exact hai)
    refine putR_all (fun hc => ?_) (fun hc hl => ?_)
    · have hc' : codeLN x.a i = 0 := hc
      repeat' (first | refine And.intro ?_ ?_ | exact trivial | exact rfl | (refine fun (h : false = true) => absurd h (by decide)) | (refine fun (_ : false = false) => ?_) | omega)
      refine ⟨i + 1, ⟨hlt', fun j hj => ?_⟩, ?_, ?_⟩
      · by_cases e : j = i
        · rw [e]; exact hc'
        · have hj' : j < i + 1 := hj
          exact hall j (by omega)
      · repeat' (first | refine And.intro ?_ ?_ | exact trivial | exact rfl | exact fun (j : Nat) (hj : j < _) => sub_rn _ _ _ _ hj | exact fun (j : Nat) (hj : j < _) => sub_ad _ _ 6 _ | exact fun (j : Nat) (hj : j < _) => sub_adAt _ _ 7 _ hj | omega)
      · show x.n - (i + 1) < x.n - i
        omega
    · have hc' : codeLN x.a i ≠ 0 := hc
      repeat' (first | refine And.intro ?_ ?_ | exact trivial | exact rfl | exact fun (hb : (!decide (codeLN x.a i = 0)) = false) => code_no hc' hb | (refine fun (hb : (!decide (codeLN x.a i = 0)) = true) => ?_) | omega)
      refine Exists.intro (codeLN x.a i, none) (And.intro (.inr ⟨i, hlt', hall, hc', rfl⟩) ?_)
      repeat' (first | refine And.intro ?_ ?_ | exact trivial | exact rfl | exact fun (j : Nat) (hj : j < _) => sub_rn _ _ _ _ hj | exact fun (j : Nat) (hj : j < _) => sub_adAt _ _ 7 _ hj)
  · have hge' : ¬ i < x.n := by simpa using hge
    have hin : i = x.n := by omega
    refine Exists.intro (0, some (putLN x.a i)) (And.intro (.inl ⟨by rw [← hin]; exact hall, by rw [← hin]⟩) ?_)
    repeat' (first | refine And.intro ?_ ?_ | exact trivial | exact rfl | exact fun (j : Nat) (hj : j < _) => sub_adAt _ _ 7 _ hj)
end R13
