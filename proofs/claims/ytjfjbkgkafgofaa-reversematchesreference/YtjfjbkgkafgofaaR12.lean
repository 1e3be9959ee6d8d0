/- A part of the proof: see the last text. -/
import Derived.Test.YtjfjbkgkafgofaaR8
import Derived.Test.YtjfjbkgkafgofaaEngSort
open Go Go.Eng Go.Proofs R2 R3 R4 R1 R5 R6 R7 R8
set_option maxRecDepth 100000
namespace R12
/-- (*gazetteer/gazetteerref39.Grid).index -/
def g28 : List Nat := [12, 0, 1, 24, 5, 4]
def c28 : SCode :=
  .seq (.region g28 [⟨some 4, none, .move (.c (.int .i64 0)), []⟩]) (.seq (.seq (.region g28 [⟨some 5, none, .move (.c (.int .i64 0)), []⟩]) (.block 0 (.loop 0 [6, 7, 8, 9, 10, 11, 12, 15, 16, 17, 18, 19, 20, 21, 22, 23, 24, 25, 4, 13, 14, 5] (.seq (.seq (.region g28 [⟨some 6, none, .move (.s 5), []⟩, ⟨some 7, none, .move (.s 0), []⟩, ⟨some 8, none, .nilCheck (.s 7), []⟩, ⟨some 9, none, .fldA 0 (.s 8), []⟩, ⟨some 10, none, .load 1 false (.s 9), []⟩, ⟨some 11, none, .lenSl (.s 10), []⟩, ⟨some 12, none, .bin (.lss) (.s 6) (.s 11), []⟩]) (.cond (.s 12) .skip (.exit 0))) (.seq (.block 1 (.seq (.region g28 [⟨some 15, none, .move (.s 0), []⟩, ⟨some 16, none, .nilCheck (.s 15), []⟩, ⟨some 17, none, .fldA 0 (.s 16), []⟩, ⟨some 18, none, .load 1 false (.s 17), []⟩, ⟨some 19, none, .move (.s 5), []⟩, ⟨some 20, none, .idxSl 11 (.s 18) (.s 19), []⟩, ⟨some 21, none, .fldA 0 (.s 20), []⟩, ⟨some 22, none, .load 1 false (.s 21), []⟩, ⟨some 23, none, .move (.s 1), []⟩, ⟨some 24, none, .bin (.eql) (.s 22) (.s 23), []⟩]) (.cond (.s 24) (.seq (.region g28 [⟨some 25, none, .move (.s 5), []⟩, ⟨some 4, none, .move (.s 25), []⟩]) .ret) .skip))) (.region g28 [⟨some 13, none, .move (.s 5), []⟩, ⟨some 14, none, .bin (.add) (.s 13) (.c (.int .i64 1)), []⟩, ⟨some 5, none, .move (.s 14), []⟩])))))) (.seq (.region g28 [⟨some 4, none, .move (.c (.int .i64 (-1))), []⟩]) .ret))
def r28 : List SRes := [.slot 4]
def k28 : List (Nat × Nat × SCode × Nat) := []
theorem e28 : cFunc Try.prog 28 g28 [] [] k28 = some (c28, r28, 26) := by kernel_rfl
theorem q28 : RgOk Try.prog k28 := RgOk.nil
def ad0 : Adr := ⟨[], [], [], [], [], 0, [], 0, 0, (0, 0)⟩
def adAt (l : List Adr) (i : Nat) : SV := adL (l.getD i ad0)
/-- The reference's index: its list is the tracked object k. -/
def rH (k : Nat) (l : List Adr) : List (Nat × HObj) := [(0, .cells 61 (.cons (.lsl k 11 l.length) .nil)), (k, .arr 40 11 l.length (adAt l))]
def idxP (l : List Adr) (s : List UInt8) (y : Int) : Prop :=
  (y = -1 ∧ ∀ j, j < l.length → (l.getD j ad0).door ≠ s) ∨ ∃ i : Nat, i < l.length ∧ y = (i : Int) ∧ (l.getD i ad0).door = s ∧ ∀ j, j < i → (l.getD j ad0).door ≠ s
theorem sub_ad (k : Keep) (hp : List (Nat × HObj)) (n : Nat) (a : Adr) : sub k hp (n + 13) (adL a) (adL a) := by
  repeat' (first | refine And.intro ?_ ?_ | exact trivial | exact rfl)
theorem sub_adAt (k : Keep) (hp : List (Nat × HObj)) (n : Nat) (l : List Adr) {j m : Nat} (_ : j < m) : sub k hp (n + 13) (adAt l j) (adAt l j) := sub_ad k hp n _
def index : Eng.MSpec where
  X := List Adr × List UInt8
  Y := Int
  args := fun x => .cons (.own 0 0) (.cons (.str x.2) .nil)
  pre := fun x => x.1.length ≤ 20000
  h0 := fun x => rH 1 x.1
  nx0 := 2
  post := fun x y => idxP x.1 x.2 y
  res := fun _ y => .int .i64 y
  h1 := fun x _ => rH 1 x.1
  nx1 := 2
theorem index_ok : index.Ok Try.prog 28 := by
  refine Eng.MSpec.ok_of e28 q28 (fun _ => []) (fun _ _ => TabOk.nil) ?_
  rintro ⟨l, s⟩ hl
  replace hl : l.length ≤ 20000 := hl
  refine ⟨trivial, ?_⟩
  refine ⟨⟨Nat, fun i => i ≤ l.length ∧ ∀ j, j < i → (l.getD j ad0).door ≠ s, fun i => [(5, .int .i64 (i : Int))], fun _ => [], fun i => l.length - i⟩, 0, ⟨Nat.zero_le _, fun j hj => absurd hj (Nat.not_lt_zero j)⟩, ?_, ?_⟩
  · repeat' (first | refine And.intro ?_ ?_ | exact trivial | exact rfl | exact fun (j : Nat) (hj : j < _) => sub_adAt _ _ 7 _ hj)
  rintro (i : Nat) ⟨hi, hall⟩
  replace hi : i ≤ l.length := hi
  replace hall : ∀ j, j < i → (l.getD j ad0).door ≠ s := hall
  refine And.intro (fun hb => ?_) (fun hb => ?_)
  · replace hb : i < l.length := by have h1 : (i : Int) < ((l.length : Nat) : Int) := of_decide_eq_true hb; omega
    repeat' (first | refine And.intro ?_ ?_ | exact trivial | exact rfl | omega | (dsimp only; omega))
    · refine fun hw => ?_
      have hw1 : (l.getD (0 + ((i : Nat) : Int).toNat) ad0).door = s := of_decide_eq_true hw
      rw [Nat.zero_add, Int.toNat_natCast] at hw1
      refine Exists.intro (i : Int) (And.intro (.inr ⟨i, hb, rfl, hw1, hall⟩) ?_)
      repeat' (first | refine And.intro ?_ ?_ | exact trivial | exact rfl | exact fun (j : Nat) (hj : j < _) => sub_adAt _ _ 7 _ hj)
    · refine fun hw => ?_
      have hw1 : ¬ (l.getD (0 + ((i : Nat) : Int).toNat) ad0).door = s := of_decide_eq_false hw
      rw [Nat.zero_add, Int.toNat_natCast] at hw1
      repeat' (first | refine And.intro ?_ ?_ | exact trivial | exact rfl | omega | (dsimp only; omega))
      refine Exists.intro (i + 1) (And.intro ⟨hb, fun j hj => ?_⟩ (And.intro ?_ ?_))
      · by_cases e : j = i
        · rw [e]; exact hw1
        · exact hall j (by omega)
      · repeat' (first | refine And.intro ?_ ?_ | exact trivial | exact rfl | exact fun (j : Nat) (hj : j < _) => sub_adAt _ _ 7 _ hj)
      · show l.length - (i + 1) < l.length - i
        omega
  · have hin : i = l.length := by have h1 : ¬ (i : Int) < ((l.length : Nat) : Int) := of_decide_eq_false hb; omega
    refine Exists.intro (-1 : Int) (And.intro (.inl ⟨rfl, fun j (hj : j < l.length) => hall j (by omega)⟩) ?_)
    repeat' (first | refine And.intro ?_ ?_ | exact trivial | exact rfl | exact fun (j : Nat) (hj : j < _) => sub_adAt _ _ 7 _ hj)
/-- (*gazetteer/gazetteerref39.Grid).Put -/
def g13 : List Nat := [1, 18, 23, 29, 0, 3, 4]
def c13 : SCode :=
  .seq (.region g13 [⟨some 3, none, .box 40 (.s 1), []⟩, ⟨some 4, none, .move (.c (.int .i64 0)), []⟩]) (.seq (.seq (.region g13 [⟨some 5, none, .move (.s 0), []⟩, ⟨some 6, none, .ptrEq false (.s 5) (.c (.nilptr)), []⟩, ⟨some 7, none, .move (.s 6), []⟩, ⟨some 8, some (7, false), .fldA 0 (.s 3), []⟩, ⟨some 9, some (7, false), .load 1 false (.s 8), []⟩, ⟨some 10, some (7, false), .call (.c (.fn 26)) [.s 9], []⟩, ⟨some 11, some (7, false), .not (.s 10), []⟩, ⟨some 12, none, .pick (.s 7) (.c (.bool true)) (.s 11), []⟩, ⟨some 13, none, .move (.s 12), []⟩, ⟨some 14, some (13, false), .fldA 9 (.s 3), []⟩, ⟨some 15, some (13, false), .load 2 true (.s 14), []⟩, ⟨some 16, some (13, false), .call (.c (.fn 27)) [.s 15], []⟩, ⟨some 17, some (13, false), .not (.s 16), []⟩, ⟨some 18, none, .pick (.s 13) (.c (.bool true)) (.s 17), []⟩]) (.cond (.s 18) (.seq (.region g13 [⟨some 4, none, .move (.c (.int .i64 1)), []⟩]) .ret) .skip)) (.seq (.seq (.region g13 [⟨some 19, none, .move (.s 0), []⟩, ⟨some 20, none, .fldA 0 (.s 3), []⟩, ⟨some 21, none, .load 1 false (.s 20), []⟩, ⟨some 22, none, .call (.c (.fn 28)) [.s 19, .s 21], []⟩, ⟨some 23, none, .bin (.geq) (.s 22) (.c (.int .i64 0)), []⟩]) (.cond (.s 23) (.seq (.region g13 [⟨some 4, none, .move (.c (.int .i64 8)), []⟩]) .ret) .skip)) (.seq (.seq (.region g13 [⟨some 24, none, .move (.s 0), []⟩, ⟨some 25, none, .nilCheck (.s 24), []⟩, ⟨some 26, none, .fldA 0 (.s 25), []⟩, ⟨some 27, none, .load 1 false (.s 26), []⟩, ⟨some 28, none, .lenSl (.s 27), []⟩, ⟨some 29, none, .bin (.geq) (.s 28) (.c (.int .i64 20000)), []⟩]) (.cond (.s 29) (.seq (.region g13 [⟨some 4, none, .move (.c (.int .i64 22)), []⟩]) .ret) .skip)) (.seq (.drawn g13 (.pure 0 ⟨some 30, none, .move (.s 0), []⟩ (.pure 1 ⟨some 31, none, .move (.s 0), []⟩ (.pure 2 ⟨some 32, none, .nilCheck (.s 31), []⟩ (.pure 3 ⟨some 33, none, .fldA 0 (.s 32), []⟩ (.pure 4 ⟨some 34, none, .load 1 false (.s 33), []⟩ (.pure 5 ⟨some 35, none, .load 11 true (.s 3), []⟩ (.pure 6 ⟨some 36, none, .buildSl 40 11 1 (.cons (.str []) (.cons (.str []) (.cons (.str []) (.cons (.str []) (.cons (.str []) (.cons (.int .i64 0) (.cons (.str []) (.cons (.int .i64 0) (.cons (.int .i64 0) (.cons (.int .i64 0) (.cons (.int .i64 0) .nil))))))))))) [(0, 11, .s 35)], []⟩ (.eff 7 ⟨some 37, none, .app 40 11 136 (.s 34) (.s 36), []⟩ [] (.pure 8 ⟨some 38, none, .nilCheck (.s 30), []⟩ (.pure 9 ⟨some 39, none, .fldA 0 (.s 38), []⟩ (.eff 10 ⟨none, none, .store 1 (.s 39) (.s 37), []⟩ [] .done .none))) .none))))))))) (.seq (.region g13 [⟨some 4, none, .move (.c (.int .i64 0)), []⟩]) .ret)))))
def r13 : List SRes := [.slot 4]
def k13 : List (Nat × Nat × SCode × Nat) := []
theorem e13 : cFunc Try.prog 13 g13 [] [] k13 = some (c13, r13, 40) := by kernel_rfl
theorem q13 : RgOk Try.prog k13 := RgOk.nil
def there (l : List Adr) (s : List UInt8) : Prop := ∃ j : Nat, j < l.length ∧ (l.getD j ad0).door = s
instance (l : List Adr) (s : List UInt8) : Decidable (there l s) := Nat.decidableExistsLT _
theorem idx_there {l : List Adr} {s : List UInt8} {y : Int} (h : idxP l s y) : decide (0 ≤ y) = decide (there l s) := by
  rcases h with ⟨rfl, h⟩ | ⟨i, h1, rfl, h2, _⟩
  · rw [decide_eq_false (by omega), decide_eq_false (fun ⟨j, k1, k2⟩ => h j k1 k2)]
  · rw [decide_eq_true (by omega), decide_eq_true ⟨i, h1, h2⟩]
def putL (l : List Adr) (a : Adr) : Int × List Adr :=
  if nameB a.door = true ∧ onB a.p = true then
    if there l a.door then (8, l) else if 20000 ≤ l.length then (22, l) else (0, l ++ [a])
  else (1, l)
theorem ad_app {k : Keep} {hp : List (Nat × HObj)} {l : List Adr} {a : Adr} {h : Nat → SV} (hh : h 0 = adL a) : ∀ j, j < l.length + 1 → sub k hp 20 (appE l.length (adAt l) h j) (adAt (l ++ [a]) j) := by
  intro j hj
  have e : appE l.length (adAt l) h j = adAt (l ++ [a]) j := by
    unfold appE adAt
    rw [List.getD_eq_getElem?_getD, List.getD_eq_getElem?_getD]
    by_cases e : j < l.length
    · have hb : Nat.blt j l.length = true := by rw [Nat.blt_eq]; exact e
      rw [hb, cond_true, List.getElem?_append_left e]
    · have hb : Nat.blt j l.length = false := by
        cases h : Nat.blt j l.length with
        | false => rfl
        | true => exact absurd (by rw [Nat.blt_eq] at h; exact h) e
      have hj' : j = l.length := by omega
      subst hj'
      rw [hb, cond_false, Nat.sub_self, hh]
      simp
  rw [e]
  exact sub_ad k hp 7 _
theorem ad_len {a : Adr} {l : List Adr} : l.length + 1 = (l ++ [a]).length := by simp
theorem adroomA {n : Nat} (h : n ≤ 20000) : n + 1 ≤ 9223372036854775807 := by omega
theorem adroomB {n : Nat} (h : n ≤ 20000) : (n + 1) * 136 ≤ 140737488355328 := by omega
/-- The list is the object 2 where an address has been added. -/
def RPut : Eng.MSpec where
  X := List Adr × Adr
  Y := Int × List Adr × Nat
  args := fun x => .cons (.own 0 0) (.cons (adE x.2) .nil)
  pre := fun x => x.1.length ≤ 20000 ∧ (x.2.door.length : Int) ≤ 9223372036854775807
  h0 := fun x => rH 1 x.1
  nx0 := 2
  post := fun x y => (y.1, y.2.1) = putL x.1 x.2 ∧ y.2.2 = if y.1 = 0 then 2 else 1
  res := fun _ y => .int .i64 y.1
  h1 := fun _x y => rH y.2.2 y.2.1
  nx1 := 3
theorem RPut_ok : RPut.Ok Try.prog 13 := by
  refine Eng.MSpec.ok_of e13 q13 (fun _ => [(26, .p Name), (27, .p OnR), (28, .m index)]) (fun _ _ => TabOk.p Name_ok (TabOk.p OnR_ok (TabOk.m index_ok TabOk.nil))) ?_
  rintro ⟨l, a⟩ ⟨hl, hs⟩
  replace hl : l.length ≤ 20000 := hl
  replace hs : (a.door.length : Int) ≤ 9223372036854775807 := hs
  refine ⟨trivial, ?_⟩
  have hcond : ∀ i j, pickB (pickB false (.c (.bool true)) (.s i) true (!nameB a.door)) (.c (.bool true)) (.s j) true (!onB a.p) = !decide (nameB a.door = true ∧ onB a.p = true) := by
    intro i j
    rw [pickB_or, pickB_or]
    cases nameB a.door <;> cases onB a.p <;> rfl
  by_cases hv : nameB a.door = true ∧ onB a.p = true
  · have hb0 := fun a b => (hcond a b).trans (by rw [decide_eq_true hv]; rfl : _ = false)
    repeat' (first | refine And.intro ?_ ?_ | exact trivial | exact rfl | exact hs | exact hl | omega | (dsimp only; omega) | (refine fun (_ : guardP _ _ _ _) => ?_) | (refine fun (hb : pickB _ _ _ _ _ = true) => absurd (hb.symm.trans (hb0 _ _)) (by decide)) | (refine fun (hb : pickB _ _ _ _ _ = false) => ?_))
    refine Exists.intro (l, a.door) (Exists.intro [0, 1] ?_)
    repeat' (first | refine And.intro ?_ ?_ | exact trivial | exact rfl | exact hs | exact hl | omega | (dsimp only; omega) | exact fun (j : Nat) (hj : j < _) => sub_adAt _ _ 7 _ hj)
    refine fun (y : Int) (hy : idxP l a.door y) => ?_
    have hyt := idx_there hy
    refine And.intro (fun hw => ?_) (fun hw => ?_)
    · have ht : there l a.door := of_decide_eq_true (hyt.symm.trans hw)
      have e : putL l a = (8, l) := by
        unfold putL
        rw [if_pos hv, if_pos ht]
      refine Exists.intro (8, l, 1) (And.intro ⟨e.symm, rfl⟩ ?_)
      repeat' (first | refine And.intro ?_ ?_ | exact trivial | exact rfl | exact hs | exact hl | omega | (dsimp only; omega) | exact fun (j : Nat) (hj : j < _) => sub_adAt _ _ 7 _ hj)
    · have ht : ¬ there l a.door := of_decide_eq_false (hyt.symm.trans hw)
      refine And.intro (fun hz => ?_) (fun hz => ?_)
      · have hz1 : (20000 : Int) ≤ ((l.length : Nat) : Int) := of_decide_eq_true hz
        have e : putL l a = (22, l) := by
          unfold putL
          rw [if_pos hv, if_neg ht, if_pos (by omega)]
        refine Exists.intro (22, l, 1) (And.intro ⟨e.symm, rfl⟩ ?_)
        repeat' (first | refine And.intro ?_ ?_ | exact trivial | exact rfl | exact hs | exact hl | omega | (dsimp only; omega) | exact fun (j : Nat) (hj : j < _) => sub_adAt _ _ 7 _ hj)
      · have hz1 : ¬ (20000 : Int) ≤ ((l.length : Nat) : Int) := of_decide_eq_false hz
        have e : putL l a = (0, l ++ [a]) := by
          unfold putL
          rw [if_pos hv, if_neg ht, if_neg (by omega)]
        repeat' (first | refine And.intro ?_ ?_ | exact trivial | exact rfl | exact hs | exact hl | omega | (dsimp only; omega) | exact adroomA hl | exact adroomB hl)
        refine Exists.intro (0, l ++ [a], 2) (And.intro ⟨e.symm, rfl⟩ ?_)
        repeat' (first | refine And.intro ?_ ?_ | exact trivial | exact rfl | exact hs | exact hl | omega | (dsimp only; omega) | exact ad_app (l := l) (a := a) rfl | exact ad_len (a := a) | exact fun (j : Nat) (hj : j < _) => sub_adAt _ _ 7 _ hj)
  · have e : putL l a = (1, l) := by unfold putL; rw [if_neg hv]
    have hb1 := fun a b => (hcond a b).trans (by rw [decide_eq_false hv]; rfl : _ = true)
    repeat' (first | refine And.intro ?_ ?_ | exact trivial | exact rfl | exact hs | exact hl | omega | (dsimp only; omega) | exact fun (j : Nat) (hj : j < _) => sub_adAt _ _ 7 _ hj | (refine fun (_ : guardP _ _ _ _) => ?_) | (refine fun (hb : pickB _ _ _ _ _ = false) => absurd (hb.symm.trans (hb1 _ _)) (by decide)) | refine Exists.intro (1, l, 1) (And.intro ⟨e.symm, rfl⟩ ?_) | (refine fun (hb : pickB _ _ _ _ _ = true) => ?_))
end R12
