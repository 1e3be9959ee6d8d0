/- A part of the proof: see the last text. -/
import Derived.Test.YtjfjbkgkafgofaaR25
open Go Go.Eng Go.Proofs R2 R3 R4 R1 R5 R6 R7 R8 R9 R10 R10b R11 R12 R13 R14 R15 R16 R17 R18 R19 R24 R25
set_option maxRecDepth 100000
namespace R27
theorem tab3_bad {x : X3} (h : ¬ ∀ j, j < x.l.n → codeN x.l.a j = 0) : tab3 x = [(8, .p headS), (10, .m New), (11, .m RNew), (9, .p Few), (18, .p Same), (12, .p PutNil), (13, .p RPutNil), (14, .p DropNil), (15, .p RDropNil), (16, .p NearNil), (17, .p RNearNil)] := by
  unfold tab3
  rw [if_neg h]
  rfl
theorem sub_str (k : Keep) (hp : List (Nat × HObj)) (n : Nat) (s : List UInt8) : sub k hp (n + 3) (RC.strL s) (RC.strL s) := ⟨rfl, trivial⟩
theorem sub_ptl (k : Keep) (hp : List (Nat × HObj)) (n : Nat) (p : Int × Int) : sub k hp (n + 3) (ptL p) (ptL p) := ⟨⟨rfl, rfl⟩, ⟨rfl, rfl⟩, trivial⟩
theorem loop3 {i a b c : Nat} {u v : Nat} (h : pickB (pickB (decide ((i : Int) < (a : Int))) (.c (.bool true)) (.s u) true (decide ((i : Int) < (b : Int)))) (.c (.bool true)) (.s v) true (decide ((i : Int) < (c : Int))) = true) (h1 : a ≤ 30) (h2 : b ≤ 30) (h3 : c ≤ 30) : i < 30 := by
  rw [pickB_or, pickB_or] at h
  simp only [Bool.or_eq_true, decide_eq_true_eq] at h
  omega
theorem bad_chk {c : Int} (h : c ≠ 0) (i : Nat) : pickB (!decide (c = c)) (.c (.bool true)) (.s i) true (!((!false) == !decide (c = 0))) = false := by
  rw [pickB_or, decide_eq_true rfl, decide_eq_false h]
  rfl
theorem few3 {a b : Bool} {m n : Nat} {i j k : Nat} (h : pickB (pickB (pickB (!a) (.c (.bool true)) (.s i) true (!b)) (.c (.bool true)) (.s j) true (decide (30 < (m : Int)))) (.c (.bool true)) (.s k) true (decide (30 < (n : Int))) = false) : a = true ∧ b = true ∧ m ≤ 30 ∧ n ≤ 30 := by
  rw [pickB_or, pickB_or, pickB_or] at h
  simp only [Bool.or_eq_false_iff, Bool.not_eq_false', decide_eq_false_iff_not] at h
  exact ⟨h.1.1.1, h.1.1.2, by omega, by omega⟩
theorem idx_ok {i n : Nat} (h : decide ((i : Int) < (n : Int)) = true) : (0 : Int) ≤ (i : Int) ∧ (i : Int) < (n : Int) := ⟨by omega, of_decide_eq_true h⟩
theorem door_ok {m : Adrs} {i : Nat} (hs2 : ∀ i, i < m.n → ((m.a i).door.length : Int) ≤ 9223372036854775807) (h : decide ((i : Int) < (m.n : Int)) = true) : ((m.a ((i : Nat) : Int).toNat).door.length : Int) ≤ 9223372036854775807 := by
  rw [Int.toNat_natCast]
  exact hs2 i (by have := of_decide_eq_true h; omega)
theorem no_tf' {b : Bool} (h : b = false) (h2 : b = true) : False := by rw [h] at h2; cases h2
theorem chkR {b x : Bool} {i : Nat} (hb : b = false) (hx : x = false) : pickB b (.c (.bool true)) (.s i) true x = false := by
  rw [pickB_or, hb, hx]
  rfl
theorem chkA1 {p : Bool} {i : Nat} {c : Int} : pickB p (.s i) (.c (.bool false)) (!decide (c = c)) false = false := by
  rw [pickB_and, decide_eq_true rfl]
  cases p <;> rfl
theorem nil_len : ((([] : List Fnd).length : Nat) : Int) ≤ 9223372036854775806 := by decide
theorem nil_chk {n c : Int} {i j : Nat} : pickB (pickB (!sameB (twoL [] [] 0)) (.c (.bool true)) (.s i) true (!decide (n = n))) (.c (.bool true)) (.s j) true (!decide (c = c)) = false := by
  rw [pickB_or, pickB_or, same_take (k := 0) (L := []) (M := []) rfl fun _ _ => rfl, decide_eq_true rfl, decide_eq_true rfl]
  rfl
def allOk (x : X3) : Prop := ∀ j, j < x.l.n → codeN x.l.a j = 0
def law3b : Eng.Spec := { law3 with pre := fun x => law3.pre x ∧ ¬ allOk x }
set_option maxHeartbeats 4000000 in
theorem law3b_ok : law3b.Ok Try.prog 3 := by
  refine Eng.Spec.ok_of e3 q3 tab3 (fun x _ => tab3_ok x) ?_
  rintro ⟨l, m, s, q, most⟩ ⟨⟨⟨hn, hs⟩, ⟨hn2, hs2⟩, hn3, hn4⟩, hall⟩
  replace hn : (l.n : Int) ≤ 9223372036854775806 := hn
  replace hs : ∀ i, i < l.n → ((l.a i).door.length : Int) ≤ 9223372036854775807 := hs
  replace hn2 : (m.n : Int) ≤ 9223372036854775806 := hn2
  replace hs2 : ∀ i, i < m.n → ((m.a i).door.length : Int) ≤ 9223372036854775807 := hs2
  replace hn3 : (s.n : Int) ≤ 9223372036854775806 := hn3
  replace hn4 : (q.n : Int) ≤ 9223372036854775806 := hn4
  replace hall : ¬ ∀ j, j < l.n → codeN l.a j = 0 := hall
  refine ⟨trivial, ?_⟩
  rw [tab3_bad (x := ⟨l, m, s, q, most⟩) hall]
  repeat' (first | refine And.intro ?_ ?_ | exact trivial | exact rfl | exact hn | exact hn2 | exact fun (j : Nat) (hj : j < _) => sub_ad _ _ _ _ | (refine fun (_ : guardP _ _ _ _) => ?_) | omega | (dsimp only; omega))
  · refine fun (_ : pickB _ _ _ _ _ = true) => ?_
    repeat' (first | refine And.intro ?_ ?_ | exact trivial | exact rfl)
  refine fun (hb : pickB _ _ _ _ _ = false) => ?_
  have hf := few3 hb
  obtain ⟨c, hc, hb1, hb2⟩ := both_bad (x := l) hall
  have hcd : decide (c = 0) = false := decide_eq_false hc
  repeat' (first | refine And.intro ?_ ?_ | exact trivial | exact rfl)
  refine Exists.intro l (Exists.intro [] ?_)
  repeat' (first | refine And.intro ?_ ?_ | exact trivial | exact rfl | exact hn | exact hs | exact fun (j : Nat) (hj : j < _) => sub_ad _ _ _ _)
  refine val_all hb1 ?_
  repeat' (first | refine And.intro ?_ ?_ | exact trivial | exact rfl)
  refine Exists.intro l (Exists.intro [] ?_)
  repeat' (first | refine And.intro ?_ ?_ | exact trivial | exact rfl | exact hn | exact hs | exact fun (j : Nat) (hj : j < _) => sub_ad _ _ _ _)
  refine val_all hb2 ?_
  repeat' (first | refine And.intro ?_ ?_ | exact trivial | exact rfl | (refine fun (_ : guardP _ _ _ _) => ?_) | omega | (dsimp only; omega))
  · exact fun (hz : pickB _ _ _ _ _ = true) => absurd (hz.symm.trans (bad_chk hc _)) (by decide)
  refine fun (_ : pickB _ _ _ _ _ = false) => ?_
  repeat' (first | refine And.intro ?_ ?_ | exact trivial | exact rfl)
  refine ⟨⟨Nat, fun i => i ≤ 31, fun i => [(16, .int .i64 (i : Int))], fun _ => [], fun i => 31 - i⟩, 0, Nat.zero_le _, ?_, ?_⟩
  · repeat' (first | refine And.intro ?_ ?_ | exact trivial | exact rfl | exact fun (j : Nat) (hj : j < _) => sub_ad _ _ _ _ | exact fun (j : Nat) (hj : j < _) => sub_str _ _ _ _ | exact fun (j : Nat) (hj : j < _) => sub_ptl _ _ _ _)
  rintro (i : Nat) hi
  replace hi : i ≤ 31 := hi
  have hm30 := few_n hf.2.1
  repeat' (first | refine And.intro ?_ ?_ | exact trivial | exact rfl)
  · refine fun (hz : pickB _ _ _ _ _ = true) => ?_
    have hi30 := loop3 hz hm30 hf.2.2.1 hf.2.2.2
    have hi0 : (0 : Int) ≤ (i : Int) := by omega
    have hin1 : -9223372036854775808 ≤ (i : Int) + 1 := by omega
    have hin2 : (i : Int) + 1 ≤ 9223372036854775807 := by omega
    repeat' (first | exact fun (h : decide ((i : Int) < (m.n : Int)) = true) => idx_ok h | exact fun (h : decide ((i : Int) < (s.n : Int)) = true ∧ _) => idx_ok h.1 | refine And.intro ?_ ?_ | exact trivial | exact rfl)
    · refine fun (h : decide ((i : Int) < (m.n : Int)) = true) => And.intro (door_ok hs2 h) ?_
      repeat' (first | refine And.intro ?_ ?_ | exact trivial | exact rfl)
    · refine fun (h : decide ((i : Int) < (m.n : Int)) = true) => And.intro (door_ok hs2 h) ?_
      repeat' (first | refine And.intro ?_ ?_ | exact trivial | exact rfl)
    · refine fun (_ : guardP _ _ _ _) => ?_
      repeat' (first | refine And.intro ?_ ?_ | exact trivial | exact rfl)
    · refine fun (_ : guardP _ _ _ _) => ?_
      repeat' (first | refine And.intro ?_ ?_ | exact trivial | exact rfl)
    · exact fun (h : pickB _ _ _ _ _ = true) => (no_tf' (chkR chkA1 chkA1) h).elim
    refine fun (_ : pickB _ _ _ _ _ = false) => ?_
    repeat' (first | refine And.intro ?_ ?_ | exact trivial | exact rfl)
    · refine fun (hq : decide ((i : Int) < (q.n : Int)) = true) => ?_
      have hiq : (i : Int) < (q.n : Int) := of_decide_eq_true hq
      repeat' (first | exact hi0 | exact hiq | refine And.intro ?_ ?_ | exact trivial | exact rfl | (refine fun (i : Nat) (_ : i < _) => ?_))
      · exact nil_len
      · exact nil_len
      · exact fun (h : pickB _ _ _ _ _ = true) => (no_tf' nil_chk h).elim
      refine fun (_ : pickB _ _ _ _ _ = false) => ?_
      repeat' (first | refine And.intro ?_ ?_ | exact trivial | exact rfl)
      · exact hin1
      · exact hin2
      refine Exists.intro (i + 1) (And.intro (show i + 1 ≤ 31 by omega) (And.intro ?_ ?_))
      · repeat' (first | refine And.intro ?_ ?_ | exact trivial | exact rfl | exact fun (j : Nat) (hj : j < _) => sub_ad _ _ _ _ | exact fun (j : Nat) (hj : j < _) => sub_str _ _ _ _ | exact fun (j : Nat) (hj : j < _) => sub_ptl _ _ _ _ | fail)
      · show 31 - (i + 1) < 31 - i
        omega
    · refine fun (_ : decide ((i : Int) < (q.n : Int)) = false) => ?_
      repeat' (first | refine And.intro ?_ ?_ | exact trivial | exact rfl)
      · exact hin1
      · exact hin2
      refine Exists.intro (i + 1) (And.intro (show i + 1 ≤ 31 by omega) (And.intro ?_ ?_))
      · repeat' (first | refine And.intro ?_ ?_ | exact trivial | exact rfl | exact fun (j : Nat) (hj : j < _) => sub_ad _ _ _ _ | exact fun (j : Nat) (hj : j < _) => sub_str _ _ _ _ | exact fun (j : Nat) (hj : j < _) => sub_ptl _ _ _ _ | fail)
      · show 31 - (i + 1) < 31 - i
        omega
  · refine fun (hz : pickB _ _ _ _ _ = false) => ?_
    repeat' (first | refine And.intro ?_ ?_ | exact trivial | exact rfl)
end R27
