/- A part of the proof: see the last text. -/
import Derived.Test.YtnkkbbjljmbjbaaA0
open Go Go.Eng Go.Proofs A0
set_option maxRecDepth 100000
namespace A1
/-- Lists of texts. -/
structure Tx where
  n : Nat
  s : Nat → List UInt8
/-- Facts: lists of lists of texts. -/
structure Fx where
  n : Nat
  k : Nat → Nat
  a : Nat → Nat → List UInt8
def txE (n : Nat) (s : Nat → List UInt8) : SV := .slice 1 n fun j => .cons (.str (s j)) .nil
def fxC (F : Fx) (i : Nat) : SV := .cons (txE (F.k i) (F.a i)) .nil
def fxE (F : Fx) : SV := .slice 1 F.n (fxC F)
def hdS : SV → List UInt8
  | .cons (.str s) _ => s
  | _ => []
def slN : SV → Nat
  | .cons (.slice _ n _) _ => n
  | _ => 0
def slF : SV → Nat → SV
  | .cons (.slice _ _ e) _ => e
  | _ => fun _ => .junk
def fxOf (n : Nat) (e : Nat → SV) : Fx := ⟨n, fun i => slN (e i), fun i j => hdS (slF (e i) j)⟩
theorem sub_tx (k : Keep) (hp : List (Nat × HObj)) (m n : Nat) (s : Nat → List UInt8) (hl : loose k = true) : sub k hp (m + 5) (txE n s) (txE n s) :=
  ⟨hl, rfl, rfl, fun _ _ => Or.inl ⟨rfl, trivial⟩⟩
theorem sub_fx (k : Keep) (hp : List (Nat × HObj)) (m : Nat) (F : Fx) (hl : loose k = true) {j n : Nat} (_ : j < n) : sub k hp (m + 9) (fxC F j) (fxC F j) :=
  ⟨sub_tx k hp (m + 3) _ _ hl, trivial⟩
/-! ### The candidates of a set -/
/-- (gazetteer/ask.set).candidates -/
def g17 : List Nat := [6, 0, 12, 4, 5, 3, 2]
def c17 : SCode :=
  .seq (.region g17 [⟨some 2, none, .move (.c (.nilsl)), []⟩]) (.seq (.region g17 [⟨some 3, none, .move (.c (.nilsl)), []⟩]) (.seq (.seq (.region g17 [⟨some 5, none, .move (.c (.int .i64 0)), []⟩]) (.block 0 (.loop 0 [6, 7, 4, 8, 9, 10, 11, 12, 13, 14, 15, 16, 3, 17, 5] (.seq (.region g17 [⟨some 6, none, .bin (.lss) (.s 5) (.c (.int .i64 8)), []⟩]) (.seq (.cond (.s 6) .skip (.exit 0)) (.seq (.block 1 (.seq (.region g17 [⟨some 7, none, .move (.s 5), []⟩, ⟨some 4, none, .move (.s 7), []⟩]) (.seq (.region g17 [⟨some 8, none, .move (.s 0), []⟩, ⟨some 9, none, .move (.s 4), []⟩, ⟨some 10, none, .bin (.shr) (.s 8) (.s 9), []⟩, ⟨some 11, none, .bin (.and) (.s 10) (.c (.int (.u64) 1)), []⟩, ⟨some 12, none, .bin (.eql) (.s 11) (.c (.int (.u64) 1)), []⟩]) (.cond (.s 12) (.region g17 [⟨some 13, none, .move (.s 3), []⟩, ⟨some 14, none, .move (.s 4), []⟩, ⟨some 15, none, .buildSl 3 1 1 (.cons (.int .i64 0) .nil) [(0, 1, .s 14)], []⟩, ⟨some 16, none, .app 3 1 8 (.s 13) (.s 15), []⟩, ⟨some 3, none, .move (.s 16), []⟩]) .skip)))) (.region g17 [⟨some 17, none, .bin (.add) (.s 5) (.c (.int .i64 1)), []⟩, ⟨some 5, none, .move (.s 17), []⟩]))))))) (.seq (.region g17 [⟨some 18, none, .move (.s 3), []⟩, ⟨some 2, none, .move (.s 18), []⟩]) .ret)))
def r17 : List SRes := [.slot 2]
def k17 : List (Nat × Nat × SCode × Nat) := []
theorem e17 : cFunc Try.prog 17 g17 [] [] k17 = some (c17, r17, 19) := by kernel_rfl
theorem q17 : RgOk Try.prog k17 := RgOk.nil
def candL (s : Nat) : List Nat := (List.range 8).filter fun i => s.testBit i
def candN (s i : Nat) : List Nat := (List.range i).filter fun j => s.testBit j
def natC (l : List Nat) : Nat → SV := lc natN 0 l
def natE (l : List Nat) : SV := .slice 1 l.length (natC l)
theorem candN_t {s i : Nat} (h : s.testBit i = true) : candN s (i + 1) = candN s i ++ [i] := by
  unfold candN
  rw [List.range_succ, List.filter_append]
  simp [h]
theorem candN_f {s i : Nat} (h : s.testBit i = false) : candN s (i + 1) = candN s i := by
  unfold candN
  rw [List.range_succ, List.filter_append]
  simp [h]
theorem candN_len (s i : Nat) : (candN s i).length ≤ i := by
  unfold candN
  exact Nat.le_trans (List.length_filter_le _ _) (by simp)
theorem bit_at {s i : Nat} (hs : s < 18446744073709551616) (hi : i ≤ 63) : bitI .and .u64 (shI .shr .u64 (s : Int) (i : Int)) 1 = if s.testBit i then 1 else 0 := by
  have h1 : shI .shr .u64 (s : Int) (i : Int) = ((s / 2 ^ i : Nat) : Int) := by
    unfold shI
    have : min (Int.toNat (i : Int)) (IntKind.bits .u64) = i := by
      have : IntKind.bits .u64 = 64 := rfl
      rw [this, Int.toNat_natCast]
      omega
    show Int.fdiv (s : Int) (2 ^ (min (Int.toNat (i : Int)) (IntKind.bits .u64))) = _
    rw [this, Int.fdiv_eq_ediv_of_nonneg _ (by exact Int.le_of_lt (Int.pow_pos (by omega)))]
    norm_cast
  have h2 : s / 2 ^ i < 18446744073709551616 := Nat.lt_of_le_of_lt (Nat.div_le_self _ _) hs
  rw [h1]
  show IntKind.wrap .u64 (((BitVec.ofInt 64 ((s / 2 ^ i : Nat) : Int) &&& BitVec.ofInt 64 1).toNat : Nat) : Int) = _
  have h3 : (BitVec.ofInt 64 ((s / 2 ^ i : Nat) : Int) &&& BitVec.ofInt 64 1).toNat = (s / 2 ^ i) % 2 := by
    rw [BitVec.toNat_and]
    have e1 : (BitVec.ofInt 64 ((s / 2 ^ i : Nat) : Int)).toNat = s / 2 ^ i := by
      rw [BitVec.ofInt_natCast, BitVec.toNat_ofNat]
      exact Nat.mod_eq_of_lt h2
    have e2 : (BitVec.ofInt 64 1).toNat = 1 := rfl
    rw [e1, e2, Nat.and_one_is_mod]
  rw [h3, Nat.testBit_eq_decide_div_mod_eq]
  rcases Nat.mod_two_eq_zero_or_one (s / 2 ^ i) with h | h <;> rw [h] <;> rfl
theorem cand_t {s i : Nat} (hs : s < 18446744073709551616) (hi : i < 8) (h : decide (bitI .and .u64 (shI .shr .u64 (s : Int) (i : Int)) 1 = 1) = true) : s.testBit i = true := by
  have := of_decide_eq_true h
  rw [bit_at hs (by omega)] at this
  split at this
  · assumption
  · cases this
theorem cand_f {s i : Nat} (hs : s < 18446744073709551616) (hi : i < 8) (h : decide (bitI .and .u64 (shI .shr .u64 (s : Int) (i : Int)) 1 = 1) = false) : s.testBit i = false := by
  have := of_decide_eq_false h
  rw [bit_at hs (by omega)] at this
  split at this
  · exact absurd rfl this
  · rename_i h
    simpa using h
theorem cand_len {s i : Nat} (h : s.testBit i = true) : (candN s i).length + 1 = (candN s (i + 1)).length := by rw [candN_t h]; simp
theorem cand_fl {s i : Nat} (h : s.testBit i = false) : (candN s i).length = (candN s (i + 1)).length := by rw [candN_f h]
theorem cand_sub {s i : Nat} (h : s.testBit i = true) {k : Keep} {hp : List (Nat × HObj)} {m : Nat} {e : Nat → SV} (he : e 0 = natN i) {n : Nat} (hn : n = (candN s (i + 1)).length) : ∀ j, j < n → SubC k (sub k hp (m + 3)) (appE (candN s i).length (natC (candN s i)) e j) (natC (candN s (i + 1)) j) := by
  rw [candN_t h] at hn ⊢
  exact sub_app (fun a => sub_natN k hp m a) he (by rw [hn]; simp)
theorem cand_fs {s i : Nat} (h : s.testBit i = false) {k : Keep} {hp : List (Nat × HObj)} {m n : Nat} : ∀ j, j < n → SubC k (sub k hp (m + 3)) (natC (candN s i) j) (natC (candN s (i + 1)) j) := by
  rw [candN_f h]
  exact sub_lc (fun a => sub_natN k hp m a)
def cand : Eng.Spec where
  X := Nat
  args := fun s => .cons (.int .u64 (s : Int)) .nil
  pre := fun s => s < 18446744073709551616
  res := fun s => natE (candL s)
  inst := fun
    | .cons (.int _ s) .nil => some s.toNat
    | _ => none
theorem cand_ok : cand.Ok Try.prog 17 := by
  refine Eng.Spec.ok_of e17 q17 (fun _ => []) (fun _ _ => TabOk.nil) ?_
  intro (s : Nat) hs
  replace hs : s < 18446744073709551616 := hs
  refine ⟨trivial, ?_⟩
  refine ⟨⟨Nat, fun i => i ≤ 8, fun i => [(5, .int .i64 (i : Int)), (3, .lsl 20 1 (candN s i).length)], fun i => [(20, .arr 3 1 (candN s i).length (natC (candN s i)))], fun i => 8 - i⟩, 0, Nat.zero_le _, ?_, ?_⟩
  · repeat' (first | refine And.intro ?_ ?_ | exact trivial | exact rfl | exact sub_lc (fun a => sub_natN _ _ _ a) | exact sub_lc0 (fun a => sub_natN _ _ _ a))
  rintro (i : Nat) hi
  replace hi : i ≤ 8 := hi
  have hl := candN_len s i
  refine And.intro (fun hb => ?_) (fun hb => ?_)
  · have hi8 : i < 8 := by have h1 : (i : Int) < 8 := of_decide_eq_true hb; omega
    have hbit := bit_at hs (show i ≤ 63 by omega)
    repeat' (first | refine And.intro ?_ ?_ | exact trivial | exact rfl | omega | (dsimp only; omega))
    · refine fun hz => ?_
      have hbt : s.testBit i = true := cand_t hs hi8 hz
      repeat' (first | refine And.intro ?_ ?_ | exact trivial | exact rfl | omega | (dsimp only; omega))
      refine Exists.intro (i + 1) (And.intro hi8 (And.intro ?_ ?_))
      · repeat' (first | refine And.intro ?_ ?_ | exact trivial | exact rfl | exact cand_len hbt | exact cand_sub hbt rfl (cand_len hbt) | fail)
      · show 8 - (i + 1) < 8 - i
        omega
    · refine fun hz => ?_
      have hbt : s.testBit i = false := cand_f hs hi8 hz
      repeat' (first | refine And.intro ?_ ?_ | exact trivial | exact rfl | omega | (dsimp only; omega))
      refine Exists.intro (i + 1) (And.intro hi8 (And.intro ?_ ?_))
      · repeat' (first | refine And.intro ?_ ?_ | exact trivial | exact rfl | exact cand_fl hbt | exact cand_fs hbt | fail)
      · show 8 - (i + 1) < 8 - i
        omega
  · have hi8 : i = 8 := by have h1 : ¬ (i : Int) < 8 := of_decide_eq_false hb; omega
    subst hi8
    repeat' (first | refine And.intro ?_ ?_ | exact trivial | exact rfl | exact sub_lc (fun a => sub_natN _ _ _ a) | exact sub_lc0 (fun a => sub_natN _ _ _ a) | omega | (dsimp only; omega))
end A1
