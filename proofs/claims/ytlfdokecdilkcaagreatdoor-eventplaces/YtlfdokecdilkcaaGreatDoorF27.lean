/- A part of the proof. -/
import Derived.Test.YtlfdokecdilkcaaGreatDoorF26
import Derived.Test.YtlfdokecdilkcaaGreatDoorF25
import Derived.Test.YtlfdokecdilkcaaGreatDoorF22
open Go Go.Eng Go.Proofs G1 G2 G3 G4 G6 G7 EV0 N1 N2 F1 F7 F9 F10 F12 F14 F21 F22 F26
set_option maxRecDepth 100000
namespace F27
structure Pl (e : Ev) (r : Pts) : Prop where
 on : ∀ i, i < r.n -> onB (r.p i) = true
 n : r.n <= 1000000
 bad : frmV e = false -> (r.n : Int) = 0
 k9 : frmV e = true -> e.kind = 9 -> (r.n : Int) = (e.list.n : Int)
 k1 : frmV e = true -> e.kind = 1 \/ e.kind = 2 \/ e.kind = 5 \/ e.kind = 6 \/ e.kind = 10 -> (r.n : Int) = 1
 k0 : frmV e = true -> e.kind ≠ 9 -> ¬ (e.kind = 1 \/ e.kind = 2 \/ e.kind = 5 \/ e.kind = 6 \/ e.kind = 10) -> (r.n : Int) = 0
theorem plc_pl (e : Ev) : Pl e (plcV e) := by
 unfold plcV
 cases hf : frmV e with
 | false =>
  rw [if_neg (by decide)]
  have no : frmV e = true -> ∀ {Q : Prop}, Q := fun h => by rw [hf] at h; cases h
  exact ⟨fun i hi => absurd hi (Nat.not_lt_zero i), Nat.zero_le _, fun _ => rfl, fun h => no (hf ▸ h), fun h => no (hf ▸ h), fun h => no (hf ▸ h)⟩
 | true =>
  have ff := frm_ff hf
  rw [if_pos rfl]
  have no : frmV e = false -> ∀ {Q : Prop}, Q := fun h => by rw [hf] at h; cases h
  by_cases k1 : e.kind = 1 \/ e.kind = 2 \/ e.kind = 5
  ·rw [if_pos k1]
   have hp := frm_path hf k1
   refine ⟨fun i hi => ?_, (by decide : 1 <= 1000000), fun h => no h, fun _ h => ?_, fun _ _ => rfl, fun _ _ h => ?_⟩
   ·have : i < 1 := hi
    obtain rfl : i = 0 := by omega
    exact ff.pth 0 hp
   ·rcases k1 with k | k | k <;> (rw [k] at h; exact absurd h (by decide))
   ·exact absurd (by rcases k1 with k | k | k <;> simp [k]) h
  ·rw [if_neg k1]
   by_cases k2 : e.kind = 6 \/ e.kind = 10
   ·rw [if_pos k2]
    refine ⟨fun i _ => ff.pt, (by decide : 1 <= 1000000), fun h => no h, fun _ h => ?_, fun _ _ => rfl, fun _ _ h => ?_⟩
    ·rcases k2 with k | k <;> (rw [k] at h; exact absurd h (by decide))
    ·exact absurd (by rcases k2 with k | k <;> simp [k]) h
   ·rw [if_neg k2]
    by_cases k3 : e.kind = 9
    ·rw [if_pos k3]
     refine ⟨fun i hi => ff.lst i hi, ?_, fun h => no h, fun _ _ => rfl, fun _ h => ?_, fun _ h => absurd k3 h⟩
     ·have := ff.list
      show e.list.n <= 1000000
      omega
     ·rw [k3] at h; exact absurd h (by decide)
    ·rw [if_neg k3]
     refine ⟨fun i hi => absurd hi (Nat.not_lt_zero i), Nat.zero_le _, fun h => no h, fun _ h => absurd h k3, fun _ h => ?_, fun _ _ _ => rfl⟩
     exfalso
     rcases h with h | h | h | h | h
     ·exact k1 (.inl h)
     ·exact k1 (.inr (.inl h))
     ·exact k1 (.inr (.inr h))
     ·exact k2 (.inl h)
     ·exact k2 (.inr h)
def plcM : Eng.MSpec := plcS.mof Pts (fun e y => y = plcV e) (fun _ y => rgE y)
theorem plcM_ok : plcM.Ok Tryz.prog 19 := Eng.Spec.mof_ok plc_ok fun e _ => ⟨plcV e, rfl, rfl⟩
def g7 : List Nat := [0, 10, 17, 25, 5, 28, 37, 1, 36, 48, 3, 4, 2]
def c7 : SCode :=
 .seq (.region g7 [(zo 1 (.box 31 (.s 0))), (zo 2 (.move (.c (.bool false))))]) (.seq (.region g7 [(zo 6 (.call (.c (.fn 10)) [])), (zo 3 (.move (.s 6)))]) (.seq (.seq (.region g7 [(zo 7 (.load 18 true (.s 1))), (zo 8 (.load 18 true (.s 1))), (zo 9 (.call (.c (.fn 11)) [.s 7, .s 8])), (zo 10 (.not (.s 9)))]) (.cond (.s 10) (.seq (.region g7 [(zo 11 (.move (.s 3))), (zo 2 (.move (.s 11)))]) .ret) .skip)) (.seq (.region g7 [(zo 12 (.load 18 true (.s 1))), (zo 13 (.call (.c (.fn 19)) [.s 12])), (zo 4 (.move (.s 13)))]) (.seq (.seq (.region g7 [(zo 5 (.move (.c (.int .i64 0))))]) (.block 0 (.loop 0 [14, 15, 16, 17, 20, 21, 22, 23, 24, 25, 2, 18, 19, 5] (.seq (.seq (.region g7 [(zo 14 (.move (.s 5))), (zo 15 (.move (.s 4))), (zo 16 (.lenSl (.s 15))), (zo 17 (.bin (.lss) (.s 14) (.s 16)))]) (.cond (.s 17) .skip (.exit 0))) (.seq (.block 1 (.seq (.region g7 [(zo 20 (.move (.s 4))), (zo 21 (.move (.s 5))), (zo 22 (.idxSl 2 (.s 20) (.s 21))), (zo 23 (.load 2 true (.s 22))), (zo 24 (.call (.c (.fn 23)) [.s 23])), (zo 25 (.not (.s 24)))]) (.cond (.s 25) (.seq (.region g7 [(zo 2 (.move (.c (.bool false))))]) .ret) .skip))) (.region g7 [(zo 18 (.move (.s 5))), (zo 19 (.bin (.add) (.s 18) (.c (.int .i64 1)))), (zo 5 (.move (.s 19)))])))))) (.seq (.seq (.region g7 [(zo 26 (.load 18 true (.s 1))), (zo 27 (.call (.c (.fn 16)) [.s 26])), (zo 28 (.not (.s 27)))]) (.cond (.s 28) (.seq (.region g7 [(zo 29 (.move (.s 3))), (zo 30 (.move (.s 29))), (zg 31 30 true (.move (.s 4))), (zg 32 30 true (.lenSl (.s 31))), (zg 33 30 true (.bin (.eql) (.s 32) (.c (.int .i64 0)))), (zo 34 (.pick (.s 30) (.s 33) (.c (.bool false)))), (zo 2 (.move (.s 34)))]) .ret) .skip)) (.seq (.seq (.region g7 [(zo 35 (.fldA 0 (.s 1))), (zo 36 (.load 1 false (.s 35)))]) (.block 2 (.seq (.region g7 [(zo 38 (.bin (.eql) (.s 36) (.c (.int .i64 9)))), (zo 37 (.move (.s 38)))]) (.cond (.s 37) (.seq (.region g7 [(zo 39 (.move (.s 3))), (zo 40 (.move (.s 39))), (zg 41 40 true (.move (.s 4))), (zg 42 40 true (.lenSl (.s 41))), (zg 43 40 true (.fldA 17 (.s 1))), (zg 44 40 true (.load 1 false (.s 43))), (zg 45 40 true (.lenSl (.s 44))), (zg 46 40 true (.bin (.eql) (.s 42) (.s 45))), (zo 47 (.pick (.s 40) (.s 46) (.c (.bool false)))), (zo 2 (.move (.s 47)))]) .ret) (.seq (.seq (.region g7 [(zo 49 (.bin (.eql) (.s 36) (.c (.int .i64 1)))), (zo 48 (.move (.s 49)))]) (.cond (.s 48) .skip (.seq (.region g7 [(zo 50 (.bin (.eql) (.s 36) (.c (.int .i64 2)))), (zo 48 (.move (.s 50)))]) (.cond (.s 48) .skip (.seq (.region g7 [(zo 51 (.bin (.eql) (.s 36) (.c (.int .i64 5)))), (zo 48 (.move (.s 51)))]) (.cond (.s 48) .skip (.seq (.region g7 [(zo 52 (.bin (.eql) (.s 36) (.c (.int .i64 6)))), (zo 48 (.move (.s 52)))]) (.cond (.s 48) .skip (.region g7 [(zo 53 (.bin (.eql) (.s 36) (.c (.int .i64 10)))), (zo 48 (.move (.s 53)))]))))))))) (.cond (.s 48) (.seq (.region g7 [(zo 54 (.move (.s 3))), (zo 55 (.move (.s 54))), (zg 56 55 true (.move (.s 4))), (zg 57 55 true (.lenSl (.s 56))), (zg 58 55 true (.bin (.eql) (.s 57) (.c (.int .i64 1)))), (zo 59 (.pick (.s 55) (.s 58) (.c (.bool false)))), (zo 2 (.move (.s 59)))]) .ret) .skip)))))) (.seq (.region g7 [(zo 60 (.move (.s 3))), (zo 61 (.move (.s 60))), (zg 62 61 true (.move (.s 4))), (zg 63 61 true (.lenSl (.s 62))), (zg 64 61 true (.bin (.eql) (.s 63) (.c (.int .i64 0)))), (zo 65 (.pick (.s 61) (.s 64) (.c (.bool false)))), (zo 2 (.move (.s 65)))]) .ret)))))))
def r7 : List SRes := [.slot 2]
def k7 : List (Nat × Nat × SCode × Nat) := []
theorem e7 : cFunc Tryz.prog 7 g7 [] [] k7 = some (c7, r7, 66) := by kernel_rfl
theorem q7 : RgOk Tryz.prog k7 := RgOk.nil
theorem pk {b : Bool} {i : Nat} (h : b = true) : pickB true (.s i) (.c (.bool false)) b false = true := by rw [pickB_and, h]; rfl
def law7 : Eng.Spec where
 X := Ev
 args := fun e => .cons (evE e) .nil
 pre := bigV
 res := fun _ => .bool true
 inst := ev1
set_option maxHeartbeats 80000000 in
theorem law7_ok : law7.Ok Tryz.prog 7 := by
 refine Eng.Spec.okR e7 q7 (fun _ => [(10, .p headS), (11, .p fw2S), (19, .m plcM), (16, .p frmS), (23, .p On)])
  (fun _ _ => TabOk.p head_ok (TabOk.p fw2_ok (TabOk.m plcM_ok (TabOk.p frm_ok (TabOk.p On_ok TabOk.nil))))) ?_
 rintro (e : Ev) (hb : bigV e)
 refine ⟨trivial, ?_⟩
 repeat' (first | exact hb | apply And.intro | exact trivial | exact rfl | exact lz fun _ => rfl | (refine fun (_ : guardP _ _ _ _) => ?_))
 ·refine fun _ => ?_
  repeat' (first | apply And.intro | exact trivial | exact rfl)
 ·refine fun (hc : (!(fewV e && fewV e)) = false) => ?_
  have hfw : fewV e = true := by have := bn_f hc; rw [Bool.and_self] at this; exact this
  have ho := few_okV hfw
  repeat' (first | exact ho | apply And.intro | exact trivial | exact rfl | exact lz fun _ => rfl | (refine fun (_ : guardP _ _ _ _) => ?_))
  refine Exists.intro e (Exists.intro [] ?_)
  repeat' (first | exact ho | apply And.intro | exact trivial | exact rfl | exact lz fun _ => rfl | (refine fun (_ : guardP _ _ _ _) => ?_))
  refine fun (r : Pts) (hr : r = plcV e) => ?_
  have pl : Pl e r := hr ▸ plc_pl e
  have hn := pl.n
  repeat' (first | exact ho | apply And.intro | exact trivial | exact rfl | exact lz fun _ => rfl | (refine fun (_ : guardP _ _ _ _) => ?_))
  refine ⟨⟨Nat, fun i => i <= r.n /\ orB (fun i => !onB (r.p i)) i = false, fun i => [(5, .int .i64 (i : Int))], fun _ => [], fun i => r.n - i⟩, 0, ⟨Nat.zero_le _, rfl⟩, ?_, ?_⟩
  ·repeat' (first | apply And.intro | exact trivial | exact rfl | exact lz fun _ => rfl)
  rintro (i : Nat) ⟨(hi : i <= r.n), (hf : orB (fun i => !onB (r.p i)) i = false)⟩
  repeat' (first | apply And.intro | exact trivial | exact rfl | exact lz fun _ => rfl)
  ·refine fun (h : decide ((i : Int) < (r.n : Int)) = true) => ?_
   have hi1 : (i : Int) < (r.n : Int) := of_decide_eq_true h
   have hil : i < r.n := by omega
   have hi0 : (0 : Int) <= (i : Int) := by omega
   have b1 : -9223372036854775808 <= (i : Int) + 1 := by omega
   have b2 : (i : Int) + 1 <= 9223372036854775807 := by omega

   repeat' (first | with_reducible exact hi1 | with_reducible exact hi0 | exact fun _ => And.intro hi0 hi1 | apply And.intro | exact trivial | exact rfl | exact lz fun _ => rfl)
   ·refine fun (hc0 : (!onB (r.p i)) = true) => ?_
    have hc : (fun i => !onB (r.p i)) i = true := id hc0
    have ho : orB (fun i => !onB (r.p i)) r.n = true := orB_true.2 ⟨i, hil, hc⟩
    have e : false = true := by exact absurd (bn_t hc) (by rw [pl.on i hil]; decide)
    repeat' (first | exact e | apply And.intro | exact trivial | exact rfl)
   ·refine fun (hc0 : (!onB (r.p i)) = false) => ?_
    have hc : (fun i => !onB (r.p i)) i = false := id hc0
    have hf1 : orB (fun i => !onB (r.p i)) (i + 1) = false := orB_step hf hc
    repeat' (first | with_reducible exact b1 | with_reducible exact b2 | apply And.intro | exact trivial | exact rfl)
    refine Exists.intro (i + 1) (And.intro (And.intro hil hf1) ?_)
    repeat' (first | apply And.intro | exact trivial | exact rfl | exact lz fun _ => rfl)
    exact nat_less hil
  refine fun (h : decide ((i : Int) < (r.n : Int)) = false) => ?_
  have hil : i = r.n := by have : ¬ (i : Int) < (r.n : Int) := of_decide_eq_false h; omega
  have ho1 : orB (fun i => !onB (r.p i)) r.n = false := by rw [<- hil]; exact hf
  repeat' (first | exact ho | apply And.intro | exact trivial | exact rfl | exact lz fun _ => rfl | (refine fun (_ : guardP _ _ _ _) => ?_))
  ·refine fun (hf : (!frmV e) = true) => ?_
   have hf : frmV e = false := bn_t hf
   have ef : pickB true (.s 33) (.c (.bool false)) (decide ((r.n : Int) = 0)) false = true := pk (decide_eq_true (pl.bad hf))
   repeat' (first | exact ef | apply And.intro | exact trivial | exact rfl | exact lz fun _ => rfl | (refine fun (_ : guardP _ _ _ _) => ?_))
  ·refine fun (hf : (!frmV e) = false) => ?_
   have hf : frmV e = true := bn_f hf
   have l9 := pl.k9 hf
   have l1 := pl.k1 hf
   have l0 := pl.k0 hf
   repeat' (first | apply And.intro | exact trivial | exact rfl | exact lz fun _ => rfl | (refine fun (_ : guardP _ _ _ _) => ?_))
   ·refine fun (hk : decide (e.kind = 9) = true) => ?_
    have ef : pickB true (.s 46) (.c (.bool false)) (decide ((r.n : Int) = (e.list.n : Int))) false = true := pk (decide_eq_true (l9 (of_decide_eq_true hk)))
    repeat' (first | exact ef | apply And.intro | exact trivial | exact rfl | exact lz fun _ => rfl | (refine fun (_ : guardP _ _ _ _) => ?_))
   ·refine fun (h9 : decide (e.kind = 9) = false) => ?_
    have h9 := of_decide_eq_false h9
    have e1 : (e.kind = 1 \/ e.kind = 2 \/ e.kind = 5 \/ e.kind = 6 \/ e.kind = 10) -> pickB true (.s 58) (.c (.bool false)) (decide ((r.n : Int) = 1)) false = true := fun h => pk (decide_eq_true (l1 h))
    have e0 : ¬ (e.kind = 1 \/ e.kind = 2 \/ e.kind = 5 \/ e.kind = 6 \/ e.kind = 10) -> pickB true (.s 64) (.c (.bool false)) (decide ((r.n : Int) = 0)) false = true := fun h => pk (decide_eq_true (l0 h9 h))
    repeat' (first | apply And.intro | exact trivial | exact rfl | exact lz fun _ => rfl | (refine fun (_ : guardP _ _ _ _) => ?_))
    ·refine fun (h : decide (e.kind = 1) = true) => ?_
     have q := of_decide_eq_true h
     have ef := e1 (.inl q)
     repeat' (first | apply And.intro | exact trivial | exact rfl | exact lz fun _ => rfl | (refine fun (_ : guardP _ _ _ _) => ?_))
     ·refine fun _ => ?_
      repeat' (first | exact ef | apply And.intro | exact trivial | exact rfl | exact lz fun _ => rfl | (refine fun (_ : guardP _ _ _ _) => ?_))
     ·exact fun (h' : decide (e.kind = 1) = false) => absurd (h.symm.trans h') (by decide)
    ·refine fun (h1 : decide (e.kind = 1) = false) => ?_
     repeat' (first | apply And.intro | exact trivial | exact rfl | exact lz fun _ => rfl | (refine fun (_ : guardP _ _ _ _) => ?_))
     ·refine fun (h : decide (e.kind = 2) = true) => ?_
      have q := of_decide_eq_true h
      have ef := e1 (.inr (.inl q))
      repeat' (first | apply And.intro | exact trivial | exact rfl | exact lz fun _ => rfl | (refine fun (_ : guardP _ _ _ _) => ?_))
      ·refine fun _ => ?_
       repeat' (first | exact ef | apply And.intro | exact trivial | exact rfl | exact lz fun _ => rfl | (refine fun (_ : guardP _ _ _ _) => ?_))
      ·exact fun (h' : decide (e.kind = 2) = false) => absurd (h.symm.trans h') (by decide)
     ·refine fun (h2 : decide (e.kind = 2) = false) => ?_
      repeat' (first | apply And.intro | exact trivial | exact rfl | exact lz fun _ => rfl | (refine fun (_ : guardP _ _ _ _) => ?_))
      ·refine fun (h : decide (e.kind = 5) = true) => ?_
       have q := of_decide_eq_true h
       have ef := e1 (.inr (.inr (.inl q)))
       repeat' (first | apply And.intro | exact trivial | exact rfl | exact lz fun _ => rfl | (refine fun (_ : guardP _ _ _ _) => ?_))
       ·refine fun _ => ?_
        repeat' (first | exact ef | apply And.intro | exact trivial | exact rfl | exact lz fun _ => rfl | (refine fun (_ : guardP _ _ _ _) => ?_))
       ·exact fun (h' : decide (e.kind = 5) = false) => absurd (h.symm.trans h') (by decide)
      ·refine fun (h5 : decide (e.kind = 5) = false) => ?_
       repeat' (first | apply And.intro | exact trivial | exact rfl | exact lz fun _ => rfl | (refine fun (_ : guardP _ _ _ _) => ?_))
       ·refine fun (h : decide (e.kind = 6) = true) => ?_
        have q := of_decide_eq_true h
        have ef := e1 (.inr (.inr (.inr (.inl q))))
        repeat' (first | apply And.intro | exact trivial | exact rfl | exact lz fun _ => rfl | (refine fun (_ : guardP _ _ _ _) => ?_))
        ·refine fun _ => ?_
         repeat' (first | exact ef | apply And.intro | exact trivial | exact rfl | exact lz fun _ => rfl | (refine fun (_ : guardP _ _ _ _) => ?_))
        ·exact fun (h' : decide (e.kind = 6) = false) => absurd (h.symm.trans h') (by decide)
       ·refine fun (h6 : decide (e.kind = 6) = false) => ?_
        repeat' (first | apply And.intro | exact trivial | exact rfl | exact lz fun _ => rfl | (refine fun (_ : guardP _ _ _ _) => ?_))
        ·refine fun (h : decide (e.kind = 10) = true) => ?_
         have q := of_decide_eq_true h
         have ef := e1 (.inr (.inr (.inr (.inr q))))
         repeat' (first | exact ef | apply And.intro | exact trivial | exact rfl | exact lz fun _ => rfl | (refine fun (_ : guardP _ _ _ _) => ?_))
        ·refine fun (h10 : decide (e.kind = 10) = false) => ?_
         have ef := e0 (by rintro (q | q | q | q | q); exact of_decide_eq_false h1 q; exact of_decide_eq_false h2 q; exact of_decide_eq_false h5 q; exact of_decide_eq_false h6 q; exact of_decide_eq_false h10 q)
         repeat' (first | exact ef | apply And.intro | exact trivial | exact rfl | exact lz fun _ => rfl | (refine fun (_ : guardP _ _ _ _) => ?_))
end F27
