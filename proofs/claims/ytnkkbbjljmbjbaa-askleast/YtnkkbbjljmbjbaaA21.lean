/- A part of the proof: see the last text. -/
import Derived.Test.YtnkkbbjljmbjbaaA20
import Derived.Test.YtnkkbbjljmbjbaaA18
open Go Go.Eng Go.Proofs A0 A1 A2 A3 A4 A5 A6 A7 A8 A9 A10 A11 A12 A13 A14 A15 A17 A18 A20
set_option maxRecDepth 100000
namespace A21
/-- A plan that asks: what it is. -/
structure Asks (F : Fx) (s : Nat) (p : Plan) (q : Nat) : Prop where
  eq : p.q = (q : Int)
  qk : q < F.k 0
  len : p.n = (ansQ F s q).length
  kids : p.m = p.n
  ans : ∀ j, p.ans j = (ansQ F s q).getD j []
  kid : ∀ j, j < p.n → p.kid j = (bestV F (partQ F s q (p.ans j))).plan ∧ 0 ≤ (bestV F (partQ F s q (p.ans j))).d ∧ (bestV F (partQ F s q (p.ans j))).d + 1 ≤ (bestV F s).d
theorem plan_is {F : Fx} {s : Nat} {p : Plan} (h : 0 ≤ (bestV F s).d) (hp : p = (bestV F s).plan) : ((candL s).length = 1 ∧ p.q = -1 ∧ p.c = (((candL s).getD 0 0 : Nat) : Int)) ∨ ∃ q, Asks F s p q := by
  rcases best_form h with ⟨h1, h2⟩ | ⟨q, hq, h2, h3, h4⟩
  · refine .inl ⟨h1, ?_, ?_⟩
    · rw [hp, h2]; rfl
    · rw [hp, h2]; rfl
  · have hd : (bestV F s).d = maxD (ksA F s q) := by rw [h4]
    rw [h4] at hp
    subst hp
    have hl : (ksA F s q).length = (ansQ F s q).length := by unfold ksA; rw [List.length_map]
    refine .inr ⟨q, ⟨rfl, hq, rfl, ?_, fun _ => rfl, fun j hj => ?_⟩⟩
    · show ((ksA F s q).map Known.plan).length = (ansQ F s q).length
      rw [List.length_map, hl]
    · have hj' : j < (ansQ F s q).length := hj
      have hm : (ksA F s q).getD j kn0 = bestV F (partQ F s q ((ansQ F s q).getD j [])) := getD_map (d := []) hj'
      have hin : bestV F (partQ F s q ((ansQ F s q).getD j [])) ∈ ksA F s q := List.mem_map.2 ⟨_, getD_memS hj', rfl⟩
      refine ⟨?_, allD_map.1 h3 _ (getD_memS hj'), ?_⟩
      · show ((ksA F s q).map Known.plan).getD j dP = _
        rw [getD_map (d := kn0) (by rw [hl]; exact hj'), hm]
        rfl
      · rw [hd]
        exact le_maxD hin
structure X3 where
  F : Fx
  raw : Int
structure XW where
  i : Nat
  s : Nat
  p : Plan
structure IW (F : Fx) (c : Nat) (n : Int) (x : XW) : Prop where
  plan : x.p = (bestV F x.s).plan
  ge : 0 ≤ (bestV F x.s).d
  le : (x.i : Int) + (bestV F x.s).d ≤ n
  mem : c ∈ candL x.s
/-- gazetteer/gazetteerlaw38.AskRight -/
def g3 : List Nat := [17, 8, 26, 10, 9, 54, 1, 7, 62, 67, 5, 96, 0, 11, 117, 124, 13, 6, 12, 4]
def c3 : SCode :=
  .seq (.region g3 [⟨some 4, none, .move (.c (.bool false)), []⟩]) (.seq (.region g3 [⟨some 14, none, .call (.c (.fn 7)) [], []⟩, ⟨some 5, none, .move (.s 14), []⟩]) (.seq (.seq (.region g3 [⟨some 15, none, .move (.s 0), []⟩, ⟨some 16, none, .call (.c (.fn 8)) [.s 15], []⟩, ⟨some 17, none, .not (.s 16), []⟩]) (.cond (.s 17) (.seq (.region g3 [⟨some 18, none, .move (.s 5), []⟩, ⟨some 4, none, .move (.s 18), []⟩]) .ret) .skip)) (.seq (.region g3 [⟨some 20, none, .move (.s 0), []⟩, ⟨some 21, none, .call (.c (.fn 9)) [.s 20], []⟩, ⟨some 19, none, .move (.s 21), []⟩, ⟨some 22, none, .extract 0 (.s 19), []⟩, ⟨some 23, none, .extract 1 (.s 19), []⟩, ⟨some 24, none, .extract 2 (.s 19), []⟩, ⟨some 6, none, .alloc 28 (.cons (.int .i64 0) (.cons (.int .i64 0) (.cons (.nilsl) (.cons (.nilsl) .nil)))), []⟩, ⟨none, none, .store 4 (.s 6) (.s 22), []⟩, ⟨some 7, none, .move (.s 23), []⟩, ⟨some 8, none, .move (.s 24), []⟩]) (.seq (.seq (.region g3 [⟨some 25, none, .move (.s 8), []⟩, ⟨some 26, none, .bin (.neq) (.s 25) (.c (.int .i64 0)), []⟩]) (.cond (.s 26) (.seq (.region g3 [⟨some 27, none, .move (.s 5), []⟩, ⟨some 28, none, .move (.s 27), []⟩, ⟨some 29, some (28, true), .move (.s 7), []⟩, ⟨some 30, some (28, true), .bin (.eql) (.s 29) (.c (.int .i64 0)), []⟩, ⟨some 31, none, .pick (.s 28) (.s 30) (.c (.bool false)), []⟩, ⟨some 32, none, .move (.s 31), []⟩, ⟨some 33, some (32, true), .load 4 true (.s 6), []⟩, ⟨some 34, some (32, true), .build (.cons (.int .i64 0) (.cons (.int .i64 0) (.cons (.nilsl) (.cons (.nilsl) .nil)))) [], []⟩, ⟨some 35, some (32, true), .call (.c (.fn 10)) [.s 33, .s 34], []⟩, ⟨some 36, none, .pick (.s 32) (.s 35) (.c (.bool false)), []⟩, ⟨some 4, none, .move (.s 36), []⟩]) .ret) .skip)) (.seq (.region g3 [⟨some 38, none, .move (.s 0), []⟩, ⟨some 39, none, .load 4 true (.s 6), []⟩, ⟨some 40, none, .call (.c (.fn 11)) [.s 38, .s 39], []⟩, ⟨some 37, none, .move (.s 40), []⟩, ⟨some 41, none, .extract 0 (.s 37), []⟩, ⟨some 42, none, .extract 1 (.s 37), []⟩, ⟨some 9, none, .move (.s 41), []⟩, ⟨some 10, none, .move (.s 42), []⟩]) (.seq (.seq (.region g3 [⟨some 43, none, .move (.s 10), []⟩, ⟨some 44, none, .not (.s 43), []⟩, ⟨some 45, none, .move (.s 44), []⟩, ⟨some 46, some (45, false), .move (.s 9), []⟩, ⟨some 47, some (45, false), .move (.s 7), []⟩, ⟨some 48, some (45, false), .bin (.neq) (.s 46) (.s 47), []⟩, ⟨some 49, none, .pick (.s 45) (.c (.bool true)) (.s 48), []⟩, ⟨some 50, none, .move (.s 49), []⟩, ⟨some 51, some (50, false), .move (.s 0), []⟩, ⟨some 52, some (50, false), .lenSl (.s 51), []⟩, ⟨some 53, some (50, false), .bin (.eql) (.s 52) (.c (.int .i64 0)), []⟩, ⟨some 54, none, .pick (.s 50) (.c (.bool true)) (.s 53), []⟩]) (.cond (.s 54) (.seq (.region g3 [⟨some 4, none, .move (.c (.bool false)), []⟩]) .ret) .skip)) (.seq (.region g3 [⟨some 55, none, .move (.s 1), []⟩, ⟨some 56, none, .cnv .i64 (.s 55), []⟩, ⟨some 57, none, .move (.s 0), []⟩, ⟨some 58, none, .lenSl (.s 57), []⟩, ⟨some 59, none, .bin (.rem) (.s 56) (.s 58), []⟩, ⟨some 11, none, .move (.s 59), []⟩]) (.seq (.seq (.region g3 [⟨some 12, none, .move (.c (.int .i64 0)), []⟩]) (.block 0 (.loop 0 [60, 61, 62, 65, 66, 67, 68, 69, 70, 71, 72, 73, 74, 75, 76, 77, 78, 79, 80, 81, 82, 83, 84, 85, 86, 87, 88, 89, 90, 91, 92, 93, 94, 95, 96, 97, 98, 99, 100, 101, 102, 103, 104, 105, 106, 107, 108, 109, 110, 111, 112, 113, 114, 115, 116, 117, 118, 119, 13, 120, 121, 122, 123, 124, 4, 125, 126, 127, 128, 129, 63, 64, 12] (.seq (.seq (.region g3 [⟨some 60, none, .move (.s 12), []⟩, ⟨some 61, none, .move (.s 7), []⟩, ⟨some 62, none, .bin (.leq) (.s 60) (.s 61), []⟩]) (.cond (.s 62) .skip (.exit 0))) (.seq (.block 1 (.seq (.seq (.region g3 [⟨some 65, none, .fldA 0 (.s 6), []⟩, ⟨some 66, none, .load 1 false (.s 65), []⟩, ⟨some 67, none, .bin (.eql) (.s 66) (.c (.int .i64 (-1))), []⟩]) (.cond (.s 67) (.seq (.region g3 [⟨some 68, none, .move (.s 5), []⟩, ⟨some 69, none, .move (.s 68), []⟩, ⟨some 70, some (69, true), .fldA 1 (.s 6), []⟩, ⟨some 71, some (69, true), .load 1 false (.s 70), []⟩, ⟨some 72, some (69, true), .move (.s 11), []⟩, ⟨some 73, some (69, true), .bin (.eql) (.s 71) (.s 72), []⟩, ⟨some 74, none, .pick (.s 69) (.s 73) (.c (.bool false)), []⟩, ⟨some 4, none, .move (.s 74), []⟩]) .ret) .skip)) (.seq (.seq (.drawn g3 (.pure 0 ⟨some 75, none, .fldA 0 (.s 6), []⟩ (.pure 1 ⟨some 76, none, .load 1 false (.s 75), []⟩ (.pure 2 ⟨some 77, none, .bin (.lss) (.s 76) (.c (.int .i64 0)), []⟩ (.pure 3 ⟨some 78, none, .move (.s 77), []⟩ (.pure 4 ⟨some 79, some (78, false), .fldA 0 (.s 6), []⟩ (.pure 5 ⟨some 80, some (78, false), .load 1 false (.s 79), []⟩ (.pure 6 ⟨some 81, some (78, false), .move (.s 0), []⟩ (.pure 7 ⟨some 82, some (78, false), .move (.s 11), []⟩ (.pure 8 ⟨some 83, some (78, false), .idxSl 1 (.s 81) (.s 82), []⟩ (.pure 9 ⟨some 84, some (78, false), .load 1 false (.s 83), []⟩ (.pure 10 ⟨some 85, some (78, false), .lenSl (.s 84), []⟩ (.pure 11 ⟨some 86, some (78, false), .bin (.geq) (.s 80) (.s 85), []⟩ (.pure 12 ⟨some 87, none, .pick (.s 78) (.c (.bool true)) (.s 86), []⟩ (.pure 13 ⟨some 88, none, .move (.s 87), []⟩ (.pure 14 ⟨some 89, some (88, false), .fldA 3 (.s 6), []⟩ (.pure 15 ⟨some 90, some (88, false), .load 1 false (.s 89), []⟩ (.pure 16 ⟨some 91, some (88, false), .lenSl (.s 90), []⟩ (.pure 17 ⟨some 92, some (88, false), .fldA 2 (.s 6), []⟩ (.pure 18 ⟨some 93, some (88, false), .load 1 false (.s 92), []⟩ (.pure 19 ⟨some 94, some (88, false), .lenSl (.s 93), []⟩ (.pure 20 ⟨some 95, some (88, false), .bin (.neq) (.s 91) (.s 94), []⟩ (.pure 21 ⟨some 96, none, .pick (.s 88) (.c (.bool true)) (.s 95), []⟩ .done))))))))))))))))))))))) (.cond (.s 96) (.seq (.region g3 [⟨some 4, none, .move (.c (.bool false)), []⟩]) .ret) .skip)) (.seq (.region g3 [⟨some 13, none, .move (.c (.int .i64 0)), []⟩]) (.seq (.block 2 (.loop 1 [97, 98, 99, 100, 101, 102, 103, 104, 105, 106, 107, 108, 109, 110, 111, 112, 113, 114, 115, 116, 117, 118, 119, 13] (.seq (.seq (.drawn g3 (.pure 0 ⟨some 97, none, .move (.s 13), []⟩ (.pure 1 ⟨some 98, none, .fldA 2 (.s 6), []⟩ (.pure 2 ⟨some 99, none, .load 1 false (.s 98), []⟩ (.pure 3 ⟨some 100, none, .lenSl (.s 99), []⟩ (.pure 4 ⟨some 101, none, .bin (.lss) (.s 97) (.s 100), []⟩ (.pure 5 ⟨some 102, none, .move (.s 101), []⟩ (.pure 6 ⟨some 103, some (102, true), .fldA 2 (.s 6), []⟩ (.pure 7 ⟨some 104, some (102, true), .load 1 false (.s 103), []⟩ (.pure 8 ⟨some 105, some (102, true), .move (.s 13), []⟩ (.pure 9 ⟨some 106, some (102, true), .idxSl 1 (.s 104) (.s 105), []⟩ (.pure 10 ⟨some 107, some (102, true), .load 1 false (.s 106), []⟩ (.pure 11 ⟨some 108, some (102, true), .move (.s 0), []⟩ (.pure 12 ⟨some 109, some (102, true), .move (.s 11), []⟩ (.pure 13 ⟨some 110, some (102, true), .idxSl 1 (.s 108) (.s 109), []⟩ (.pure 14 ⟨some 111, some (102, true), .load 1 false (.s 110), []⟩ (.pure 15 ⟨some 112, some (102, true), .fldA 0 (.s 6), []⟩ (.pure 16 ⟨some 113, some (102, true), .load 1 false (.s 112), []⟩ (.pure 17 ⟨some 114, some (102, true), .idxSl 1 (.s 111) (.s 113), []⟩ (.pure 18 ⟨some 115, some (102, true), .load 1 false (.s 114), []⟩ (.pure 19 ⟨some 116, some (102, true), .bin (.neq) (.s 107) (.s 115), []⟩ (.pure 20 ⟨some 117, none, .pick (.s 102) (.s 116) (.c (.bool false)), []⟩ .done)))))))))))))))))))))) (.cond (.s 117) .skip (.exit 2))) (.block 3 (.region g3 [⟨some 118, none, .move (.s 13), []⟩, ⟨some 119, none, .bin (.add) (.s 118) (.c (.int .i64 1)), []⟩, ⟨some 13, none, .move (.s 119), []⟩]))))) (.seq (.seq (.region g3 [⟨some 120, none, .move (.s 13), []⟩, ⟨some 121, none, .fldA 2 (.s 6), []⟩, ⟨some 122, none, .load 1 false (.s 121), []⟩, ⟨some 123, none, .lenSl (.s 122), []⟩, ⟨some 124, none, .bin (.eql) (.s 120) (.s 123), []⟩]) (.cond (.s 124) (.seq (.region g3 [⟨some 4, none, .move (.c (.bool false)), []⟩]) .ret) .skip)) (.region g3 [⟨some 125, none, .fldA 3 (.s 6), []⟩, ⟨some 126, none, .load 1 false (.s 125), []⟩, ⟨some 127, none, .move (.s 13), []⟩, ⟨some 128, none, .idxSl 4 (.s 126) (.s 127), []⟩, ⟨some 129, none, .load 4 true (.s 128), []⟩, ⟨none, none, .store 4 (.s 6) (.s 129), []⟩]))))))) (.region g3 [⟨some 63, none, .move (.s 12), []⟩, ⟨some 64, none, .bin (.add) (.s 63) (.c (.int .i64 1)), []⟩, ⟨some 12, none, .move (.s 64), []⟩])))))) (.seq (.region g3 [⟨some 4, none, .move (.c (.bool false)), []⟩]) .ret)))))))))
def r3 : List SRes := [.slot 4]
def k3 : List (Nat × Nat × SCode × Nat) := []
theorem e3 : cFunc Try.prog 3 g3 [] [35] k3 = some (c3, r3, 130) := by kernel_rfl
theorem q3 : RgOk Try.prog k3 := RgOk.nil
def law3 : Eng.Spec where
  X := X3
  args := fun x => .cons (fxE x.F) (.cons (.int .u8 x.raw) .nil)
  pre := fun x => ((x.F.n : Int) ≤ 9223372036854775806 ∧ ∀ i, i < x.F.n → (x.F.k i : Int) ≤ 9223372036854775806) ∧ (0 ≤ x.raw ∧ x.raw ≤ 255)
  res := fun _ => .bool true
  inst := fun _ => none
theorem make_zero {F : Fx} (h : (makeV F).2 ≠ 0) : (makeV F).1 = knZ := by
  unfold makeV at h ⊢
  split
  · split
    · rfl
    · rename_i h1 h2
      rw [if_pos h1, if_neg h2] at h
      exact absurd rfl h
  · rfl
theorem same_zero : sameP knZ.plan dP = true := by kernel_rfl
theorem chk3 {d n l : Int} {i j : Nat} (h : l ≠ 0) (e : d = n) : pickB (pickB (!true) (.c (.bool true)) (.s i) true (!decide (d = n))) (.c (.bool true)) (.s j) true (decide (l = 0)) = false := by
  rw [pickB_or, pickB_or, decide_eq_true e, decide_eq_false h]
  rfl
theorem chk3' {d n l : Int} {w : Bool} {i j : Nat} (hw : w = true) (e : d = n) (h : l ≠ 0) : pickB (pickB (!w) (.c (.bool true)) (.s i) true (!decide (d = n))) (.c (.bool true)) (.s j) true (decide (l = 0)) = false := by
  rw [hw]
  exact chk3 h e
theorem one_mem {s c : Nat} (h : (candL s).length = 1) (hc : c ∈ candL s) : (candL s).getD 0 0 = c := by
  match hs : candL s, h with
  | [x], _ =>
    rw [hs] at hc
    exact (List.mem_singleton.1 hc).symm
set_option maxHeartbeats 8000000 in
theorem law3_ok : law3.Ok Try.prog 3 := by
  refine Eng.Spec.ok_of e3 q3 (fun _ => [(7, .p headS), (8, .m Few), (9, .m makeH), (11, .m checkH), (10, .m sameH)]) (fun _ _ => TabOk.p head_ok (TabOk.m Few_ok (TabOk.m makeH_ok (TabOk.m checkH_ok (TabOk.m sameH_ok TabOk.nil))))) ?_
  rintro ⟨F, raw⟩ ⟨⟨hn, hk⟩, ⟨hr0, hr1⟩⟩
  replace hn : (F.n : Int) ≤ 9223372036854775806 := hn
  replace hk : ∀ i, i < F.n → (F.k i : Int) ≤ 9223372036854775806 := hk
  replace hr0 : 0 ≤ raw := hr0
  replace hr1 : raw ≤ 255 := hr1
  refine ⟨trivial, ?_⟩
  repeat' (first | refine And.intro ?_ ?_ | exact trivial | exact rfl)
  refine Exists.intro F (Exists.intro [] ?_)
  refine And.intro (And.intro hn hk) ?_
  repeat' (first | refine And.intro ?_ ?_ | exact trivial | exact rfl | exact sub_lc (fun a => sub_strN _ _ _ a) | exact sub_lc0 (fun a => sub_strN _ _ _ a) | exact fun (j : Nat) (hj : j < _) => Or.inl (sub_strN _ _ _ _) | exact sub_lc (fun a => sub_natN _ _ _ a) | exact fun (j : Nat) (hj : j < _) => Or.inl (sub_fx _ _ _ _ rfl hj))
  refine fun (b : Bool) (_ : True) => ?_
  repeat' (first | refine And.intro ?_ ?_ | exact trivial | exact rfl)
  · refine fun (_ : (!b) = true) => ?_
    repeat' (first | refine And.intro ?_ ?_ | exact trivial | exact rfl)
  refine fun (_ : (!b) = false) => ?_
  repeat' (first | refine And.intro ?_ ?_ | exact trivial | exact rfl)
  refine Exists.intro F (Exists.intro [] ?_)
  refine And.intro hn ?_
  repeat' (first | refine And.intro ?_ ?_ | exact trivial | exact rfl | exact sub_lc (fun a => sub_strN _ _ _ a) | exact sub_lc0 (fun a => sub_strN _ _ _ a) | exact fun (j : Nat) (hj : j < _) => Or.inl (sub_strN _ _ _ _) | exact sub_lc (fun a => sub_natN _ _ _ a) | exact fun (j : Nat) (hj : j < _) => Or.inl (sub_fx _ _ _ _ rfl hj))
  refine fun (y : Known × Int) (hy : y = makeV F) => ?_
  have hpl : PlanOk 100 y.1.plan := by rw [hy]; exact plan_le (by omega) (make_plan F)
  have hpl2 : PlanOk 1000 y.1.plan := plan_le (by omega) hpl
  repeat' (first | refine And.intro ?_ ?_ | exact trivial | exact rfl)
  · refine fun (h : (!decide (y.2 = 0)) = true) => ?_
    have hc : y.2 ≠ 0 := by simpa using h
    have hz : y.1 = knZ := by rw [hy]; exact make_zero (by rw [← hy]; exact hc)
    have hd : decide (y.1.d = 0) = true := by rw [hz]; rfl
    repeat' (first | refine And.intro ?_ ?_ | exact trivial | exact rfl)
    · refine fun (_ : pickB _ _ _ _ _ = true) => ?_
      repeat' (first | refine And.intro ?_ ?_ | exact trivial | exact rfl)
      refine Exists.intro (XP2.mk y.1.plan dP) (Exists.intro [] ?_)
      refine And.intro hpl ?_
      repeat' (first | refine And.intro ?_ ?_ | exact trivial | exact rfl | exact sub_lc (fun a => sub_strN _ _ _ a) | exact sub_lc0 (fun a => sub_strN _ _ _ a) | exact fun (j : Nat) (hj : j < _) => Or.inl (sub_strN _ _ _ _) | exact sub_lc (fun a => sub_natN _ _ _ a) | exact fun (j : Nat) (hj : j < _) => Or.inl (sub_fx _ _ _ _ rfl hj) | exact sub_pTT rfl | exact sub_pCT rfl | exact sub_pTC rfl | exact sub_pCC rfl | exact sub_pRC rfl | exact sub_pRT rfl)
      refine fun (w : Bool) (e : w = sameP y.1.plan dP) => ?_
      have hw : w = true := by rw [e, hz]; exact same_zero
      repeat' (first | refine And.intro ?_ ?_ | exact trivial | exact rfl)
      exact pand (pand rfl hd) hw
    · exact fun (h : pickB _ _ _ _ _ = !true) => absurd ((pand rfl hd).symm.trans h) (by decide)
  · refine fun (h : (!decide (y.2 = 0)) = false) => ?_
    have h2 : y.2 = 0 := by simpa using h
    have h2' : (makeV F).2 = 0 := by rw [← hy]; exact h2
    have hF := (make_d h2').1
    have hmd := make_d h2'
    have hn8 := hF.n8
    have hn0 := hF.n0
    have hpb : y.1 = bestV F (allC F.n) := by
      rw [hy]
      unfold makeV
      rw [if_pos (proper_of hF), if_neg (by have := hmd.2.1; have := hmd.2.2; omega)]
    have hd0 : 0 ≤ (bestV F (allC F.n)).d := by rw [← hpb, hy]; exact hmd.2.1
    have hchk : checkV F y.1.plan = (y.1.d, true) := by
      unfold checkV
      rw [if_pos (proper_of hF), hpb]
      exact best_right (Nat.le_refl _) hd0
    have hd8 : y.1.d ≤ 8 := by rw [hpb]; exact (bestV_d F _).2
    have hrem : 0 ≤ raw.tmod (F.n : Int) ∧ raw.tmod (F.n : Int) < (F.n : Int) := by
      rw [Int.tmod_eq_emod_of_nonneg hr0]
      exact ⟨Int.emod_nonneg _ (by omega), Int.emod_lt_of_pos _ (by omega)⟩
    have hnz : (F.n : Int) ≠ 0 := by omega
    have hrI : InR .i64 raw := ⟨by show -9223372036854775808 ≤ raw; omega, by show raw ≤ 9223372036854775807; omega⟩
    have hcm : (raw.tmod (F.n : Int)).toNat ∈ candL (allC F.n) := by rw [cand_all hn8]; exact List.mem_range.2 (by have := hrem.2; omega)
    repeat' (first | refine And.intro ?_ ?_ | exact trivial | exact rfl)
    refine Exists.intro (XE.mk F y.1.plan) (Exists.intro [] ?_)
    refine And.intro (And.intro hn hpl2) ?_
    repeat' (first | refine And.intro ?_ ?_ | exact trivial | exact rfl | exact sub_lc (fun a => sub_strN _ _ _ a) | exact sub_lc0 (fun a => sub_strN _ _ _ a) | exact fun (j : Nat) (hj : j < _) => Or.inl (sub_strN _ _ _ _) | exact sub_lc (fun a => sub_natN _ _ _ a) | exact fun (j : Nat) (hj : j < _) => Or.inl (sub_fx _ _ _ _ rfl hj) | exact sub_pTT rfl | exact sub_pCT rfl | exact sub_pTC rfl | exact sub_pCC rfl | exact sub_pRC rfl | exact sub_pRT rfl)
    refine fun (z : Int × Bool) (hz : z = checkV F y.1.plan) => ?_
    have hz1 : z.1 = y.1.d := by rw [hz, hchk]
    have hz2 : z.2 = true := by rw [hz, hchk]
    repeat' (first | refine And.intro ?_ ?_ | exact trivial | exact rfl)
    · exact fun (h : pickB _ _ _ _ _ = true) => no_tf (chk3' hz2 hz1 hnz) h
    refine fun (_ : pickB _ _ _ _ _ = false) => ?_
    repeat' (first | exact hrI.1 | exact hrI.2 | exact hnz | refine And.intro ?_ ?_ | exact trivial | exact rfl)
    refine ⟨⟨XW, IW F (raw.tmod (F.n : Int)).toNat y.1.d, fun x => [(12, .int .i64 (x.i : Int))], fun x => [(0, .cells 28 (planU x.p))], fun x => (y.1.d + 1 - x.i).toNat⟩, ⟨0, allC F.n, y.1.plan⟩, ⟨by dsimp only; rw [hpb], hd0, by dsimp only; rw [hpb]; omega, hcm⟩, ?_, ?_⟩
    · repeat' (first | refine And.intro ?_ ?_ | exact trivial | exact rfl | exact sub_lc (fun a => sub_strN _ _ _ a) | exact sub_lc0 (fun a => sub_strN _ _ _ a) | exact fun (j : Nat) (hj : j < _) => Or.inl (sub_strN _ _ _ _) | exact sub_lc (fun a => sub_natN _ _ _ a) | exact fun (j : Nat) (hj : j < _) => Or.inl (sub_fx _ _ _ _ rfl hj) | exact sub_pTT rfl | exact sub_pCT rfl | exact sub_pTC rfl | exact sub_pCC rfl | exact sub_pRC rfl | exact sub_pRT rfl)
    rintro ⟨i, s, p⟩ ⟨hp, hge, hle, hmem⟩
    replace hp : p = (bestV F s).plan := hp
    replace hge : 0 ≤ (bestV F s).d := hge
    replace hle : (i : Int) + (bestV F s).d ≤ y.1.d := hle
    replace hmem : (raw.tmod (F.n : Int)).toNat ∈ candL s := hmem
    repeat' (first | refine And.intro ?_ ?_ | exact trivial | exact rfl)
    · refine fun (hi : decide ((i : Int) ≤ y.1.d) = true) => ?_
      by_cases hq : p.q = -1
      · have hqd : decide (p.q = -1) = true := decide_eq_true hq
        have hcc : p.c = raw.tmod (F.n : Int) := by
          rcases plan_is hge hp with ⟨h1, _, h3⟩ | ⟨q, h⟩
          · rw [h3, one_mem h1 hmem]
            have := hrem.1
            omega
          · have := h.eq
            omega
        repeat' (first | (refine fun (_ : decide (p.q = -1) = true) => ?_) | exact fun (h : decide (p.q = -1) = false) => no_tf h hqd | refine And.intro ?_ ?_ | exact trivial | exact rfl)
        exact pand rfl (decide_eq_true hcc)
      · have hqd : decide (p.q = -1) = false := decide_eq_false hq
        have hA : ∃ q, Asks F s p q := by
          rcases plan_is hge hp with ⟨_, h2, _⟩ | h
          · exact absurd h2 hq
          · exact h
        refine hA.elim fun q hA => ?_
        have hqe := hA.eq
        have hqk := hA.qk
        have hpn := hA.len
        have hpm := hA.kids
        have hA8 : (ansQ F s q).length ≤ 8 := ansQ_len
        have hcn : (raw.tmod (F.n : Int)).toNat < F.n := by have := hrem.2; omega
        have hcx : (0 : Int) ≤ raw.tmod (F.n : Int) ∧ raw.tmod (F.n : Int) < (F.n : Int) := hrem
        have hkc : F.k (raw.tmod (F.n : Int)).toNat = F.k 0 := hF.k _ hcn
        have hc3 : ∀ i j, pickB (pickB (decide (p.q < 0)) (.c (.bool true)) (.s i) true (decide (((F.k (raw.tmod (F.n : Int)).toNat : Nat) : Int) ≤ p.q))) (.c (.bool true)) (.s j) true (!decide ((p.m : Int) = (p.n : Int))) = false := fun i j => by
          rw [pickB_or, pickB_or, hkc, decide_eq_false (by omega), decide_eq_false (by omega), decide_eq_true (by omega)]
          rfl
        repeat' (first | exact fun (h : decide (p.q = -1) = true) => no_tf hqd h | (refine fun (_ : decide (p.q = -1) = false) => ?_) | exact fun (_ : guardP _ _ _ _) => hcx | refine And.intro ?_ ?_ | exact trivial | exact rfl)
        · exact fun (h : pickB _ _ _ _ _ = true) => no_tf (hc3 _ _) h
        refine fun (_ : pickB _ _ _ _ _ = false) => ?_
        repeat' (first | refine And.intro ?_ ?_ | exact trivial | exact rfl)
        refine ⟨⟨Nat, fun j => j ≤ p.n ∧ ∀ l, l < j → p.ans l ≠ F.a (raw.tmod (F.n : Int)).toNat q, fun j => [(13, .int .i64 (j : Int))], fun _ => [], fun j => p.n - j⟩, 0, ⟨Nat.zero_le _, fun l hl => absurd hl (Nat.not_lt_zero l)⟩, ?_, ?_⟩
        · repeat' (first | refine And.intro ?_ ?_ | exact trivial | exact rfl | exact sub_lc (fun a => sub_strN _ _ _ a) | exact sub_lc0 (fun a => sub_strN _ _ _ a) | exact fun (j : Nat) (hj : j < _) => Or.inl (sub_strN _ _ _ _) | exact sub_lc (fun a => sub_natN _ _ _ a) | exact fun (j : Nat) (hj : j < _) => Or.inl (sub_fx _ _ _ _ rfl hj) | exact sub_pTT rfl | exact sub_pCT rfl | exact sub_pTC rfl | exact sub_pCC rfl | exact sub_pRC rfl | exact sub_pRT rfl)
        rintro (j : Nat) ⟨hj, hno⟩
        replace hj : j ≤ p.n := hj
        replace hno : ∀ l, l < j → p.ans l ≠ F.a (raw.tmod (F.n : Int)).toNat q := hno
        have hqx : (0 : Int) ≤ p.q ∧ p.q < ((F.k (raw.tmod (F.n : Int)).toNat : Nat) : Int) := by omega
        have hjx : decide ((j : Int) < (p.n : Int)) = true → (0 : Int) ≤ (j : Int) ∧ (j : Int) < (p.n : Int) := fun h => ⟨by omega, of_decide_eq_true h⟩
        repeat' (first | exact hjx | exact fun (_ : guardP _ _ _ _) => hcx | exact fun (_ : guardP _ _ _ _) => hqx | refine And.intro ?_ ?_ | exact trivial | exact rfl)
        all_goals have hqn : p.q.toNat = q := by omega
        · refine fun (h : pickB _ _ _ _ _ = true) => ?_
          replace h : (decide ((j : Int) < (p.n : Int)) && !decide (p.ans j = F.a (raw.tmod (F.n : Int)).toNat p.q.toNat)) = true := (pickB_and _ _ _ _).symm.trans h
          rw [hqn, Bool.and_eq_true] at h
          have hjn : j < p.n := by have := of_decide_eq_true h.1; omega
          have hne : p.ans j ≠ F.a (raw.tmod (F.n : Int)).toNat q := by simpa using h.2
          have hjr : -9223372036854775808 ≤ (j : Int) + 1 ∧ (j : Int) + 1 ≤ 9223372036854775807 := by omega
          repeat' (first | refine And.intro ?_ ?_ | exact trivial | exact rfl | with_reducible exact hjr.1 | with_reducible exact hjr.2)
          refine Exists.intro (j + 1) ?_
          refine And.intro ⟨hjn, fun l hl => ?_⟩ ?_
          · rcases Nat.lt_or_eq_of_le (Nat.le_of_lt_succ hl) with hl | hl
            · exact hno l hl
            · rw [hl]; exact hne
          repeat' (first | refine And.intro ?_ ?_ | exact trivial | exact rfl | exact sub_lc (fun a => sub_strN _ _ _ a) | exact sub_lc0 (fun a => sub_strN _ _ _ a) | exact fun (j : Nat) (hj : j < _) => Or.inl (sub_strN _ _ _ _) | exact sub_lc (fun a => sub_natN _ _ _ a) | exact fun (j : Nat) (hj : j < _) => Or.inl (sub_fx _ _ _ _ rfl hj) | exact sub_pTT rfl | exact sub_pCT rfl | exact sub_pTC rfl | exact sub_pCC rfl | exact sub_pRC rfl | exact sub_pRT rfl)
          show p.n - (j + 1) < p.n - j
          omega
        · refine fun (h : pickB _ _ _ _ _ = false) => ?_
          replace h : (decide ((j : Int) < (p.n : Int)) && !decide (p.ans j = F.a (raw.tmod (F.n : Int)).toNat p.q.toNat)) = false := (pickB_and _ _ _ _).symm.trans h
          rw [hqn] at h
          have hjn : j < p.n := by
            refine Classical.byContradiction fun hge => ?_
            have hm : F.a (raw.tmod (F.n : Int)).toNat q ∈ ansQ F s q := mem_ansQ.2 ⟨_, hmem, rfl⟩
            obtain ⟨l, hl, he⟩ := List.getElem_of_mem hm
            refine hno l (by omega) ?_
            rw [hA.ans, List.getD_eq_getElem?_getD, List.getElem?_eq_getElem hl, he]
            rfl
          have heq : p.ans j = F.a (raw.tmod (F.n : Int)).toNat q := by
            refine Classical.byContradiction fun hne => ?_
            rw [decide_eq_true (by omega : (j : Int) < (p.n : Int)), decide_eq_false hne] at h
            exact absurd h (by decide)
          have hjd : decide ((j : Int) = (p.n : Int)) = false := decide_eq_false (by omega)
          have hkd := hA.kid j hjn
          have hi' : (i : Int) ≤ y.1.d := of_decide_eq_true hi
          have hir : -9223372036854775808 ≤ (i : Int) + 1 ∧ (i : Int) + 1 ≤ 9223372036854775807 := by omega
          have hjm : (0 : Int) ≤ (j : Int) ∧ (j : Int) < (p.m : Int) := by omega
          repeat' (first | with_reducible exact hir.1 | with_reducible exact hir.2 | with_reducible exact hjm.1 | with_reducible exact hjm.2 | exact fun (h : decide ((j : Int) = (p.n : Int)) = true) => no_tf hjd h | (refine fun (_ : decide ((j : Int) = (p.n : Int)) = false) => ?_) | exact fun (_ : guardP _ _ _ _) => hcx | refine And.intro ?_ ?_ | exact trivial | exact rfl)
          refine Exists.intro (XW.mk (i + 1) (partQ F s q (p.ans j)) (p.kid j)) ?_
          refine And.intro ⟨hkd.1, hkd.2.1, ?_, ?_⟩ ?_
          · have := hkd.2.2
            show ((i + 1 : Nat) : Int) + (bestV F (partQ F s q (p.ans j))).d ≤ y.1.d
            omega
          · exact mem_part.2 ⟨hmem, heq.symm⟩
          repeat' (first | refine And.intro ?_ ?_ | exact trivial | exact rfl | exact sub_lc (fun a => sub_strN _ _ _ a) | exact sub_lc0 (fun a => sub_strN _ _ _ a) | exact fun (j : Nat) (hj : j < _) => Or.inl (sub_strN _ _ _ _) | exact sub_lc (fun a => sub_natN _ _ _ a) | exact fun (j : Nat) (hj : j < _) => Or.inl (sub_fx _ _ _ _ rfl hj) | exact sub_pTT rfl | exact sub_pCT rfl | exact sub_pTC rfl | exact sub_pCC rfl | exact sub_pRC rfl | exact sub_pRT rfl)
          show (y.1.d + 1 - ((i + 1 : Nat) : Int)).toNat < (y.1.d + 1 - (i : Int)).toNat
          omega
    · refine fun (hi : decide ((i : Int) ≤ y.1.d) = false) => ?_
      exact absurd (of_decide_eq_false hi) (by omega)
end A21
