/- A part of the proof: see the last text. -/
import Derived.Test.YtcckdpimimkejaaG12
open Go Go.Eng Go.Proofs G1 G2 G3 G4 G5 G6 G7 G8 G9 G10 G11 G12
set_option maxRecDepth 100000
namespace G13
structure Sel where
  l : Pts
  r : Pts
  w : Bool
/-- Outside (w), or inside. -/
def selB (r : Pts) (w : Bool) (m : Pt) : Bool := bif w then outV r m else insV r m
def selA (l r : Pts) : Bool → SV
  | true => .cons (rgE l) (.cons (.fn 1048618 (.cons (rgE r) .nil)) .nil)
  | false => .cons (rgE l) (.cons (.fn 1048619 (.cons (rgE r) .nil)) .nil)
def selI (x : Sel) (i : Nat) : Bool := selB x.r x.w (x.l.p i)
def selD : SV → Option Sel
  | .cons a (.cons (.fn f (.cons b .nil)) .nil) => match ptsD a, ptsD b with
    | some l, some r => some ⟨l, r, Nat.beq f 1048618⟩
    | _, _ => none
  | _ => none
def selPre (x : Sel) : Prop := (x.l.n ≤ 5000 ∧ ∀ i, i < x.l.n → OnH (x.l.p i)) ∧ (x.r.n ≤ 50 ∧ OnR x.r)
def idxSel : Eng.Spec where
  X := Sel
  args := fun x => selA x.l x.r x.w
  pre := selPre
  res := fun x => .int .i64 (firstI (selI x) x.l.n)
  inst := selD
/-- slices.IndexFunc[[]gazetteer/api.Point,gazetteer/api.Point] -/
def g65 : List Nat := [7, 9, 1, 0, 16, 5, 8, 4]
def c65 : SCode :=
  .seq (.region g65 [⟨some 4, none, .move (.c (.int .i64 0)), []⟩]) (.seq (.seq (.region g65 [⟨some 6, none, .move (.s 0), []⟩, ⟨some 7, none, .lenSl (.s 6), []⟩, ⟨some 8, none, .move (.c (.int .i64 0)), []⟩]) (.block 0 (.loop 0 [9, 10, 5, 11, 12, 13, 14, 15, 16, 17, 4, 18, 8] (.seq (.region g65 [⟨some 9, none, .bin (.lss) (.s 8) (.s 7), []⟩]) (.seq (.cond (.s 9) .skip (.exit 0)) (.seq (.block 1 (.seq (.region g65 [⟨some 10, none, .move (.s 8), []⟩, ⟨some 5, none, .move (.s 10), []⟩]) (.seq (.region g65 [⟨some 11, none, .move (.s 1), []⟩, ⟨some 12, none, .move (.s 0), []⟩, ⟨some 13, none, .move (.s 5), []⟩, ⟨some 14, none, .idxSl 2 (.s 12) (.s 13), []⟩, ⟨some 15, none, .load 2 true (.s 14), []⟩, ⟨some 16, none, .call (.s 11) [.s 15], []⟩]) (.cond (.s 16) (.seq (.region g65 [⟨some 17, none, .move (.s 5), []⟩, ⟨some 4, none, .move (.s 17), []⟩]) .ret) .skip)))) (.region g65 [⟨some 18, none, .bin (.add) (.s 8) (.c (.int .i64 1)), []⟩, ⟨some 8, none, .move (.s 18), []⟩]))))))) (.seq (.region g65 [⟨some 4, none, .move (.c (.int .i64 (-1))), []⟩]) .ret))
def r65 : List SRes := [.slot 4]
def k65 : List (Nat × Nat × SCode × Nat) := []
theorem e65 : cFunc Try.prog 65 g65 [] [] k65 = some (c65, r65, 19) := by kernel_rfl
theorem q65 : RgOk Try.prog k65 := RgOk.nil
theorem idxSel_ok : idxSel.Ok Try.prog 65 := by
  refine Eng.Spec.ok_of e65 q65 (fun _ => [(42, .p outside), (43, .p inside)]) (fun _ _ => TabOk.p outside_ok (TabOk.p inside_ok TabOk.nil)) ?_
  rintro ⟨l, r, w⟩ ⟨⟨hn, hl⟩, hr⟩
  replace hn : l.n ≤ 5000 := hn
  replace hl : ∀ i, i < l.n → OnH (l.p i) := hl
  replace hr : r.n ≤ 50 ∧ OnR r := hr
  cases w with
  | true =>
    refine ⟨trivial, ?_⟩
    repeat' (first | refine And.intro ?_ ?_ | exact trivial | exact rfl | exact fun (j : Nat) (hj : j < _) => Or.inl (sub_ptN _ _ _ _))
    refine ⟨⟨Nat, fun i => i ≤ l.n ∧ orB (selI ⟨l, r, true⟩) i = false, fun i => [(8, .int .i64 (i : Int))], fun _ => [], fun i => l.n - i⟩, 0, ⟨Nat.zero_le _, rfl⟩, ?_, ?_⟩
    · repeat' (first | refine And.intro ?_ ?_ | exact trivial | exact rfl | exact fun (j : Nat) (hj : j < _) => Or.inl (sub_ptN _ _ _ _))
    rintro (i : Nat) ⟨(hi : i ≤ l.n), (hf : orB (selI ⟨l, r, true⟩) i = false)⟩
    repeat' (first | refine And.intro ?_ ?_ | exact trivial | exact rfl | exact fun (j : Nat) (hj : j < _) => Or.inl (sub_ptN _ _ _ _))
    · refine fun (h : decide ((i : Int) < (l.n : Int)) = true) => ?_
      have hi1 : (i : Int) < (l.n : Int) := of_decide_eq_true h
      have hil : i < l.n := by omega
      have hi0 : (0 : Int) ≤ (i : Int) := by omega
      have b1 : -9223372036854775808 ≤ (i : Int) + 1 := by omega
      have b2 : (i : Int) + 1 ≤ 9223372036854775807 := by omega
      have hp := hl i hil
      obtain ⟨⟨p1, p2⟩, ⟨p3, p4⟩⟩ := hp
      obtain ⟨r1, r2⟩ := id hr
      repeat' (first | with_reducible exact hi1 | with_reducible exact hi0 | refine And.intro ?_ ?_ | exact trivial | exact rfl | exact fun (j : Nat) (hj : j < _) => Or.inl (sub_ptN _ _ _ _) | exact r1 | exact r2 | exact p1 | exact p2 | exact p3 | exact p4)
      · refine fun (hc : outV r (l.p i) = true) => ?_
        have e : (i : Int) = firstI (selI ⟨l, r, true⟩) l.n := (first_some hf hc hil).symm
        repeat' (first | exact e | refine And.intro ?_ ?_ | exact trivial | exact rfl | exact fun (j : Nat) (hj : j < _) => Or.inl (sub_ptN _ _ _ _))
      · refine fun (hc : outV r (l.p i) = false) => ?_
        have hf1 : orB (selI ⟨l, r, true⟩) (i + 1) = false := by
          simp only [orB]
          rw [hf]
          exact hc
        repeat' (first | with_reducible exact b1 | with_reducible exact b2 | refine And.intro ?_ ?_ | exact trivial | exact rfl | exact fun (j : Nat) (hj : j < _) => Or.inl (sub_ptN _ _ _ _))
        refine Exists.intro (i + 1) ?_
        refine And.intro (And.intro hil hf1) ?_
        repeat' (first | refine And.intro ?_ ?_ | exact trivial | exact rfl | exact fun (j : Nat) (hj : j < _) => Or.inl (sub_ptN _ _ _ _))
        show l.n - (i + 1) < l.n - i
        omega
    · refine fun (h : decide ((i : Int) < (l.n : Int)) = false) => ?_
      have hi1 : ¬ (i : Int) < (l.n : Int) := of_decide_eq_false h
      have e : i = l.n := by omega
      have ef : -1 = firstI (selI ⟨l, r, true⟩) l.n := by rw [← e, first_none hf]
      repeat' (first | exact ef | refine And.intro ?_ ?_ | exact trivial | exact rfl | exact fun (j : Nat) (hj : j < _) => Or.inl (sub_ptN _ _ _ _))
  | false =>
    refine ⟨trivial, ?_⟩
    repeat' (first | refine And.intro ?_ ?_ | exact trivial | exact rfl | exact fun (j : Nat) (hj : j < _) => Or.inl (sub_ptN _ _ _ _))
    refine ⟨⟨Nat, fun i => i ≤ l.n ∧ orB (selI ⟨l, r, false⟩) i = false, fun i => [(8, .int .i64 (i : Int))], fun _ => [], fun i => l.n - i⟩, 0, ⟨Nat.zero_le _, rfl⟩, ?_, ?_⟩
    · repeat' (first | refine And.intro ?_ ?_ | exact trivial | exact rfl | exact fun (j : Nat) (hj : j < _) => Or.inl (sub_ptN _ _ _ _))
    rintro (i : Nat) ⟨(hi : i ≤ l.n), (hf : orB (selI ⟨l, r, false⟩) i = false)⟩
    repeat' (first | refine And.intro ?_ ?_ | exact trivial | exact rfl | exact fun (j : Nat) (hj : j < _) => Or.inl (sub_ptN _ _ _ _))
    · refine fun (h : decide ((i : Int) < (l.n : Int)) = true) => ?_
      have hi1 : (i : Int) < (l.n : Int) := of_decide_eq_true h
      have hil : i < l.n := by omega
      have hi0 : (0 : Int) ≤ (i : Int) := by omega
      have b1 : -9223372036854775808 ≤ (i : Int) + 1 := by omega
      have b2 : (i : Int) + 1 ≤ 9223372036854775807 := by omega
      have hp := hl i hil
      obtain ⟨⟨p1, p2⟩, ⟨p3, p4⟩⟩ := hp
      obtain ⟨r1, r2⟩ := id hr
      repeat' (first | with_reducible exact hi1 | with_reducible exact hi0 | refine And.intro ?_ ?_ | exact trivial | exact rfl | exact fun (j : Nat) (hj : j < _) => Or.inl (sub_ptN _ _ _ _) | exact r1 | exact r2 | exact p1 | exact p2 | exact p3 | exact p4)
      · refine fun (hc : insV r (l.p i) = true) => ?_
        have e : (i : Int) = firstI (selI ⟨l, r, false⟩) l.n := (first_some hf hc hil).symm
        repeat' (first | exact e | refine And.intro ?_ ?_ | exact trivial | exact rfl | exact fun (j : Nat) (hj : j < _) => Or.inl (sub_ptN _ _ _ _))
      · refine fun (hc : insV r (l.p i) = false) => ?_
        have hf1 : orB (selI ⟨l, r, false⟩) (i + 1) = false := by
          simp only [orB]
          rw [hf]
          exact hc
        repeat' (first | with_reducible exact b1 | with_reducible exact b2 | refine And.intro ?_ ?_ | exact trivial | exact rfl | exact fun (j : Nat) (hj : j < _) => Or.inl (sub_ptN _ _ _ _))
        refine Exists.intro (i + 1) ?_
        refine And.intro (And.intro hil hf1) ?_
        repeat' (first | refine And.intro ?_ ?_ | exact trivial | exact rfl | exact fun (j : Nat) (hj : j < _) => Or.inl (sub_ptN _ _ _ _))
        show l.n - (i + 1) < l.n - i
        omega
    · refine fun (h : decide ((i : Int) < (l.n : Int)) = false) => ?_
      have hi1 : ¬ (i : Int) < (l.n : Int) := of_decide_eq_false h
      have e : i = l.n := by omega
      have ef : -1 = firstI (selI ⟨l, r, false⟩) l.n := by rw [← e, first_none hf]
      repeat' (first | exact ef | refine And.intro ?_ ?_ | exact trivial | exact rfl | exact fun (j : Nat) (hj : j < _) => Or.inl (sub_ptN _ _ _ _))
def hasSel : Eng.Spec where
  X := Sel
  args := fun x => selA x.l x.r x.w
  pre := selPre
  res := fun x => .bool (orB (selI x) x.l.n)
  inst := selD
/-- slices.ContainsFunc[[]gazetteer/api.Point,gazetteer/api.Point] -/
def g48 : List Nat := [0, 1, 4]
def c48 : SCode :=
  .seq (.region g48 [⟨some 4, none, .move (.c (.bool false)), []⟩]) (.seq (.region g48 [⟨some 5, none, .move (.s 0), []⟩, ⟨some 6, none, .move (.s 1), []⟩, ⟨some 7, none, .call (.c (.fn 65)) [.s 5, .s 6], []⟩, ⟨some 8, none, .bin (.geq) (.s 7) (.c (.int .i64 0)), []⟩, ⟨some 4, none, .move (.s 8), []⟩]) .ret)
def r48 : List SRes := [.slot 4]
def k48 : List (Nat × Nat × SCode × Nat) := []
theorem e48 : cFunc Try.prog 48 g48 [] [] k48 = some (c48, r48, 9) := by kernel_rfl
theorem q48 : RgOk Try.prog k48 := RgOk.nil
theorem hasSel_ok : hasSel.Ok Try.prog 48 := by
  refine Eng.Spec.ok_of e48 q48 (fun _ => [(65, .p idxSel)]) (fun _ _ => TabOk.p idxSel_ok TabOk.nil) ?_
  rintro ⟨l, r, w⟩ hpre
  have e := first_or (f := selI ⟨l, r, w⟩) (n := l.n)
  cases w with
  | true =>
    refine ⟨trivial, ?_⟩
    repeat' (first | exact hpre | exact e | refine And.intro ?_ ?_ | exact trivial | exact rfl | exact fun (j : Nat) (hj : j < _) => Or.inl (sub_ptN _ _ _ _))
  | false =>
    refine ⟨trivial, ?_⟩
    repeat' (first | exact hpre | exact e | refine And.intro ?_ ?_ | exact trivial | exact rfl | exact fun (j : Nat) (hj : j < _) => Or.inl (sub_ptN _ _ _ _))
/-! ### Within, Apart -/
theorem mid_on {r s : Pts} (hr : OnR r) {m : Pt} (h : m ∈ midL r s) : OnH m := by
  unfold midL midK at h
  obtain ⟨i, hi, h⟩ := List.mem_flatMap.1 h
  have hil := List.mem_range.1 hi
  unfold midI at h
  obtain ⟨a, b, h1, h2, _, _, rfl⟩ := mem_midS.1 h
  have k1 := onB_iff.1 (stops_on (hr i hil) (nxt_on hr hil) _ h1).1
  have k2 := onB_iff.1 (stops_on (hr i hil) (nxt_on hr hil) _ h2).1
  unfold OnH addP
  dsimp only
  omega
theorem sel_any {r s q : Pts} {y : Pts} {w : Bool} (h : ∀ m, m ∈ lsR y.p y.n ↔ m ∈ midL r s) : orB (selI ⟨y, q, w⟩) y.n = (midL r s).any (selB q w) := by
  rw [Bool.eq_iff_iff, orB_true, List.any_eq_true]
  constructor
  · rintro ⟨i, hi, e⟩
    exact ⟨y.p i, (h _).1 (mem_lsR.2 ⟨i, hi, rfl⟩), e⟩
  · rintro ⟨m, hm, e⟩
    obtain ⟨i, hi, rfl⟩ := mem_lsR.1 ((h m).2 hm)
    exact ⟨i, hi, e⟩
theorem sel_pre {r s q : Pts} {y : Pts} {w : Bool} (hn : y.n ≤ 5000) (h : ∀ m, m ∈ lsR y.p y.n ↔ m ∈ midL r s) (hr : OnR r) (hq : q.n ≤ 50 ∧ OnR q) : selPre ⟨y, q, w⟩ :=
  ⟨⟨hn, fun i hi => mid_on hr ((h _).1 (mem_lsR.2 ⟨i, hi, rfl⟩))⟩, hq⟩
def witV (a b : Pts) : Bool := ((valV a && valV b) && !crossB a b) && !(midL a b).any (outV b)
def Within : Eng.Spec where
  X := Pts × Pts
  args := fun x => .cons (rgE x.1) (.cons (rgE x.2) .nil)
  pre := fun x => (x.1.n : Int) ≤ 9223372036854775806 ∧ (x.2.n : Int) ≤ 9223372036854775806
  res := fun x => .bool (witV x.1 x.2)
  inst := twoR
/-- gazetteer/polygon.Within -/
def g21 : List Nat := [0, 1, 5, 6, 4]
def c21 : SCode :=
  .seq (.region g21 [⟨some 4, none, .move (.c (.bool false)), []⟩]) (.seq (.region g21 [⟨some 7, none, .move (.s 0), []⟩, ⟨some 8, none, .move (.s 1), []⟩, ⟨some 5, none, .move (.s 7), []⟩, ⟨some 6, none, .move (.s 8), []⟩]) (.seq (.region g21 [⟨some 9, none, .move (.s 0), []⟩, ⟨some 10, none, .call (.c (.fn 15)) [.s 9], []⟩, ⟨some 11, none, .move (.s 10), []⟩, ⟨some 12, some (11, true), .move (.s 1), []⟩, ⟨some 13, some (11, true), .call (.c (.fn 15)) [.s 12], []⟩, ⟨some 14, none, .pick (.s 11) (.s 13) (.c (.bool false)), []⟩, ⟨some 15, none, .move (.s 14), []⟩, ⟨some 16, some (15, true), .move (.s 5), []⟩, ⟨some 17, some (15, true), .move (.s 6), []⟩, ⟨some 18, some (15, true), .call (.c (.fn 47)) [.s 16, .s 17], []⟩, ⟨some 19, some (15, true), .not (.s 18), []⟩, ⟨some 20, none, .pick (.s 15) (.s 19) (.c (.bool false)), []⟩, ⟨some 21, none, .move (.s 20), []⟩, ⟨some 22, some (21, true), .move (.s 5), []⟩, ⟨some 23, some (21, true), .move (.s 6), []⟩, ⟨some 24, some (21, true), .call (.c (.fn 49)) [.s 22, .s 23], []⟩, ⟨some 25, some (21, true), .move (.s 6), []⟩, ⟨some 26, some (21, true), .mkfn 1048618 [.s 25], []⟩, ⟨some 27, some (21, true), .call (.c (.fn 48)) [.s 24, .s 26], []⟩, ⟨some 28, some (21, true), .not (.s 27), []⟩, ⟨some 29, none, .pick (.s 21) (.s 28) (.c (.bool false)), []⟩, ⟨some 4, none, .move (.s 29), []⟩]) .ret))
def r21 : List SRes := [.slot 4]
def k21 : List (Nat × Nat × SCode × Nat) := []
theorem e21 : cFunc Try.prog 21 g21 [] [] k21 = some (c21, r21, 30) := by kernel_rfl
theorem q21 : RgOk Try.prog k21 := RgOk.nil
theorem Within_ok : Within.Ok Try.prog 21 := by
  refine Eng.Spec.ok_of e21 q21 (fun _ => [(15, .p Valid), (47, .p crosses), (49, .m middles), (48, .p hasSel)]) (fun _ _ => TabOk.p Valid_ok (TabOk.p crosses_ok (TabOk.m middles_ok (TabOk.p hasSel_ok TabOk.nil)))) ?_
  rintro ⟨a, b⟩ ⟨ha, hb⟩
  replace ha : (a.n : Int) ≤ 9223372036854775806 := ha
  replace hb : (b.n : Int) ≤ 9223372036854775806 := hb
  refine ⟨trivial, ?_⟩
  repeat' (first | exact ha | exact hb | refine And.intro ?_ ?_ | exact trivial | exact rfl | exact fun (j : Nat) (hj : j < _) => Or.inl (sub_ptN _ _ _ _))
  · refine fun (_ : guardP _ _ _ _) => ?_
    repeat' (first | exact hb | refine And.intro ?_ ?_ | exact trivial | exact rfl | exact fun (j : Nat) (hj : j < _) => Or.inl (sub_ptN _ _ _ _))
  · refine fun (h : pickB (valV a) _ _ (valV b) _ = true) => ?_
    rw [pickB_and] at h
    simp only [Bool.and_eq_true] at h
    have v1 := (val_ok h.1).1
    have v2 := (val_ok h.2).1
    repeat' (first | exact v1 | exact v2 | refine And.intro ?_ ?_ | exact trivial | exact rfl | exact fun (j : Nat) (hj : j < _) => Or.inl (sub_ptN _ _ _ _))
  · refine fun (h : pickB (pickB (valV a) _ _ (valV b) _) _ _ (!crossB a b) _ = true) => ?_
    rw [pickB_and, pickB_and] at h
    have h' := h
    simp only [Bool.and_eq_true] at h
    have v1 := (val_ok h.1.1).1
    have v2 := (val_ok h.1.2).1
    repeat' (first | refine And.intro ?_ ?_ | exact trivial | exact rfl | exact fun (j : Nat) (hj : j < _) => Or.inl (sub_ptN _ _ _ _))
    refine Exists.intro (a, b) (Exists.intro [] ?_)
    refine And.intro (And.intro v1 v2) ?_
    repeat' (first | refine And.intro ?_ ?_ | exact trivial | exact rfl | exact fun (j : Nat) (hj : j < _) => Or.inl (sub_ptN _ _ _ _))
    refine fun (y : Pts) (hy : y.n ≤ 5000 ∧ ∀ m, m ∈ lsR y.p y.n ↔ m ∈ midL a b) => ?_
    have hsp := sel_pre (w := true) hy.1 hy.2 v1.2 v2
    have e : ∀ i j, pickB (pickB (pickB (valV a) (.s 13) (.c (.bool false)) (valV b) false) (.s 19) (.c (.bool false)) (!crossB a b) false) (.s i) (.c (.bool false)) (!orB (selI ⟨y, b, true⟩) y.n) j = witV a b := fun i j => by
      rw [pickB_and, pickB_and, pickB_and, sel_any hy.2]
      rfl
    repeat' (first | refine And.intro ?_ ?_ | exact trivial | exact rfl | exact fun (j : Nat) (hj : j < _) => Or.inl (sub_ptN _ _ _ _))
    · refine fun (_ : guardP _ _ _ _) => ?_
      repeat' (first | exact hsp | refine And.intro ?_ ?_ | exact trivial | exact rfl | exact fun (j : Nat) (hj : j < _) => Or.inl (sub_ptN _ _ _ _))
    · exact e _ _
  refine fun (h : pickB (pickB (valV a) _ _ (valV b) _) _ _ (!crossB a b) _ = !true) => ?_
  have h0 : pickB (pickB (valV a) (.s 13) (.c (.bool false)) (valV b) false) (.s 19) (.c (.bool false)) (!crossB a b) false = false := h
  have e : pickB (pickB (valV a) (.s 13) (.c (.bool false)) (valV b) false) (.s 19) (.c (.bool false)) (!crossB a b) false = witV a b := by
    rw [pickB_and, pickB_and] at h0 ⊢
    unfold witV
    rw [h0]
    rfl
  have e2 : false = witV a b := h0.symm.trans e
  repeat' (first | exact h0 | exact e2 | exact fun (h : guardP _ _ _ _) => no_tf h0 h | refine And.intro ?_ ?_ | exact trivial | exact rfl | exact fun (j : Nat) (hj : j < _) => Or.inl (sub_ptN _ _ _ _))
/-! ### Apart -/
def apaV (a b : Pts) : Bool := ((valV a && valV b) && !crossB a b) && (((midL a b).any (outV b) && !(midL a b).any (insV b)) && !(midL b a).any (insV a))
def Apart : Eng.Spec where
  X := Pts × Pts
  args := fun x => .cons (rgE x.1) (.cons (rgE x.2) .nil)
  pre := fun x => (x.1.n : Int) ≤ 9223372036854775806 ∧ (x.2.n : Int) ≤ 9223372036854775806
  res := fun x => .bool (apaV x.1 x.2)
  inst := twoR
/-- gazetteer/polygon.Apart -/
def g23 : List Nat := [0, 1, 22, 7, 6, 5, 4]
def c23 : SCode :=
  .seq (.region g23 [⟨some 4, none, .move (.c (.bool false)), []⟩]) (.seq (.region g23 [⟨some 8, none, .move (.s 0), []⟩, ⟨some 9, none, .move (.s 1), []⟩, ⟨some 5, none, .move (.s 8), []⟩, ⟨some 6, none, .move (.s 9), []⟩]) (.seq (.seq (.region g23 [⟨some 10, none, .move (.s 0), []⟩, ⟨some 11, none, .call (.c (.fn 15)) [.s 10], []⟩, ⟨some 12, none, .not (.s 11), []⟩, ⟨some 13, none, .move (.s 12), []⟩, ⟨some 14, some (13, false), .move (.s 1), []⟩, ⟨some 15, some (13, false), .call (.c (.fn 15)) [.s 14], []⟩, ⟨some 16, some (13, false), .not (.s 15), []⟩, ⟨some 17, none, .pick (.s 13) (.c (.bool true)) (.s 16), []⟩, ⟨some 18, none, .move (.s 17), []⟩, ⟨some 19, some (18, false), .move (.s 5), []⟩, ⟨some 20, some (18, false), .move (.s 6), []⟩, ⟨some 21, some (18, false), .call (.c (.fn 47)) [.s 19, .s 20], []⟩, ⟨some 22, none, .pick (.s 18) (.c (.bool true)) (.s 21), []⟩]) (.cond (.s 22) (.seq (.region g23 [⟨some 4, none, .move (.c (.bool false)), []⟩]) .ret) .skip)) (.seq (.region g23 [⟨some 23, none, .move (.s 5), []⟩, ⟨some 24, none, .move (.s 6), []⟩, ⟨some 25, none, .call (.c (.fn 49)) [.s 23, .s 24], []⟩, ⟨some 7, none, .move (.s 25), []⟩]) (.seq (.region g23 [⟨some 26, none, .move (.s 7), []⟩, ⟨some 27, none, .move (.s 6), []⟩, ⟨some 28, none, .mkfn 1048618 [.s 27], []⟩, ⟨some 29, none, .call (.c (.fn 48)) [.s 26, .s 28], []⟩, ⟨some 30, none, .move (.s 29), []⟩, ⟨some 31, some (30, true), .move (.s 7), []⟩, ⟨some 32, some (30, true), .move (.s 6), []⟩, ⟨some 33, some (30, true), .mkfn 1048619 [.s 32], []⟩, ⟨some 34, some (30, true), .call (.c (.fn 48)) [.s 31, .s 33], []⟩, ⟨some 35, some (30, true), .not (.s 34), []⟩, ⟨some 36, none, .pick (.s 30) (.s 35) (.c (.bool false)), []⟩, ⟨some 37, none, .move (.s 36), []⟩, ⟨some 38, some (37, true), .move (.s 6), []⟩, ⟨some 39, some (37, true), .move (.s 5), []⟩, ⟨some 40, some (37, true), .call (.c (.fn 49)) [.s 38, .s 39], []⟩, ⟨some 41, some (37, true), .move (.s 5), []⟩, ⟨some 42, some (37, true), .mkfn 1048619 [.s 41], []⟩, ⟨some 43, some (37, true), .call (.c (.fn 48)) [.s 40, .s 42], []⟩, ⟨some 44, some (37, true), .not (.s 43), []⟩, ⟨some 45, none, .pick (.s 37) (.s 44) (.c (.bool false)), []⟩, ⟨some 4, none, .move (.s 45), []⟩]) .ret))))
def r23 : List SRes := [.slot 4]
def k23 : List (Nat × Nat × SCode × Nat) := []
theorem e23 : cFunc Try.prog 23 g23 [] [] k23 = some (c23, r23, 46) := by kernel_rfl
theorem q23 : RgOk Try.prog k23 := RgOk.nil
set_option maxHeartbeats 1000000 in
theorem Apart_ok : Apart.Ok Try.prog 23 := by
  refine Eng.Spec.ok_of e23 q23 (fun _ => [(15, .p Valid), (47, .p crosses), (49, .m middles), (48, .p hasSel)]) (fun _ _ => TabOk.p Valid_ok (TabOk.p crosses_ok (TabOk.m middles_ok (TabOk.p hasSel_ok TabOk.nil)))) ?_
  rintro ⟨a, b⟩ ⟨ha, hb⟩
  replace ha : (a.n : Int) ≤ 9223372036854775806 := ha
  replace hb : (b.n : Int) ≤ 9223372036854775806 := hb
  refine ⟨trivial, ?_⟩
  repeat' (first | exact ha | exact hb | refine And.intro ?_ ?_ | exact trivial | exact rfl | exact fun (j : Nat) (hj : j < _) => Or.inl (sub_ptN _ _ _ _))
  · refine fun (_ : guardP _ _ _ _) => ?_
    repeat' (first | exact hb | refine And.intro ?_ ?_ | exact trivial | exact rfl | exact fun (j : Nat) (hj : j < _) => Or.inl (sub_ptN _ _ _ _))
  · refine fun (h : pickB (!valV a) _ _ _ (!valV b) = false) => ?_
    rw [pickB_or] at h
    simp only [Bool.or_eq_false_iff] at h
    have v1 := (val_ok (not_f h.1)).1
    have v2 := (val_ok (not_f h.2)).1
    repeat' (first | exact v1 | exact v2 | refine And.intro ?_ ?_ | exact trivial | exact rfl | exact fun (j : Nat) (hj : j < _) => Or.inl (sub_ptN _ _ _ _))
  · refine fun (h : pickB (pickB (!valV a) _ _ _ (!valV b)) _ _ _ (crossB a b) = true) => ?_
    rw [pickB_or, pickB_or] at h
    have e : false = apaV a b := by
      unfold apaV
      cases ea : valV a <;> cases eb : valV b <;> cases ec : crossB a b <;> simp [ea, eb, ec] at h ⊢
    repeat' (first | exact e | refine And.intro ?_ ?_ | exact trivial | exact rfl | exact fun (j : Nat) (hj : j < _) => Or.inl (sub_ptN _ _ _ _))
  · refine fun (h : pickB (pickB (!valV a) _ _ _ (!valV b)) _ _ _ (crossB a b) = false) => ?_
    rw [pickB_or, pickB_or] at h
    simp only [Bool.or_eq_false_iff] at h
    have v1 := (val_ok (not_f h.1.1)).1
    have v2 := (val_ok (not_f h.1.2)).1
    have e0 : apaV a b = (((midL a b).any (outV b) && !(midL a b).any (insV b)) && !(midL b a).any (insV a)) := by
      unfold apaV
      rw [not_f h.1.1, not_f h.1.2, h.2]
      rfl
    repeat' (first | refine And.intro ?_ ?_ | exact trivial | exact rfl | exact fun (j : Nat) (hj : j < _) => Or.inl (sub_ptN _ _ _ _))
    refine Exists.intro (a, b) (Exists.intro [] ?_)
    refine And.intro (And.intro v1 v2) ?_
    repeat' (first | refine And.intro ?_ ?_ | exact trivial | exact rfl | exact fun (j : Nat) (hj : j < _) => Or.inl (sub_ptN _ _ _ _))
    refine fun (y : Pts) (hy : y.n ≤ 5000 ∧ ∀ m, m ∈ lsR y.p y.n ↔ m ∈ midL a b) => ?_
    have s1 := sel_pre (w := true) hy.1 hy.2 v1.2 v2
    have s2 := sel_pre (w := false) hy.1 hy.2 v1.2 v2
    have a1 : orB (selI ⟨y, b, true⟩) y.n = (midL a b).any (outV b) := sel_any hy.2
    have a2 : orB (selI ⟨y, b, false⟩) y.n = (midL a b).any (insV b) := sel_any hy.2
    repeat' (first | exact s1 | refine And.intro ?_ ?_ | exact trivial | exact rfl | exact fun (j : Nat) (hj : j < _) => Or.inl (sub_ptN _ _ _ _))
    · refine fun (_ : guardP _ _ _ _) => ?_
      repeat' (first | exact s2 | refine And.intro ?_ ?_ | exact trivial | exact rfl | exact fun (j : Nat) (hj : j < _) => Or.inl (sub_ptN _ _ _ _))
    · refine fun (h : pickB (orB (selI ⟨y, b, true⟩) y.n) _ _ (!orB (selI ⟨y, b, false⟩) y.n) _ = true) => ?_
      rw [pickB_and, a1, a2] at h
      repeat' (first | refine And.intro ?_ ?_ | exact trivial | exact rfl | exact fun (j : Nat) (hj : j < _) => Or.inl (sub_ptN _ _ _ _))
      refine Exists.intro (b, a) (Exists.intro [] ?_)
      refine And.intro (And.intro v2 v1) ?_
      repeat' (first | refine And.intro ?_ ?_ | exact trivial | exact rfl | exact fun (j : Nat) (hj : j < _) => Or.inl (sub_ptN _ _ _ _))
      refine fun (z : Pts) (hz : z.n ≤ 5000 ∧ ∀ m, m ∈ lsR z.p z.n ↔ m ∈ midL b a) => ?_
      have s3 := sel_pre (w := false) hz.1 hz.2 v2.2 v1
      have a3 : orB (selI ⟨z, a, false⟩) z.n = (midL b a).any (insV a) := sel_any hz.2
      have e : ∀ i j k l, pickB (pickB (orB (selI ⟨y, b, true⟩) y.n) (.s i) (.c (.bool false)) (!orB (selI ⟨y, b, false⟩) y.n) j) (.s k) (.c (.bool false)) (!orB (selI ⟨z, a, false⟩) z.n) l = apaV a b := fun i j k l => by
        rw [pickB_and, pickB_and, a1, a2, a3, e0]
      repeat' (first | refine And.intro ?_ ?_ | exact trivial | exact rfl | exact fun (j : Nat) (hj : j < _) => Or.inl (sub_ptN _ _ _ _))
      · refine fun (_ : guardP _ _ _ _) => ?_
        repeat' (first | exact s3 | refine And.intro ?_ ?_ | exact trivial | exact rfl | exact fun (j : Nat) (hj : j < _) => Or.inl (sub_ptN _ _ _ _))
      · exact e _ _ _ _
    · refine fun (h : pickB (orB (selI ⟨y, b, true⟩) y.n) _ _ (!orB (selI ⟨y, b, false⟩) y.n) _ = !true) => ?_
      have h0 : pickB (orB (selI ⟨y, b, true⟩) y.n) (.s 35) (.c (.bool false)) (!orB (selI ⟨y, b, false⟩) y.n) false = false := h
      have e2 : false = apaV a b := by
        rw [pickB_and, a1, a2] at h0
        rw [e0, h0]
        rfl
      repeat' (first | exact h0 | exact e2 | exact fun (h : guardP _ _ _ _) => no_tf h0 h | refine And.intro ?_ ?_ | exact trivial | exact rfl | exact fun (j : Nat) (hj : j < _) => Or.inl (sub_ptN _ _ _ _))
end G13
