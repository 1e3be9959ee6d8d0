/- A part of the proof: see the last text. -/
import Derived.Test.YtcckdpimimkejaaKA
import Derived.Test.YtcckdpimimkejaaG16
open Go Go.Eng Go.Proofs G1 G2 G3 G4 G5 G6 G7 G8 G9 G10 G11 G12 G13 G14 G15 G16 J9 J10 K6 K7 K8 K9
set_option maxRecDepth 100000
namespace G25
/-- The second ring may be nil. -/
def FewB : Eng.Spec where
  X := Pts × Pts
  args := fun x => .cons (rgE x.1) (.cons (rgE x.2) .nil)
  pre := fun _ => True
  res := fun x => .bool (few x.1 x.2)
  inst := fun
    | .cons a (.cons b .nil) => match ptsD a with
      | some r => match b with
        | .nilsl => some (r, ⟨0, fun _ => (0, 0)⟩)
        | _ => match ptsD b with
          | some q => some (r, q)
          | none => none
      | none => none
    | _ => none
theorem FewB_ok : FewB.Ok Try.prog 12 := ⟨Few_ok.call, Few_ok.does⟩
def fewE (a : Pts) : Bool := few a ⟨0, fun _ => (0, 0)⟩
structure X8 where
  a : Pts
  b : Pts
  c : Pts
  p : Pt
def law8 : Eng.Spec where
  X := X8
  args := fun x => .cons (rgE x.a) (.cons (rgE x.b) (.cons (rgE x.c) (.cons (ptE x.p) .nil)))
  pre := fun x => (x.a.n : Int) ≤ 9223372036854775806 ∧ (x.b.n : Int) ≤ 9223372036854775806 ∧ (x.c.n : Int) ≤ 9223372036854775806
  res := fun _ => .bool true
  inst := fun _ => none
section
variable {a b c : Pts} (ha : valX a = true) (hc : valX c = true)
theorem apa_sym : apaX a b = apaX b a := by
  rw [apaX_eq, Bool.eq_iff_iff, apa_iff, apa_iff]
  exact ⟨fun ⟨h1, h2⟩ => ⟨⟨h1.2, h1.1⟩, h2.sym⟩, fun ⟨h1, h2⟩ => ⟨⟨h1.2, h1.1⟩, h2.sym⟩⟩
theorem apa_whe (p : Pt) : ((apaX a b && decide (wheX a p = 1)) && decide (wheX b p = 1)) = false := by
  rw [← Bool.not_eq_true, Bool.and_eq_true, Bool.and_eq_true, decide_eq_true_eq, decide_eq_true_eq, apaX_eq, wheX_eq]
  rintro ⟨⟨h1, h2⟩, h3⟩
  obtain ⟨⟨va, vb⟩, hd⟩ := apa_iff.1 h1
  exact whe_dsj va vb hd p ⟨h2, h3⟩
include ha hc
theorem apa_wit : (!witX a b || (!apaX a b && (!apaX b c || apaX a c))) = true := by
  rw [valX_eq] at ha hc
  rw [witX_eq, apaX_eq]
  cases h1 : witV a b with
  | false => rfl
  | true =>
    have hs := (wit_iff.1 h1).2
    have h2 : apaV a b = false := by
      rw [← Bool.not_eq_true, apa_iff]
      rintro ⟨_, hd⟩
      obtain ⟨M, p, hM, _, e⟩ := K4.inner (sim_val ha) (base_val ha).1
      have k1 := hd M hM p
      have k2 := hs M hM p
      omega
    rw [h2]
    cases h3 : apaV b c with
    | false => rfl
    | true =>
      have h4 : apaV a c = true := apa_iff.2 ⟨⟨ha, hc⟩, Dsj.sub hs (apa_iff.1 h3).2⟩
      rw [h4]
      rfl
end
/-- gazetteer/gazetteerlaw08.PolygonApart -/
def g8 : List Nat := [3, 35, 7, 59, 9, 10, 1, 0, 2, 8]
def c8 : SCode :=
  .seq (.region g8 [⟨some 7, none, .box 24 (.s 3), []⟩, ⟨some 8, none, .move (.c (.bool false)), []⟩]) (.seq (.region g8 [⟨some 11, none, .call (.c (.fn 11)) [], []⟩, ⟨some 9, none, .move (.s 11), []⟩]) (.seq (.seq (.region g8 [⟨some 12, none, .move (.s 0), []⟩, ⟨some 13, none, .move (.s 1), []⟩, ⟨some 14, none, .call (.c (.fn 12)) [.s 12, .s 13], []⟩, ⟨some 15, none, .not (.s 14), []⟩, ⟨some 16, none, .move (.s 15), []⟩, ⟨some 17, some (16, false), .move (.s 2), []⟩, ⟨some 18, some (16, false), .call (.c (.fn 12)) [.s 17, .c (.nilsl)], []⟩, ⟨some 19, some (16, false), .not (.s 18), []⟩, ⟨some 20, none, .pick (.s 16) (.c (.bool true)) (.s 19), []⟩, ⟨some 21, none, .move (.s 20), []⟩, ⟨some 22, some (21, false), .move (.s 0), []⟩, ⟨some 23, some (21, false), .call (.c (.fn 15)) [.s 22], []⟩, ⟨some 24, some (21, false), .not (.s 23), []⟩, ⟨some 25, none, .pick (.s 21) (.c (.bool true)) (.s 24), []⟩, ⟨some 26, none, .move (.s 25), []⟩, ⟨some 27, some (26, false), .move (.s 1), []⟩, ⟨some 28, some (26, false), .call (.c (.fn 15)) [.s 27], []⟩, ⟨some 29, some (26, false), .not (.s 28), []⟩, ⟨some 30, none, .pick (.s 26) (.c (.bool true)) (.s 29), []⟩, ⟨some 31, none, .move (.s 30), []⟩, ⟨some 32, some (31, false), .move (.s 2), []⟩, ⟨some 33, some (31, false), .call (.c (.fn 15)) [.s 32], []⟩, ⟨some 34, some (31, false), .not (.s 33), []⟩, ⟨some 35, none, .pick (.s 31) (.c (.bool true)) (.s 34), []⟩]) (.cond (.s 35) (.seq (.region g8 [⟨some 36, none, .move (.s 9), []⟩, ⟨some 8, none, .move (.s 36), []⟩]) .ret) .skip)) (.seq (.region g8 [⟨some 37, none, .move (.s 0), []⟩, ⟨some 38, none, .move (.s 1), []⟩, ⟨some 39, none, .call (.c (.fn 23)) [.s 37, .s 38], []⟩, ⟨some 10, none, .move (.s 39), []⟩]) (.seq (.seq (.region g8 [⟨some 40, none, .move (.s 10), []⟩, ⟨some 41, none, .move (.s 1), []⟩, ⟨some 42, none, .move (.s 0), []⟩, ⟨some 43, none, .call (.c (.fn 23)) [.s 41, .s 42], []⟩, ⟨some 44, none, .eqB true (.s 40) (.s 43), []⟩, ⟨some 45, none, .move (.s 44), []⟩, ⟨some 46, some (45, false), .move (.s 10), []⟩, ⟨some 47, some (45, false), .move (.s 46), []⟩, ⟨some 48, some (47, true), .move (.s 0), []⟩, ⟨some 49, some (47, true), .load 2 true (.s 7), []⟩, ⟨some 50, some (47, true), .call (.c (.fn 19)) [.s 48, .s 49], []⟩, ⟨some 51, some (47, true), .bin (.eql) (.s 50) (.c (.int .i64 1)), []⟩, ⟨some 52, some (45, false), .pick (.s 47) (.s 51) (.c (.bool false)), []⟩, ⟨some 53, some (45, false), .move (.s 52), []⟩, ⟨some 54, some (53, true), .move (.s 1), []⟩, ⟨some 55, some (53, true), .load 2 true (.s 7), []⟩, ⟨some 56, some (53, true), .call (.c (.fn 19)) [.s 54, .s 55], []⟩, ⟨some 57, some (53, true), .bin (.eql) (.s 56) (.c (.int .i64 1)), []⟩, ⟨some 58, some (45, false), .pick (.s 53) (.s 57) (.c (.bool false)), []⟩, ⟨some 59, none, .pick (.s 45) (.c (.bool true)) (.s 58), []⟩]) (.cond (.s 59) (.seq (.region g8 [⟨some 8, none, .move (.c (.bool false)), []⟩]) .ret) .skip)) (.seq (.region g8 [⟨some 60, none, .move (.s 9), []⟩, ⟨some 61, none, .move (.s 60), []⟩, ⟨some 62, some (61, true), .move (.s 0), []⟩, ⟨some 63, some (61, true), .move (.s 1), []⟩, ⟨some 64, some (61, true), .call (.c (.fn 21)) [.s 62, .s 63], []⟩, ⟨some 65, some (61, true), .not (.s 64), []⟩, ⟨some 66, some (61, true), .move (.s 65), []⟩, ⟨some 67, some (66, false), .move (.s 10), []⟩, ⟨some 68, some (66, false), .not (.s 67), []⟩, ⟨some 69, some (66, false), .move (.s 68), []⟩, ⟨some 70, some (69, true), .move (.s 1), []⟩, ⟨some 71, some (69, true), .move (.s 2), []⟩, ⟨some 72, some (69, true), .call (.c (.fn 23)) [.s 70, .s 71], []⟩, ⟨some 73, some (69, true), .not (.s 72), []⟩, ⟨some 74, some (69, true), .move (.s 73), []⟩, ⟨some 75, some (74, false), .move (.s 0), []⟩, ⟨some 76, some (74, false), .move (.s 2), []⟩, ⟨some 77, some (74, false), .call (.c (.fn 23)) [.s 75, .s 76], []⟩, ⟨some 78, some (69, true), .pick (.s 74) (.c (.bool true)) (.s 77), []⟩, ⟨some 79, some (66, false), .pick (.s 69) (.s 78) (.c (.bool false)), []⟩, ⟨some 80, some (61, true), .pick (.s 66) (.c (.bool true)) (.s 79), []⟩, ⟨some 81, none, .pick (.s 61) (.s 80) (.c (.bool false)), []⟩, ⟨some 8, none, .move (.s 81), []⟩]) .ret)))))
def r8 : List SRes := [.slot 8]
def k8 : List (Nat × Nat × SCode × Nat) := []
theorem e8 : cFunc Try.prog 8 g8 [] [] k8 = some (c8, r8, 82) := by kernel_rfl
theorem q8 : RgOk Try.prog k8 := RgOk.nil
set_option maxHeartbeats 4000000 in
theorem law8_ok : law8.Ok Try.prog 8 := by
  refine Eng.Spec.ok_of e8 q8 (fun _ => [(11, .p headS), (12, .p FewB), (15, .p ValidX), (19, .p WhereX), (21, .p WithinX), (23, .p ApartX)]) (fun _ _ => TabOk.p head_ok (TabOk.p FewB_ok (TabOk.p ValidX_ok (TabOk.p WhereX_ok (TabOk.p WithinX_ok (TabOk.p ApartX_ok TabOk.nil)))))) ?_
  rintro ⟨a, b, c, p⟩ ⟨ha, hb, hc⟩
  replace ha : (a.n : Int) ≤ 9223372036854775806 := ha
  replace hb : (b.n : Int) ≤ 9223372036854775806 := hb
  replace hc : (c.n : Int) ≤ 9223372036854775806 := hc
  refine ⟨trivial, ?_⟩
  repeat' (first | refine And.intro ?_ ?_ | exact trivial | exact rfl | exact fun (j : Nat) (hj : j < _) => Or.inl (sub_ptN _ _ _ _) | (refine fun (_ : guardP _ _ _ _) => ?_) | exact ha | exact hb | exact hc)
  · refine fun (_ : pickB (pickB (pickB (pickB (!few a b) _ _ _ (!fewE c)) _ _ _ (!valX a)) _ _ _ (!valX b)) _ _ _ (!valX c) = true) => ?_
    repeat' (first | refine And.intro ?_ ?_ | exact trivial | exact rfl | exact fun (j : Nat) (hj : j < _) => Or.inl (sub_ptN _ _ _ _))
  refine fun (h : pickB (pickB (pickB (pickB (!few a b) _ _ _ (!fewE c)) _ _ _ (!valX a)) _ _ _ (!valX b)) _ _ _ (!valX c) = false) => ?_
  rw [pickB_or, pickB_or, pickB_or, pickB_or] at h
  simp only [Bool.or_eq_false_iff] at h
  have va := not_f h.1.1.2
  have vc := not_f h.2
  have hG : pickB (!(apaX a b == apaX b a)) (.c (.bool true)) (.s 58) true (pickB (pickB (apaX a b) (.s 51) (.c (.bool false)) (decide (wheX a p = 1)) false) (.s 57) (.c (.bool false)) (decide (wheX b p = 1)) false) = false := by
    rw [pickB_or, pickB_and, pickB_and, apa_whe p, apa_sym, beq_self_eq_true]
    rfl
  have hF : pickB true (.s 80) (.c (.bool false)) (pickB (!witX a b) (.c (.bool true)) (.s 79) true (pickB (!apaX a b) (.s 78) (.c (.bool false)) (pickB (!apaX b c) (.c (.bool true)) (.s 77) true (apaX a c)) false)) false = true := by
    rw [pickB_and, pickB_or, pickB_and, pickB_or, apa_wit va vc]
    rfl
  repeat' (first | refine And.intro ?_ ?_ | exact trivial | exact rfl | exact fun (j : Nat) (hj : j < _) => Or.inl (sub_ptN _ _ _ _) | (refine fun (_ : guardP _ _ _ _) => ?_) | exact ha | exact hb | exact hc)
  · exact fun (k : pickB _ _ _ _ _ = true) => no_tf hG k
  refine fun (_ : pickB _ _ _ _ _ = false) => ?_
  repeat' (first | refine And.intro ?_ ?_ | exact trivial | exact rfl | exact fun (j : Nat) (hj : j < _) => Or.inl (sub_ptN _ _ _ _) | (refine fun (_ : guardP _ _ _ _) => ?_) | exact ha | exact hb | exact hc)
  exact hF
end G25
