/- A part of the proof: see the last text. -/
import Derived.Test.YtcckdpimimkejaaG8
import Derived.Test.YtcckdpimimkejaaEngSort
import Derived.Ground.SlsfProg
import Derived.Ground.NamesProg
namespace Go.Proofs
open Go.Shelf
def Try.sortF_ren : Go.Shelf.Ren := ⟨fun | 6 => 66 | 15 => 75 | 14 => 74 | 28 => 85 | 29 => 86 | 20 => 77 | 21 => 78 | 22 => 79 | 23 => 80 | 24 => 81 | 25 => 82 | 26 => 83 | 27 => 84 | 46 => 87 | 47 => 88 | 48 => 89 | 49 => 90 | 50 => 91 | 57 => 92 | n => n, fun | 22 => 22 | 24 => 24 | 25 => 77 | 3 => 3 | 39 => 84 | 0 => 0 | 53 => 93 | 55 => 95 | 4 => 4 | 46 => 87 | 45 => 86 | 50 => 73 | 5 => 5 | 9 => 9 | 66 => 96 | 70 => 100 | 76 => 102 | 77 => 103 | n => n, fun n => n⟩
theorem Try.sortF : Go.Proofs.SlLaysF0.n6 Try.prog Try.sortF_ren := {
  mixed := by kernel_rfl
  f6 := ⟨Try.f66.name, by decide, Try.func66.trans (congrArg some (by kernel_rfl))⟩
  f14 := ⟨Try.f74.name, by decide, Try.func74.trans (congrArg some (by kernel_rfl))⟩
  f15 := Try.func75.trans (congrArg some (by kernel_rfl))
  f20 := ⟨Try.f77.name, by decide, Try.func77.trans (congrArg some (by kernel_rfl))⟩
  f21 := ⟨Try.f78.name, by decide, Try.func78.trans (congrArg some (by kernel_rfl))⟩
  f22 := ⟨Try.f79.name, by decide, Try.func79.trans (congrArg some (by kernel_rfl))⟩
  f23 := ⟨Try.f80.name, by decide, Try.func80.trans (congrArg some (by kernel_rfl))⟩
  f24 := ⟨Try.f81.name, by decide, Try.func81.trans (congrArg some (by kernel_rfl))⟩
  f25 := ⟨Try.f82.name, by decide, Try.func82.trans (congrArg some (by kernel_rfl))⟩
  f26 := ⟨Try.f83.name, by decide, Try.func83.trans (congrArg some (by kernel_rfl))⟩
  f27 := ⟨Try.f84.name, by decide, Try.func84.trans (congrArg some (by kernel_rfl))⟩
  f28 := Try.func85.trans (congrArg some (by kernel_rfl))
  f29 := Try.func86.trans (congrArg some (by kernel_rfl))
  f46 := ⟨Try.f87.name, by decide, Try.func87.trans (congrArg some (by kernel_rfl))⟩
  f47 := Try.func88.trans (congrArg some (by kernel_rfl))
  f48 := Try.func89.trans (congrArg some (by kernel_rfl))
  f49 := ⟨Try.f90.name, by decide, Try.func90.trans (congrArg some (by kernel_rfl))⟩
  f50 := ⟨Try.f91.name, by decide, Try.func91.trans (congrArg some (by kernel_rfl))⟩
  f57 := ⟨Try.f92.name, by decide, Try.func92.trans (congrArg some (by kernel_rfl))⟩
  t0 := Try.underlying0
  a0 := Try.isAgg0
  z0 := Try.sizeOf0
  v0 := Try.zeroValue0
  t3 := Try.underlying3
  a3 := Try.isAgg3
  z3 := Try.sizeOf3
  v3 := Try.zeroValue3
  t4 := Try.underlying4
  a4 := Try.isAgg4
  z4 := Try.sizeOf4
  v4 := Try.zeroValue4
  t5 := Try.underlying5
  a5 := Try.isAgg5
  z5 := Try.sizeOf5
  v5 := Try.zeroValue5
  t9 := Try.underlying9
  a9 := Try.isAgg9
  z9 := Try.sizeOf9
  v9 := Try.zeroValue9
  t22 := Try.underlying22
  a22 := Try.isAgg22
  z22 := Try.sizeOf22
  v22 := Try.zeroValue22
  t25 := Try.underlying77
  a25 := Try.isAgg77
  z25 := Try.sizeOf77
  v25 := Try.zeroValue77
  t39 := Try.underlying84
  a39 := Try.isAgg84
  z39 := Try.sizeOf84
  v39 := Try.zeroValue84
  t45 := Try.underlying86
  a45 := Try.isAgg86
  z45 := Try.sizeOf86
  v45 := Try.zeroValue86
  t46 := Try.underlying87
  a46 := Try.isAgg87
  z46 := Try.sizeOf87
  v46 := Try.zeroValue87
  t50 := Try.underlying73
  a50 := Try.isAgg73
  z50 := Try.sizeOf73
  v50 := Try.zeroValue73
  t53 := Try.underlying93
  a53 := Try.isAgg93
  z53 := Try.sizeOf93
  v53 := Try.zeroValue93
  t55 := Try.underlying95
  a55 := Try.isAgg95
  z55 := Try.sizeOf95
  v55 := Try.zeroValue95
  t66 := Try.underlying96
  a66 := Try.isAgg96
  z66 := Try.sizeOf96
  v66 := Try.zeroValue96
  t70 := Try.underlying100
  a70 := Try.isAgg100
  z70 := Try.sizeOf100
  v70 := Try.zeroValue100
  t76 := Try.underlying102
  a76 := Try.isAgg102
  z76 := Try.sizeOf102
  v76 := Try.zeroValue102
  t77 := Try.underlying103
  a77 := Try.isAgg103
  z77 := Try.sizeOf103
  v77 := Try.zeroValue103 }
end Go.Proofs
open Go Go.Eng Go.Proofs G1 G2 G3 G4 G5 G6 G7 G8
set_option maxRecDepth 100000
namespace G9
/-! ### Sorting by distance -/
def nearF (a p q : Pt) : Int := distV a p - distV a q
def cmpP : Eng.Spec where
  X := Pt × Pt × Pt
  args := fun x => .cons (ptE x.2.1) (.cons (ptE x.2.2) (.cons (.cptr (ptL x.1)) .nil))
  pre := fun x => onB x.1 = true ∧ onB x.2.1 = true ∧ onB x.2.2 = true
  res := fun x => .int .i64 (nearF x.1 x.2.1 x.2.2)
  inst := fun
    | .cons a (.cons b (.cons (.cptr c) .nil)) => match ptD a, ptD b, ptD (.agg c) with
      | some p, some q, some r => some (r, p, q)
      | _, _, _ => none
    | _ => none
/-- (gazetteer/polygon.ring).middles$1 -/
def g67 : List Nat := [0, 1, 3, 2, 4, 5]
def c67 : SCode :=
  .seq (.region g67 [⟨some 3, none, .box 24 (.s 0), []⟩, ⟨some 4, none, .box 24 (.s 1), []⟩, ⟨some 5, none, .move (.c (.int .i64 0)), []⟩]) (.seq (.drawn g67 (.pure 0 ⟨some 6, none, .load 2 true (.s 2), []⟩ (.pure 1 ⟨some 7, none, .load 2 true (.s 3), []⟩ (.pure 2 ⟨some 8, none, .call (.c (.fn 68)) [.s 6, .s 7], []⟩ (.pure 3 ⟨some 9, none, .load 2 true (.s 2), []⟩ (.pure 4 ⟨some 10, none, .load 2 true (.s 4), []⟩ (.pure 5 ⟨some 11, none, .call (.c (.fn 68)) [.s 9, .s 10], []⟩ (.pure 6 ⟨some 12, none, .bin (.sub) (.s 8) (.s 11), []⟩ (.pure 7 ⟨some 5, none, .move (.s 12), []⟩ .done))))))))) .ret)
def r67 : List SRes := [.slot 5]
def k67 : List (Nat × Nat × SCode × Nat) := []
theorem e67 : cFunc Try.prog 67 g67 [] [] k67 = some (c67, r67, 13) := by kernel_rfl
theorem q67 : RgOk Try.prog k67 := RgOk.nil
theorem sqd_bd {p q : Pt} (hp : onB p = true) (hq : onB q = true) : 0 ≤ sqd p q ∧ sqd p q ≤ 2147352578 := by
  have b := bd_vec hp hq
  have h := dot_bd b b
  have k1 : 0 ≤ (vec p q).1 * (vec p q).1 := by
    rcases Int.le_total 0 (vec p q).1 with h | h
    · exact Int.mul_nonneg h h
    · have := Int.mul_nonneg (show 0 ≤ -(vec p q).1 by omega) (show 0 ≤ -(vec p q).1 by omega)
      rwa [Int.neg_mul_neg] at this
  have k2 : 0 ≤ (vec p q).2 * (vec p q).2 := by
    rcases Int.le_total 0 (vec p q).2 with h | h
    · exact Int.mul_nonneg h h
    · have := Int.mul_nonneg (show 0 ≤ -(vec p q).2 by omega) (show 0 ≤ -(vec p q).2 by omega)
      rwa [Int.neg_mul_neg] at this
  unfold sqd
  unfold dot at h ⊢
  omega
theorem dist_bd {p q : Pt} (hp : onB p = true) (hq : onB q = true) : 0 ≤ distV p q ∧ distV p q ≤ 2147352578 := by
  unfold distV
  rw [if_pos ⟨hp, hq⟩]
  exact sqd_bd hp hq
theorem cmpP_ok : cmpP.Ok Try.prog 67 := by
  refine Eng.Spec.ok_of e67 q67 (fun _ => [(68, .p Dist)]) (fun _ _ => TabOk.p Dist_ok TabOk.nil) ?_
  rintro ⟨a, p, q⟩ ⟨ha, hp, hq⟩
  have k1 := dist_bd ha hp
  have k2 := dist_bd ha hq
  dsimp only at k1 k2
  have r1 : -9223372036854775808 ≤ distV a p - distV a q := by omega
  have r2 : distV a p - distV a q ≤ 9223372036854775807 := by omega
  refine ⟨trivial, ?_⟩
  repeat' (first | exact r1 | exact r2 | refine And.intro ?_ ?_ | exact trivial | exact rfl)
def domP (a p : Pt) : Prop := onB a = true ∧ onB p = true
theorem cmp_lt (a p q : Pt) : ltOf (nearF a) p q = decide (distV a p < distV a q) := by
  unfold ltOf nearF
  exact decide_eq_decide.2 (by omega)
theorem cmp_swo (a : Pt) : Go.Sort.SWO (ltOf fun x y : { p // domP a p } => nearF a x.1 y.1) where
  irrefl x := (cmp_lt a x.1 x.1).trans (decide_eq_false (by omega))
  trans x y z h1 h2 := by
    have h1' := of_decide_eq_true ((cmp_lt a x.1 y.1).symm.trans h1)
    have h2' := of_decide_eq_true ((cmp_lt a y.1 z.1).symm.trans h2)
    exact (cmp_lt a x.1 z.1).trans (decide_eq_true (by omega))
  ntrans x y z h1 h2 := by
    have h1' := of_decide_eq_false ((cmp_lt a x.1 y.1).symm.trans h1)
    have h2' := of_decide_eq_false ((cmp_lt a y.1 z.1).symm.trans h2)
    exact (cmp_lt a x.1 z.1).trans (decide_eq_false (by omega))
def ptV (p : Pt) : List Value := [.int .i64 p.1, .int .i64 p.2]
theorem R_ptL (E : Env) (p : Pt) (vs : List Value) : R E (ptL p) vs ↔ vs = ptV p := by
  unfold ptL ptV
  simp only [R]
  constructor
  · rintro ⟨x, xs, rfl, h1, y, ys, rfl, h2, rfl⟩
    simp at h1 h2
    rw [h1, h2]
  · rintro rfl
    exact ⟨_, _, rfl, rfl, _, _, rfl, rfl, rfl⟩
def capP (a : Pt) : SV := .cons (.cptr (ptL a)) .nil
def SortF : Eng.MSpec := sortS 24 2 ptL domP nearF 67 capP
theorem blt67 : Nat.blt 67 FM = true := by kernel_rfl
theorem SortF_ok : SortF.Ok Try.prog 66 := by
  have h := Eng.sort_ok (T := 24) (k := 2) Try.sortF (by decide) Try.isAgg24 Try.sizeOf24 ptL ptV R_ptL (fun _ => rfl) (fun p v hv => by simp [ptV] at hv; rcases hv with rfl | rfl <;> rfl) domP nearF cmp_swo 67 blt67 capP ?_
    cmpP_ok.call (Try.sortF.f6.enters rfl) ?_
  · exact h
  · intro E E' a cs hU hw hr
    unfold capP at hr ⊢
    simp only [R] at hr ⊢
    obtain ⟨x, xs, rfl, ⟨b, off, ds, h1, h2, h3, h4⟩, rfl⟩ := hr
    refine ⟨x, _, rfl, ⟨b, off, ds, h1, hU b h2, (R_ptL _ _ _).2 ((R_ptL _ _ _).1 h3), fun j v hj => ?_⟩, rfl⟩
    have := h4 j v hj
    unfold World.cell? at this ⊢
    rw [hw b h2]
    exact this
  · intro a p q w cs U hU hr hp hq
    have ea : (#[.agg (ptV p).toArray, .agg (ptV q).toArray] ++ cs.toArray : Array Value) = (.agg (ptV p).toArray :: .agg (ptV q).toArray :: cs : List Value).toArray := by simp
    rw [ea]
    refine (cmpP_ok.does (a, p, q) w (.agg (ptV p).toArray :: .agg (ptV q).toArray :: cs) U hU ⟨hp.1, hp.2, hq.2⟩ ?_).mono ?_
    · show R _ (.cons (ptE p) (.cons (ptE q) (capP a))) _
      simp only [R, ptE]
      exact ⟨_, _, rfl, ⟨_, rfl, (R_ptL _ _ _).2 rfl⟩, _, _, rfl, ⟨_, rfl, (R_ptL _ _ _).2 rfl⟩, hr⟩
    · intro e w' he
      cases e with
      | returned v =>
        obtain ⟨h1, h2⟩ := he
        have h1' : R (envU (resU cmpP.fresh U w w') w') (.int .i64 (nearF a p q)) [v] := h1
        simp only [R] at h1'
        exact ⟨by simpa using h1', h2⟩
      | panicked _ => exact he.elim
      | outgrown => exact he.elim
end G9
