/- A part of the proof: see the last text. -/
import Derived.Test.YtnkkbbjljmbjbaaA12
open Go Go.Eng Go.Proofs A0 A1 A2 A3 A4 A5 A6 A7 A8 A9 A10 A11 A12
set_option maxRecDepth 100000
namespace A13
theorem sub_pRT {k : Keep} {hp : List (Nat × HObj)} {m : Nat} (hl : loose k = true) {r : List (Nat × Nat)} {f : Nat → Plan} {n : Nat} : ∀ j, j < n → SubC k (sub k hp m) (rnS r (planC (f j))) (planT (f j)) := fun j _ => by rw [rn_plan]; exact .inr ⟨hl, imp_CT _⟩
/-- Make, of which the prover says what it is handed. -/
def makeM : Eng.MSpec where
  X := Fx
  Y := Unit
  args := makeS.args
  pre := makeS.pre
  h0 := fun _ => []
  nx0 := 0
  post := fun _ _ => True
  res := fun x _ => makeS.res x
  h1 := fun _ _ => []
  nx1 := 0
  fresh := false
set_option maxHeartbeats 4000000 in
theorem makeM_ok : makeM.Ok Try.prog 9 := by
  refine Eng.MSpec.ok_of e9 q9 (fun _ => [(15, .p proper), (16, .m (bestS 9))]) (fun _ _ => TabOk.p proper_ok (TabOk.m (best_ok 9) TabOk.nil)) ?_
  intro F hn
  replace hn : (F.n : Int) ≤ 9223372036854775806 := hn
  refine ⟨trivial, ?_⟩
  cases hp : properB F with
  | false =>
    have e1 : makeV F = (knZ, 1) := by unfold makeV; rw [if_neg (by rw [hp]; decide)]
    repeat' (first | exact hn | (refine Exists.intro () (And.intro trivial ?_)) | exact fun (h : (!properB _) = false) => absurd ((congrArg not hp).symm.trans h) (by decide) | (refine fun (h : (!properB _) = true) => ?_) | exact congrArg (fun p : Known × Int => p.1.q) e1.symm | exact congrArg (fun p : Known × Int => p.1.c) e1.symm | exact congrArg (fun p : Known × Int => p.1.d) e1.symm | exact congrArg (fun p : Known × Int => p.2) e1.symm | exact congrArg (fun p : Known × Int => p.1.A.length) e1 | exact congrArg (fun p : Known × Int => p.1.L.length) e1 | refine And.intro ?_ ?_ | exact trivial | exact rfl | exact sub_lc (fun a => sub_strN _ _ _ a) | exact sub_lc0 (fun a => sub_strN _ _ _ a) | exact fun (j : Nat) (hj : j < _) => Or.inl (sub_strN _ _ _ _) | exact sub_lc (fun a => sub_natN _ _ _ a) | exact fun (j : Nat) (hj : j < _) => Or.inl (sub_fx _ _ _ _ rfl hj))
  | true =>
    have hF := proper_ok' hp
    have hn8 := hF.n8
    have h0n : (0 : Int) ≤ (F.n : Int) := by omega
    have hall := all_at hn8
    have hlt := all_lt hn8
    have hc9 : (candL (allC F.n)).length < 9 := by rw [cand_all hn8, List.length_range]; omega
    have hcn : ∀ i ∈ candL (allC F.n), i < F.n := fun i hi => by rw [cand_all hn8] at hi; exact List.mem_range.1 hi
    repeat' (first | exact h0n | exact hn | exact fun (h : (!properB _) = true) => absurd ((congrArg not hp).symm.trans h) (by decide) | (refine fun (h : (!properB _) = false) => ?_) | refine And.intro ?_ ?_ | exact trivial | exact rfl | exact sub_lc (fun a => sub_strN _ _ _ a) | exact sub_lc0 (fun a => sub_strN _ _ _ a) | exact fun (j : Nat) (hj : j < _) => Or.inl (sub_strN _ _ _ _) | exact sub_lc (fun a => sub_natN _ _ _ a) | exact fun (j : Nat) (hj : j < _) => Or.inl (sub_fx _ _ _ _ rfl hj))
    · refine Exists.intro (XK.mk F (allC F.n) [] 0) (Exists.intro [3, 0, 4, 2] ?_)
      repeat' (first | exact hall | exact hc9 | exact hlt | exact hcn | exact hF | exact done_nil F | exact ent_nil | refine And.intro ?_ ?_ | exact trivial | exact rfl | exact sub_lc (fun a => sub_strN _ _ _ a) | exact sub_lc0 (fun a => sub_strN _ _ _ a) | exact fun (j : Nat) (hj : j < _) => Or.inl (sub_strN _ _ _ _) | exact sub_lc (fun a => sub_natN _ _ _ a) | exact fun (j : Nat) (hj : j < _) => Or.inl (sub_fx _ _ _ _ rfl hj) | exact sub_pTT rfl | exact sub_pCT rfl | exact sub_pTC rfl | exact sub_pCC rfl | exact sub_pRC rfl | exact sub_pRT rfl | exact same_ent2 (p := sub _ _ 200) (fun v => sub_kn rfl v) | exact same_ent2 (p := sub _ _ 200) (fun v => sub_rk rfl v) | exact ent_nu)
      refine fun (z : KL × Nat) (_ : DoneOk F z.1) => ?_
      repeat' (first | refine And.intro ?_ ?_ | exact trivial | exact rfl | exact sub_lc (fun a => sub_strN _ _ _ a) | exact sub_lc0 (fun a => sub_strN _ _ _ a) | exact fun (j : Nat) (hj : j < _) => Or.inl (sub_strN _ _ _ _) | exact sub_lc (fun a => sub_natN _ _ _ a) | exact fun (j : Nat) (hj : j < _) => Or.inl (sub_fx _ _ _ _ rfl hj))
      · refine fun (h : decide ((bestV F (allC F.n)).d < 0) = true) => ?_
        have e1 : makeV F = (knZ, 8) := by unfold makeV; rw [if_pos hp, if_pos (of_decide_eq_true h)]
        repeat' (first | (refine Exists.intro () (And.intro trivial ?_)) | exact congrArg (fun p : Known × Int => p.1.q) e1.symm | exact congrArg (fun p : Known × Int => p.1.c) e1.symm | exact congrArg (fun p : Known × Int => p.1.d) e1.symm | exact congrArg (fun p : Known × Int => p.2) e1.symm | exact congrArg (fun p : Known × Int => p.1.A.length) e1 | exact congrArg (fun p : Known × Int => p.1.L.length) e1 | refine And.intro ?_ ?_ | exact trivial | exact rfl | exact sub_lc (fun a => sub_strN _ _ _ a) | exact sub_lc0 (fun a => sub_strN _ _ _ a) | exact fun (j : Nat) (hj : j < _) => Or.inl (sub_strN _ _ _ _) | exact sub_lc (fun a => sub_natN _ _ _ a) | exact fun (j : Nat) (hj : j < _) => Or.inl (sub_fx _ _ _ _ rfl hj))
      · refine fun (h : decide ((bestV F (allC F.n)).d < 0) = false) => ?_
        have e1 : makeV F = (bestV F (allC F.n), 0) := by unfold makeV; rw [if_pos hp, if_neg (of_decide_eq_false h)]
        repeat' (first | (refine Exists.intro () (And.intro trivial ?_)) | exact congrArg (fun p : Known × Int => p.1.q) e1.symm | exact congrArg (fun p : Known × Int => p.1.c) e1.symm | exact congrArg (fun p : Known × Int => p.1.d) e1.symm | exact congrArg (fun p : Known × Int => p.2) e1.symm | exact congrArg (fun p : Known × Int => p.1.A.length) e1 | exact congrArg (fun p : Known × Int => p.1.L.length) e1 | exact congrArg (fun p : Known × Int => p.1.A.length) e1.symm | exact congrArg (fun p : Known × Int => p.1.L.length) e1.symm | exact sub_rnq (congrArg (fun p : Known × Int => p.1.A) e1.symm) | exact sub_rpq rfl (congrArg (fun p : Known × Int => p.1.L) e1.symm) | refine And.intro ?_ ?_ | exact trivial | exact rfl | exact sub_lc (fun a => sub_strN _ _ _ a) | exact sub_lc0 (fun a => sub_strN _ _ _ a) | exact fun (j : Nat) (hj : j < _) => Or.inl (sub_strN _ _ _ _) | exact sub_lc (fun a => sub_natN _ _ _ a) | exact fun (j : Nat) (hj : j < _) => Or.inl (sub_fx _ _ _ _ rfl hj))
    · refine Exists.intro (XK.mk F (allC F.n) [] 0) (Exists.intro [3, 0, 4, 2] ?_)
      repeat' (first | exact hall | exact hc9 | exact hlt | exact hcn | exact hF | exact done_nil F | exact ent_nil | refine And.intro ?_ ?_ | exact trivial | exact rfl | exact sub_lc (fun a => sub_strN _ _ _ a) | exact sub_lc0 (fun a => sub_strN _ _ _ a) | exact fun (j : Nat) (hj : j < _) => Or.inl (sub_strN _ _ _ _) | exact sub_lc (fun a => sub_natN _ _ _ a) | exact fun (j : Nat) (hj : j < _) => Or.inl (sub_fx _ _ _ _ rfl hj) | exact sub_pTT rfl | exact sub_pCT rfl | exact sub_pTC rfl | exact sub_pCC rfl | exact sub_pRC rfl | exact sub_pRT rfl | exact same_ent2 (p := sub _ _ 200) (fun v => sub_kn rfl v) | exact same_ent2 (p := sub _ _ 200) (fun v => sub_rk rfl v) | exact ent_nu)
      refine fun (z : KL × Nat) (_ : DoneOk F z.1) => ?_
      repeat' (first | refine And.intro ?_ ?_ | exact trivial | exact rfl | exact sub_lc (fun a => sub_strN _ _ _ a) | exact sub_lc0 (fun a => sub_strN _ _ _ a) | exact fun (j : Nat) (hj : j < _) => Or.inl (sub_strN _ _ _ _) | exact sub_lc (fun a => sub_natN _ _ _ a) | exact fun (j : Nat) (hj : j < _) => Or.inl (sub_fx _ _ _ _ rfl hj))
      · refine fun (h : decide ((bestV F (allC F.n)).d < 0) = true) => ?_
        have e1 : makeV F = (knZ, 8) := by unfold makeV; rw [if_pos hp, if_pos (of_decide_eq_true h)]
        repeat' (first | (refine Exists.intro () (And.intro trivial ?_)) | exact congrArg (fun p : Known × Int => p.1.q) e1.symm | exact congrArg (fun p : Known × Int => p.1.c) e1.symm | exact congrArg (fun p : Known × Int => p.1.d) e1.symm | exact congrArg (fun p : Known × Int => p.2) e1.symm | exact congrArg (fun p : Known × Int => p.1.A.length) e1 | exact congrArg (fun p : Known × Int => p.1.L.length) e1 | refine And.intro ?_ ?_ | exact trivial | exact rfl | exact sub_lc (fun a => sub_strN _ _ _ a) | exact sub_lc0 (fun a => sub_strN _ _ _ a) | exact fun (j : Nat) (hj : j < _) => Or.inl (sub_strN _ _ _ _) | exact sub_lc (fun a => sub_natN _ _ _ a) | exact fun (j : Nat) (hj : j < _) => Or.inl (sub_fx _ _ _ _ rfl hj))
      · refine fun (h : decide ((bestV F (allC F.n)).d < 0) = false) => ?_
        have e1 : makeV F = (bestV F (allC F.n), 0) := by unfold makeV; rw [if_pos hp, if_neg (of_decide_eq_false h)]
        repeat' (first | (refine Exists.intro () (And.intro trivial ?_)) | exact congrArg (fun p : Known × Int => p.1.q) e1.symm | exact congrArg (fun p : Known × Int => p.1.c) e1.symm | exact congrArg (fun p : Known × Int => p.1.d) e1.symm | exact congrArg (fun p : Known × Int => p.2) e1.symm | exact congrArg (fun p : Known × Int => p.1.A.length) e1 | exact congrArg (fun p : Known × Int => p.1.L.length) e1 | exact congrArg (fun p : Known × Int => p.1.A.length) e1.symm | exact congrArg (fun p : Known × Int => p.1.L.length) e1.symm | exact sub_rnq (congrArg (fun p : Known × Int => p.1.A) e1.symm) | exact sub_rpq rfl (congrArg (fun p : Known × Int => p.1.L) e1.symm) | refine And.intro ?_ ?_ | exact trivial | exact rfl | exact sub_lc (fun a => sub_strN _ _ _ a) | exact sub_lc0 (fun a => sub_strN _ _ _ a) | exact fun (j : Nat) (hj : j < _) => Or.inl (sub_strN _ _ _ _) | exact sub_lc (fun a => sub_natN _ _ _ a) | exact fun (j : Nat) (hj : j < _) => Or.inl (sub_fx _ _ _ _ rfl hj))
/-! The examples -/
def t1 : Ss := [[111, 100, 100], [99, 49]]
def lF (l : List Ss) : Fx := ⟨l.length, fun i => (l.getD i []).length, fun i j => (l.getD i []).getD j []⟩
def F1 : Fx := lF [[[111, 100, 100], [99, 49]], [[101, 118, 101, 110], [99, 49]], [[111, 100, 100], [99, 50]]]
def F2 : Fx := lF [[[97], [120]], [[98], [120]], [[99], [120]]]
def F3 : Fx := lF [[[97]], [[97]]]
def F4 : Fx := lF [[]]
def F5 : Fx := lF []
def decP (c : Int) : Plan := .leaf (-1) c 0 fun _ => []
def want2 : Plan := .node 1 (-1) 2 (fun i => ([[99, 49], [99, 50]] : Ss).getD i []) 2 fun i => [decP 0, decP 2].getD i dP
def want : Plan := .node 0 (-1) 2 (fun i => ([[101, 118, 101, 110], [111, 100, 100]] : Ss).getD i []) 2 fun i => [decP 1, want2].getD i dP
theorem v1 : (makeV F1).2 = 0 ∧ (makeV F1).1.d = 2 := by refine ⟨?_, ?_⟩ <;> kernel_rfl
theorem v1s : sameP (makeV F1).1.plan want = true := by kernel_rfl
theorem v2 : (makeV F2).2 = 0 ∧ (makeV F2).1.d = 1 := by refine ⟨?_, ?_⟩ <;> kernel_rfl
theorem v3 : (makeV F3).2 = 8 := by kernel_rfl
theorem v4 : (makeV F4).2 = 0 ∧ (makeV F4).1.d = 0 := by refine ⟨?_, ?_⟩ <;> kernel_rfl
theorem v4s : sameP (makeV F4).1.plan (decP 0) = true := by kernel_rfl
theorem v5 : (makeV F5).2 = 1 := by kernel_rfl
theorem c1 : checkV F1 want = (2, true) := by kernel_rfl
theorem c2 : (checkV F1 (decP 0)).2 = false := by kernel_rfl
end A13
