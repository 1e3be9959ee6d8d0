/- A part of the proof: see the last text. -/
import Derived.Test.YtnkkbbjljmbjbaaA8
open Go Go.Eng Go.Proofs A0 A1 A2 A3 A4 A5 A6 A7 A8
set_option maxRecDepth 100000
namespace A9
section
variable {k : Keep} {hp : List (Nat × HObj)} {m : Nat}
theorem sub_rnq {r : List (Nat × Nat)} {L M : Ss} (h : L = M) {n : Nat} : ∀ j, j < n → SubC k (sub k hp (m + 3)) (rnS r (lc strN [] L j)) (lc strN [] M j) := fun j _ => by rw [h]; exact Or.inl ⟨rfl, trivial⟩
theorem sub_rpq (hl : loose k = true) {r : List (Nat × Nat)} {L M : List Plan} (h : L = M) {n : Nat} : ∀ j, j < n → SubC k (sub k hp m) (rnS r (lc planC dP L j)) (lc planC dP M j) := fun j _ => by
  rw [h]
  unfold lc
  rw [rn_plan]
  exact .inr ⟨hl, imp_plan _⟩
end
/-- The set of all candidates. -/
def allC (n : Nat) : Nat := 2 ^ n - 1
theorem all_at {n : Nat} (h : n ≤ 8) : IntKind.wrap .u64 (shI .shl .u64 1 (n : Int) - 1) = ((allC n : Nat) : Int) := by
  have : ∀ n : Nat, n ≤ 8 → IntKind.wrap .u64 (shI .shl .u64 1 (n : Int) - 1) = ((allC n : Nat) : Int) := by decide
  exact this n h
theorem all_lt {n : Nat} (h : n ≤ 8) : allC n < 256 := by
  have : ∀ n : Nat, n ≤ 8 → allC n < 256 := by decide
  exact this n h
theorem cand_all {n : Nat} (h : n ≤ 8) : candL (allC n) = List.range n := by
  have : ∀ n : Nat, n ≤ 8 → candL (allC n) = List.range n := by decide
  exact this n h
def knZ : Known := ⟨0, 0, [], [], 0⟩
def makeV (F : Fx) : Known × Int :=
  if properB F = true then (if (bestV F (allC F.n)).d < 0 then (knZ, 8) else (bestV F (allC F.n), 0)) else (knZ, 1)
def plC (k : Known) : SV := .cons (.int .i64 k.q) (.cons (.int .i64 k.c) (.cons (.slice 1 k.A.length (lc strN [] k.A)) (.cons (.slice 4 k.L.length (lc planC dP k.L)) .nil)))
theorem proper_ok' {F : Fx} (h : properB F = true) : FxOk F := by
  have := of_decide_eq_true h
  exact ⟨this.1, this.2.1, this.2.2.1, this.2.2.2⟩
theorem done_nil (F : Fx) : DoneOk F [] := fun _ _ _ h => by cases h
/-- gazetteer/ask.Make -/
def g9 : List Nat := [0, 10, 5, 6, 1, 22, 7, 2, 3, 4]
def c9 : SCode :=
  .seq (.region g9 [⟨some 1, none, .box 22 (.s 0), []⟩, ⟨some 2, none, .alloc 28 (.cons (.int .i64 0) (.cons (.int .i64 0) (.cons (.nilsl) (.cons (.nilsl) .nil)))), []⟩, ⟨some 3, none, .move (.c (.int .i64 0)), []⟩, ⟨some 4, none, .move (.c (.int .i64 0)), []⟩]) (.seq (.seq (.region g9 [⟨some 8, none, .load 1 false (.s 1), []⟩, ⟨some 9, none, .call (.c (.fn 15)) [.s 8], []⟩, ⟨some 10, none, .not (.s 9), []⟩]) (.cond (.s 10) (.seq (.region g9 [⟨some 11, none, .build (.cons (.int .i64 0) (.cons (.int .i64 0) (.cons (.nilsl) (.cons (.nilsl) .nil)))) [], []⟩, ⟨none, none, .store 4 (.s 2) (.s 11), []⟩, ⟨some 3, none, .move (.c (.int .i64 0)), []⟩, ⟨some 4, none, .move (.c (.int .i64 1)), []⟩]) .ret) .skip)) (.seq (.region g9 [⟨some 12, none, .mkmap (.i (.u64)), []⟩, ⟨some 5, none, .alloc 40 (.cons (.nilmap) .nil), []⟩, ⟨none, none, .store 1 (.s 5) (.s 12), []⟩]) (.seq (.region g9 [⟨some 6, none, .alloc 41 (.cons (.nilfn) .nil), []⟩]) (.seq (.region g9 [⟨some 13, none, .mkfn 16 [.s 5, .s 1, .s 6], []⟩, ⟨none, none, .store 1 (.s 6) (.s 13), []⟩]) (.seq (.drawn g9 (.pure 0 ⟨some 14, none, .load 1 false (.s 6), []⟩ (.pure 1 ⟨some 15, none, .load 1 false (.s 1), []⟩ (.pure 2 ⟨some 16, none, .lenSl (.s 15), []⟩ (.pure 3 ⟨some 17, none, .bin (.shl) (.c (.int (.u64) 1)) (.s 16), []⟩ (.pure 4 ⟨some 18, none, .bin (.sub) (.s 17) (.c (.int (.u64) 1)), []⟩ (.eff 5 ⟨some 19, none, .call (.s 14) [.s 18], []⟩ [] (.eff 6 ⟨some 7, none, .alloc 45 (.cons (.int .i64 0) (.cons (.int .i64 0) (.cons (.nilsl) (.cons (.nilsl) (.cons (.int .i64 0) .nil))))), []⟩ [⟨some 15, none, .load 1 false (.s 1), []⟩, ⟨some 14, none, .load 1 false (.s 6), []⟩] (.eff 7 ⟨none, none, .store 5 (.s 7) (.s 19), []⟩ [] .done .none) .none) (.eff 6 ⟨some 7, none, .alloc 45 (.cons (.int .i64 0) (.cons (.int .i64 0) (.cons (.nilsl) (.cons (.nilsl) (.cons (.int .i64 0) .nil))))), []⟩ [⟨some 15, none, .load 1 false (.s 1), []⟩, ⟨some 14, none, .load 1 false (.s 6), []⟩] (.eff 5 ⟨some 19, none, .call (.s 14) [.s 18], []⟩ [] (.eff 7 ⟨none, none, .store 5 (.s 7) (.s 19), []⟩ [] .done .none) .none) .none)))))))) (.seq (.seq (.region g9 [⟨some 20, none, .fldA 4 (.s 7), []⟩, ⟨some 21, none, .load 1 false (.s 20), []⟩, ⟨some 22, none, .bin (.lss) (.s 21) (.c (.int .i64 0)), []⟩]) (.cond (.s 22) (.seq (.region g9 [⟨some 23, none, .build (.cons (.int .i64 0) (.cons (.int .i64 0) (.cons (.nilsl) (.cons (.nilsl) .nil)))) [], []⟩, ⟨none, none, .store 4 (.s 2) (.s 23), []⟩, ⟨some 3, none, .move (.c (.int .i64 0)), []⟩, ⟨some 4, none, .move (.c (.int .i64 8)), []⟩]) .ret) .skip)) (.seq (.drawn g9 (.pure 0 ⟨some 24, none, .fldA 0 (.s 7), []⟩ (.pure 1 ⟨some 25, none, .load 4 true (.s 24), []⟩ (.pure 2 ⟨some 26, none, .fldA 4 (.s 7), []⟩ (.pure 3 ⟨some 27, none, .load 1 false (.s 26), []⟩ (.eff 4 ⟨none, none, .store 4 (.s 2) (.s 25), []⟩ [⟨some 27, none, .load 1 false (.s 26), []⟩] (.pure 5 ⟨some 3, none, .move (.s 27), []⟩ (.pure 6 ⟨some 4, none, .move (.c (.int .i64 0)), []⟩ .done)) .none)))))) .ret)))))))
def r9 : List SRes := [.cell 2 4 true, .slot 3, .slot 4]
def k9 : List (Nat × Nat × SCode × Nat) := []
theorem e9 : cFunc Try.prog 9 g9 [] [19] k9 = some (c9, r9, 28) := by kernel_rfl
theorem q9 : RgOk Try.prog k9 := RgOk.nil
def makeS : Eng.Spec where
  X := Fx
  args := fun F => .cons (fxE F) .nil
  pre := fun F => (F.n : Int) ≤ 9223372036854775806
  res := fun F => .tup (.cons (.agg (plC (makeV F).1)) (.cons (.int .i64 (makeV F).1.d) (.cons (.int .i64 (makeV F).2) .nil)))
  inst := fun
    | .cons (.slice _ n e) .nil => some (fxOf n e)
    | _ => none
  fresh := false
set_option maxHeartbeats 4000000 in
theorem makeS_ok : makeS.Ok Try.prog 9 := by
  refine Eng.Spec.ok_of e9 q9 (fun _ => [(15, .p proper), (16, .m (bestS 9))]) (fun _ _ => TabOk.p proper_ok (TabOk.m (best_ok 9) TabOk.nil)) ?_
  intro F hn
  replace hn : (F.n : Int) ≤ 9223372036854775806 := hn
  refine ⟨trivial, ?_⟩
  cases hp : properB F with
  | false =>
    have e1 : makeV F = (knZ, 1) := by unfold makeV; rw [if_neg (by rw [hp]; decide)]
    repeat' (first | exact hn | exact fun (h : (!properB _) = false) => absurd ((congrArg not hp).symm.trans h) (by decide) | (refine fun (h : (!properB _) = true) => ?_) | exact congrArg (fun p : Known × Int => p.1.q) e1.symm | exact congrArg (fun p : Known × Int => p.1.c) e1.symm | exact congrArg (fun p : Known × Int => p.1.d) e1.symm | exact congrArg (fun p : Known × Int => p.2) e1.symm | exact congrArg (fun p : Known × Int => p.1.A.length) e1 | exact congrArg (fun p : Known × Int => p.1.L.length) e1 | refine And.intro ?_ ?_ | exact trivial | exact rfl | exact sub_lc (fun a => sub_strN _ _ _ a) | exact sub_lc0 (fun a => sub_strN _ _ _ a) | exact fun (j : Nat) (hj : j < _) => Or.inl (sub_strN _ _ _ _) | exact sub_lc (fun a => sub_natN _ _ _ a) | exact fun (j : Nat) (hj : j < _) => Or.inl (sub_fx _ _ _ _ rfl hj))
  | true =>
    have hF := proper_ok' hp
    have hn8 := hF.n8
    have h0n : (0 : Int) ≤ (F.n : Int) := by omega
    have hall := all_at hn8
    have hlt := all_lt hn8
    have hc9 : (candL (allC F.n)).length < 9 := by rw [cand_all hn8, List.length_range]; omega
    have hcn : ∀ i ∈ candL (allC F.n), i < F.n := fun i hi => by rw [cand_all hn8] at hi; exact List.mem_range.1 hi
    repeat' (first | exact h0n | exact hn | exact fun (h : (!properB _) = true) => absurd ((congrArg not hp).symm.trans h) (by decide) | (refine fun (h : (!properB _) = false) => ?_) | refine And.intro ?_ ?_ | exact trivial | exact rfl | exact sub_lc (fun a => sub_strN _ _ _ a) | exact sub_lc0 (fun a => sub_strN _ _ _ a) | exact fun (j : Nat) (hj : j < _) => Or.inl (sub_strN _ _ _ _) | exact sub_lc (fun a => sub_natN _ _ _ a) | exact fun (j : Nat) (hj : j < _) => Or.inl (sub_fx _ _ _ _ rfl hj))
    · refine Exists.intro (XK.mk F (allC F.n) [] 0) (Exists.intro [3, 0, 4, 2] ?_)
      repeat' (first | exact hall | exact hc9 | exact hlt | exact hcn | exact hF | exact done_nil F | exact ent_nil | refine And.intro ?_ ?_ | exact trivial | exact rfl | exact sub_lc (fun a => sub_strN _ _ _ a) | exact sub_lc0 (fun a => sub_strN _ _ _ a) | exact fun (j : Nat) (hj : j < _) => Or.inl (sub_strN _ _ _ _) | exact sub_lc (fun a => sub_natN _ _ _ a) | exact fun (j : Nat) (hj : j < _) => Or.inl (sub_fx _ _ _ _ rfl hj) | exact sub_pCC rfl | exact sub_pRC rfl | exact same_ent2 (p := sub _ _ 200) (fun v => sub_kn rfl v) | exact same_ent2 (p := sub _ _ 200) (fun v => sub_rk rfl v) | exact ent_nu)
      refine fun (z : KL × Nat) (_ : DoneOk F z.1) => ?_
      repeat' (first | refine And.intro ?_ ?_ | exact trivial | exact rfl | exact sub_lc (fun a => sub_strN _ _ _ a) | exact sub_lc0 (fun a => sub_strN _ _ _ a) | exact fun (j : Nat) (hj : j < _) => Or.inl (sub_strN _ _ _ _) | exact sub_lc (fun a => sub_natN _ _ _ a) | exact fun (j : Nat) (hj : j < _) => Or.inl (sub_fx _ _ _ _ rfl hj))
      · refine fun (h : decide ((bestV F (allC F.n)).d < 0) = true) => ?_
        have e1 : makeV F = (knZ, 8) := by unfold makeV; rw [if_pos hp, if_pos (of_decide_eq_true h)]
        repeat' (first | exact congrArg (fun p : Known × Int => p.1.q) e1.symm | exact congrArg (fun p : Known × Int => p.1.c) e1.symm | exact congrArg (fun p : Known × Int => p.1.d) e1.symm | exact congrArg (fun p : Known × Int => p.2) e1.symm | exact congrArg (fun p : Known × Int => p.1.A.length) e1 | exact congrArg (fun p : Known × Int => p.1.L.length) e1 | refine And.intro ?_ ?_ | exact trivial | exact rfl | exact sub_lc (fun a => sub_strN _ _ _ a) | exact sub_lc0 (fun a => sub_strN _ _ _ a) | exact fun (j : Nat) (hj : j < _) => Or.inl (sub_strN _ _ _ _) | exact sub_lc (fun a => sub_natN _ _ _ a) | exact fun (j : Nat) (hj : j < _) => Or.inl (sub_fx _ _ _ _ rfl hj))
      · refine fun (h : decide ((bestV F (allC F.n)).d < 0) = false) => ?_
        have e1 : makeV F = (bestV F (allC F.n), 0) := by unfold makeV; rw [if_pos hp, if_neg (of_decide_eq_false h)]
        repeat' (first | exact congrArg (fun p : Known × Int => p.1.q) e1.symm | exact congrArg (fun p : Known × Int => p.1.c) e1.symm | exact congrArg (fun p : Known × Int => p.1.d) e1.symm | exact congrArg (fun p : Known × Int => p.2) e1.symm | exact congrArg (fun p : Known × Int => p.1.A.length) e1 | exact congrArg (fun p : Known × Int => p.1.L.length) e1 | exact congrArg (fun p : Known × Int => p.1.A.length) e1.symm | exact congrArg (fun p : Known × Int => p.1.L.length) e1.symm | exact sub_rnq (congrArg (fun p : Known × Int => p.1.A) e1.symm) | exact sub_rpq rfl (congrArg (fun p : Known × Int => p.1.L) e1.symm) | refine And.intro ?_ ?_ | exact trivial | exact rfl | exact sub_lc (fun a => sub_strN _ _ _ a) | exact sub_lc0 (fun a => sub_strN _ _ _ a) | exact fun (j : Nat) (hj : j < _) => Or.inl (sub_strN _ _ _ _) | exact sub_lc (fun a => sub_natN _ _ _ a) | exact fun (j : Nat) (hj : j < _) => Or.inl (sub_fx _ _ _ _ rfl hj))
    · refine Exists.intro (XK.mk F (allC F.n) [] 0) (Exists.intro [3, 0, 4, 2] ?_)
      repeat' (first | exact hall | exact hc9 | exact hlt | exact hcn | exact hF | exact done_nil F | exact ent_nil | refine And.intro ?_ ?_ | exact trivial | exact rfl | exact sub_lc (fun a => sub_strN _ _ _ a) | exact sub_lc0 (fun a => sub_strN _ _ _ a) | exact fun (j : Nat) (hj : j < _) => Or.inl (sub_strN _ _ _ _) | exact sub_lc (fun a => sub_natN _ _ _ a) | exact fun (j : Nat) (hj : j < _) => Or.inl (sub_fx _ _ _ _ rfl hj) | exact sub_pCC rfl | exact sub_pRC rfl | exact same_ent2 (p := sub _ _ 200) (fun v => sub_kn rfl v) | exact same_ent2 (p := sub _ _ 200) (fun v => sub_rk rfl v) | exact ent_nu)
      refine fun (z : KL × Nat) (_ : DoneOk F z.1) => ?_
      repeat' (first | refine And.intro ?_ ?_ | exact trivial | exact rfl | exact sub_lc (fun a => sub_strN _ _ _ a) | exact sub_lc0 (fun a => sub_strN _ _ _ a) | exact fun (j : Nat) (hj : j < _) => Or.inl (sub_strN _ _ _ _) | exact sub_lc (fun a => sub_natN _ _ _ a) | exact fun (j : Nat) (hj : j < _) => Or.inl (sub_fx _ _ _ _ rfl hj))
      · refine fun (h : decide ((bestV F (allC F.n)).d < 0) = true) => ?_
        have e1 : makeV F = (knZ, 8) := by unfold makeV; rw [if_pos hp, if_pos (of_decide_eq_true h)]
        repeat' (first | exact congrArg (fun p : Known × Int => p.1.q) e1.symm | exact congrArg (fun p : Known × Int => p.1.c) e1.symm | exact congrArg (fun p : Known × Int => p.1.d) e1.symm | exact congrArg (fun p : Known × Int => p.2) e1.symm | exact congrArg (fun p : Known × Int => p.1.A.length) e1 | exact congrArg (fun p : Known × Int => p.1.L.length) e1 | refine And.intro ?_ ?_ | exact trivial | exact rfl | exact sub_lc (fun a => sub_strN _ _ _ a) | exact sub_lc0 (fun a => sub_strN _ _ _ a) | exact fun (j : Nat) (hj : j < _) => Or.inl (sub_strN _ _ _ _) | exact sub_lc (fun a => sub_natN _ _ _ a) | exact fun (j : Nat) (hj : j < _) => Or.inl (sub_fx _ _ _ _ rfl hj))
      · refine fun (h : decide ((bestV F (allC F.n)).d < 0) = false) => ?_
        have e1 : makeV F = (bestV F (allC F.n), 0) := by unfold makeV; rw [if_pos hp, if_neg (of_decide_eq_false h)]
        repeat' (first | exact congrArg (fun p : Known × Int => p.1.q) e1.symm | exact congrArg (fun p : Known × Int => p.1.c) e1.symm | exact congrArg (fun p : Known × Int => p.1.d) e1.symm | exact congrArg (fun p : Known × Int => p.2) e1.symm | exact congrArg (fun p : Known × Int => p.1.A.length) e1 | exact congrArg (fun p : Known × Int => p.1.L.length) e1 | exact congrArg (fun p : Known × Int => p.1.A.length) e1.symm | exact congrArg (fun p : Known × Int => p.1.L.length) e1.symm | exact sub_rnq (congrArg (fun p : Known × Int => p.1.A) e1.symm) | exact sub_rpq rfl (congrArg (fun p : Known × Int => p.1.L) e1.symm) | refine And.intro ?_ ?_ | exact trivial | exact rfl | exact sub_lc (fun a => sub_strN _ _ _ a) | exact sub_lc0 (fun a => sub_strN _ _ _ a) | exact fun (j : Nat) (hj : j < _) => Or.inl (sub_strN _ _ _ _) | exact sub_lc (fun a => sub_natN _ _ _ a) | exact fun (j : Nat) (hj : j < _) => Or.inl (sub_fx _ _ _ _ rfl hj))
end A9
