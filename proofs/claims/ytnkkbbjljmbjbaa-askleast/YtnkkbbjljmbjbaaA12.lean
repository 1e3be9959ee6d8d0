/- A part of the proof: see the last text. -/
import Derived.Test.YtnkkbbjljmbjbaaA11
open Go Go.Eng Go.Proofs A0 A1 A2 A3 A4 A5 A6 A7 A8 A9 A10 A11
set_option maxRecDepth 100000
namespace A12
structure XE where
  F : Fx
  p : Plan
def checkV (F : Fx) (p : Plan) : Int × Bool := if properB F = true then depthV F p (allC F.n) else (0, false)
def checkS : Eng.MSpec where
  X := XE
  Y := Unit
  args := fun x => .cons (fxE x.F) (.cons (.agg (planU x.p)) .nil)
  pre := fun x => (x.F.n : Int) ≤ 9223372036854775806 ∧ PlanOk 1000 x.p
  h0 := fun _ => []
  nx0 := 0
  post := fun _ _ => True
  res := fun x _ => .tup (.cons (.int .i64 (checkV x.F x.p).1) (.cons (.bool (checkV x.F x.p).2) .nil))
  h1 := fun _ _ => []
  nx1 := 0
/-- gazetteer/ask.Check -/
def g11 : List Nat := [1, 8, 0, 3, 4, 5]
def c11 : SCode :=
  .seq (.region g11 [⟨some 3, none, .box 28 (.s 1), []⟩, ⟨some 4, none, .move (.c (.int .i64 0)), []⟩, ⟨some 5, none, .move (.c (.bool false)), []⟩]) (.seq (.seq (.region g11 [⟨some 6, none, .move (.s 0), []⟩, ⟨some 7, none, .call (.c (.fn 15)) [.s 6], []⟩, ⟨some 8, none, .not (.s 7), []⟩]) (.cond (.s 8) (.seq (.region g11 [⟨some 4, none, .move (.c (.int .i64 0)), []⟩, ⟨some 5, none, .move (.c (.bool false)), []⟩]) .ret) .skip)) (.seq (.drawn g11 (.pure 0 ⟨some 9, none, .move (.s 0), []⟩ (.pure 1 ⟨some 10, none, .move (.s 0), []⟩ (.pure 2 ⟨some 11, none, .lenSl (.s 10), []⟩ (.pure 3 ⟨some 12, none, .bin (.shl) (.c (.int (.u64) 1)) (.s 11), []⟩ (.pure 4 ⟨some 13, none, .bin (.sub) (.s 12) (.c (.int (.u64) 1)), []⟩ (.pure 5 ⟨some 14, none, .load 4 true (.s 3), []⟩ (.eff 6 ⟨some 15, none, .call (.c (.fn 20)) [.s 9, .s 13, .s 14], []⟩ [] (.pure 7 ⟨some 16, none, .extract 0 (.s 15), []⟩ (.pure 8 ⟨some 17, none, .extract 1 (.s 15), []⟩ (.pure 9 ⟨some 4, none, .move (.s 16), []⟩ (.pure 10 ⟨some 5, none, .move (.s 17), []⟩ .done)))) .none)))))))) .ret))
def r11 : List SRes := [.slot 4, .slot 5]
def k11 : List (Nat × Nat × SCode × Nat) := []
theorem e11 : cFunc Try.prog 11 g11 [] [15] k11 = some (c11, r11, 18) := by kernel_rfl
theorem q11 : RgOk Try.prog k11 := RgOk.nil
theorem check_ok : checkS.Ok Try.prog 11 := by
  refine Eng.MSpec.ok_of e11 q11 (fun _ => [(15, .p proper), (20, .m (depthS 1000))]) (fun _ _ => TabOk.p proper_ok (TabOk.m (depth_ok 1000 (Nat.le_refl _)) TabOk.nil)) ?_
  rintro ⟨F, p⟩ ⟨hn, hp⟩
  replace hn : (F.n : Int) ≤ 9223372036854775806 := hn
  replace hp : PlanOk 1000 p := hp
  refine ⟨trivial, ?_⟩
  cases hpr : properB F with
  | false =>
    have e1 : checkV F p = (0, false) := by unfold checkV; rw [if_neg (by rw [hpr]; decide)]
    have e2 := congrArg Prod.fst e1.symm
    have e3 := congrArg Prod.snd e1.symm
    repeat' (first | exact hn | exact fun (h : (!properB _) = false) => absurd ((congrArg not hpr).symm.trans h) (by decide) | (refine fun (h : (!properB _) = true) => ?_) | refine And.intro ?_ ?_ | exact trivial | exact rfl | exact sub_lc (fun a => sub_strN _ _ _ a) | exact sub_lc0 (fun a => sub_strN _ _ _ a) | exact fun (j : Nat) (hj : j < _) => Or.inl (sub_strN _ _ _ _) | exact sub_lc (fun a => sub_natN _ _ _ a) | exact fun (j : Nat) (hj : j < _) => Or.inl (sub_fx _ _ _ _ rfl hj))
    refine Exists.intro () (And.intro trivial ?_)
    repeat' (first | exact e2 | exact e3 | refine And.intro ?_ ?_ | exact trivial | exact rfl)
  | true =>
    have e1 : checkV F p = depthV F p (allC F.n) := by unfold checkV; rw [if_pos hpr]
    have e2 := congrArg Prod.fst e1.symm
    have e3 := congrArg Prod.snd e1.symm
    have hF := proper_ok' hpr
    have hn8 := hF.n8
    have h0n : (0 : Int) ≤ (F.n : Int) := by omega
    have hall := all_at hn8
    have hlt := all_lt hn8
    have hcn : ∀ i ∈ candL (allC F.n), i < F.n := fun i hi => by rw [cand_all hn8] at hi; exact List.mem_range.1 hi
    repeat' (first | exact h0n | exact hn | exact fun (h : (!properB _) = true) => absurd ((congrArg not hpr).symm.trans h) (by decide) | (refine fun (h : (!properB _) = false) => ?_) | refine And.intro ?_ ?_ | exact trivial | exact rfl | exact sub_lc (fun a => sub_strN _ _ _ a) | exact sub_lc0 (fun a => sub_strN _ _ _ a) | exact fun (j : Nat) (hj : j < _) => Or.inl (sub_strN _ _ _ _) | exact sub_lc (fun a => sub_natN _ _ _ a) | exact fun (j : Nat) (hj : j < _) => Or.inl (sub_fx _ _ _ _ rfl hj))
    refine Exists.intro (XD.mk F (allC F.n) p) (Exists.intro [] ?_)
    repeat' (first | exact hp | exact hall | exact hlt | exact hcn | exact hF | refine And.intro ?_ ?_ | exact trivial | exact rfl | exact sub_lc (fun a => sub_strN _ _ _ a) | exact sub_lc0 (fun a => sub_strN _ _ _ a) | exact fun (j : Nat) (hj : j < _) => Or.inl (sub_strN _ _ _ _) | exact sub_lc (fun a => sub_natN _ _ _ a) | exact fun (j : Nat) (hj : j < _) => Or.inl (sub_fx _ _ _ _ rfl hj) | exact sub_pTT rfl | exact sub_pCT rfl | exact sub_pTC rfl | exact sub_pCC rfl)
    refine fun (_ : Unit) (_ : True) => ?_
    repeat' (first | refine And.intro ?_ ?_ | exact trivial | exact rfl)
    refine Exists.intro () (And.intro trivial ?_)
    repeat' (first | exact e2 | exact e3 | refine And.intro ?_ ?_ | exact trivial | exact rfl)
/-! ### Same -/
def same0 (a b : Plan) : Bool := decide (a.q = b.q) && decide (a.c = b.c) && eqT ⟨⟨a.n, a.ans⟩, ⟨b.n, b.ans⟩⟩ && decide (a.m = b.m)
def sameP : Plan → Plan → Bool
  | .leaf q c n ans, b => same0 (.leaf q c n ans) b
  | .node q c n ans m next, b => same0 (.node q c n ans m next) b && (List.range m).all fun i => sameP (next i) (b.kid i)
theorem same_eq (a b : Plan) : sameP a b = (same0 a b && (List.range a.m).all fun i => sameP (a.kid i) (b.kid i)) := by
  cases a with
  | leaf q c n ans =>
    show same0 _ b = (same0 _ b && (List.range 0).all _)
    simp
  | node q c n ans m next => rfl
structure XP2 where
  a : Plan
  b : Plan
def sameS (h : Nat) : Eng.MSpec where
  X := XP2
  Y := Unit
  args := fun x => .cons (.agg (planU x.a)) (.cons (.agg (planU x.b)) .nil)
  pre := fun x => PlanOk h x.a
  h0 := fun _ => []
  nx0 := 0
  post := fun _ _ => True
  res := fun x _ => .bool (sameP x.a x.b)
  h1 := fun _ _ => []
  nx1 := 0
/-- gazetteer/gazetteerref38.Same -/
def g10 : List Nat := [0, 1, 34, 39, 2, 3, 53, 5, 4]
def c10 : SCode :=
  .seq (.region g10 [⟨some 2, none, .box 28 (.s 0), []⟩, ⟨some 3, none, .box 28 (.s 1), []⟩, ⟨some 4, none, .move (.c (.bool false)), []⟩]) (.seq (.seq (.region g10 [⟨some 6, none, .fldA 0 (.s 2), []⟩, ⟨some 7, none, .load 1 false (.s 6), []⟩, ⟨some 8, none, .fldA 0 (.s 3), []⟩, ⟨some 9, none, .load 1 false (.s 8), []⟩, ⟨some 10, none, .bin (.neq) (.s 7) (.s 9), []⟩, ⟨some 11, none, .move (.s 10), []⟩, ⟨some 12, some (11, false), .fldA 1 (.s 2), []⟩, ⟨some 13, some (11, false), .load 1 false (.s 12), []⟩, ⟨some 14, some (11, false), .fldA 1 (.s 3), []⟩, ⟨some 15, some (11, false), .load 1 false (.s 14), []⟩, ⟨some 16, some (11, false), .bin (.neq) (.s 13) (.s 15), []⟩, ⟨some 17, none, .pick (.s 11) (.c (.bool true)) (.s 16), []⟩, ⟨some 18, none, .move (.s 17), []⟩, ⟨some 19, some (18, false), .fldA 2 (.s 2), []⟩, ⟨some 20, some (18, false), .load 1 false (.s 19), []⟩, ⟨some 21, some (18, false), .fldA 2 (.s 3), []⟩, ⟨some 22, some (18, false), .load 1 false (.s 21), []⟩, ⟨some 23, some (18, false), .call (.c (.fn 19)) [.s 20, .s 22], []⟩, ⟨some 24, some (18, false), .not (.s 23), []⟩, ⟨some 25, none, .pick (.s 18) (.c (.bool true)) (.s 24), []⟩, ⟨some 26, none, .move (.s 25), []⟩, ⟨some 27, some (26, false), .fldA 3 (.s 2), []⟩, ⟨some 28, some (26, false), .load 1 false (.s 27), []⟩, ⟨some 29, some (26, false), .lenSl (.s 28), []⟩, ⟨some 30, some (26, false), .fldA 3 (.s 3), []⟩, ⟨some 31, some (26, false), .load 1 false (.s 30), []⟩, ⟨some 32, some (26, false), .lenSl (.s 31), []⟩, ⟨some 33, some (26, false), .bin (.neq) (.s 29) (.s 32), []⟩, ⟨some 34, none, .pick (.s 26) (.c (.bool true)) (.s 33), []⟩]) (.cond (.s 34) (.seq (.region g10 [⟨some 4, none, .move (.c (.bool false)), []⟩]) .ret) .skip)) (.seq (.seq (.region g10 [⟨some 5, none, .move (.c (.int .i64 0)), []⟩]) (.block 0 (.loop 0 [35, 36, 37, 38, 39, 42, 43, 44, 45, 46, 47, 48, 49, 50, 51, 52, 53, 4, 40, 41, 5] (.seq (.seq (.region g10 [⟨some 35, none, .move (.s 5), []⟩, ⟨some 36, none, .fldA 3 (.s 2), []⟩, ⟨some 37, none, .load 1 false (.s 36), []⟩, ⟨some 38, none, .lenSl (.s 37), []⟩, ⟨some 39, none, .bin (.lss) (.s 35) (.s 38), []⟩]) (.cond (.s 39) .skip (.exit 0))) (.seq (.block 1 (.seq (.drawn g10 (.pure 0 ⟨some 42, none, .fldA 3 (.s 2), []⟩ (.pure 1 ⟨some 43, none, .load 1 false (.s 42), []⟩ (.pure 2 ⟨some 44, none, .move (.s 5), []⟩ (.pure 3 ⟨some 45, none, .idxSl 4 (.s 43) (.s 44), []⟩ (.pure 4 ⟨some 46, none, .load 4 true (.s 45), []⟩ (.pure 5 ⟨some 47, none, .fldA 3 (.s 3), []⟩ (.pure 6 ⟨some 48, none, .load 1 false (.s 47), []⟩ (.pure 7 ⟨some 49, none, .move (.s 5), []⟩ (.pure 8 ⟨some 50, none, .idxSl 4 (.s 48) (.s 49), []⟩ (.pure 9 ⟨some 51, none, .load 4 true (.s 50), []⟩ (.eff 10 ⟨some 52, none, .call (.c (.fn 10)) [.s 46, .s 51], []⟩ [] (.pure 11 ⟨some 53, none, .not (.s 52), []⟩ .done) .none)))))))))))) (.cond (.s 53) (.seq (.region g10 [⟨some 4, none, .move (.c (.bool false)), []⟩]) .ret) .skip))) (.region g10 [⟨some 40, none, .move (.s 5), []⟩, ⟨some 41, none, .bin (.add) (.s 40) (.c (.int .i64 1)), []⟩, ⟨some 5, none, .move (.s 41), []⟩])))))) (.seq (.region g10 [⟨some 4, none, .move (.c (.bool true)), []⟩]) .ret)))
def r10 : List SRes := [.slot 4]
def k10 : List (Nat × Nat × SCode × Nat) := []
theorem e10 : cFunc Try.prog 10 g10 [] [52] k10 = some (c10, r10, 54) := by kernel_rfl
theorem q10 : RgOk Try.prog k10 := RgOk.nil
theorem same_or {a b : Plan} {i j k : Nat} : pickB (pickB (pickB (!decide (a.q = b.q)) (.c (.bool true)) (.s i) true (!decide (a.c = b.c))) (.c (.bool true)) (.s j) true (!eqT ⟨⟨a.n, a.ans⟩, ⟨b.n, b.ans⟩⟩)) (.c (.bool true)) (.s k) true (!decide ((a.m : Int) = (b.m : Int))) = !same0 a b := by
  rw [pickB_or, pickB_or, pickB_or]
  unfold same0
  have : decide ((a.m : Int) = (b.m : Int)) = decide (a.m = b.m) := by rw [decide_eq_decide]; omega
  rw [this]
  cases decide (a.q = b.q) <;> cases decide (a.c = b.c) <;> cases eqT _ <;> cases decide (a.m = b.m) <;> rfl
theorem same_all {a b : Plan} (h0 : same0 a b = true) (h : ∀ j, j < a.m → sameP (a.kid j) (b.kid j) = true) : true = sameP a b := by
  rw [same_eq, h0, Bool.true_and]
  exact (List.all_eq_true.2 fun j hj => h j (List.mem_range.1 hj)).symm
theorem same_none {a b : Plan} {i : Nat} (hi : i < a.m) (h : sameP (a.kid i) (b.kid i) = false) : false = sameP a b := by
  rw [same_eq]
  have : ((List.range a.m).all fun i => sameP (a.kid i) (b.kid i)) = false := by
    rw [List.all_eq_false]
    exact ⟨i, List.mem_range.2 hi, by rw [h]; decide⟩
  rw [this, Bool.and_false]
set_option maxHeartbeats 4000000 in
theorem same_ok : ∀ h, (sameS h).Ok Try.prog 10 := by
  intro h
  induction h with
  | zero =>
    refine Eng.MSpec.ok_of e10 q10 (fun _ => []) (fun _ _ => TabOk.nil) ?_
    intro x hx
    exact (show PlanOk 0 x.a from hx).elim
  | succ h ih =>
    refine Eng.MSpec.ok_of e10 q10 (fun _ => [(19, .p texts), (10, .m (sameS h))]) (fun _ _ => TabOk.p texts_ok (TabOk.m ih TabOk.nil)) ?_
    rintro ⟨a, b⟩ hp
    replace hp : PlanOk (h + 1) a := hp
    have hm := hp.1
    have hn := hp.2.1
    unfold BP at hm hn
    have hnI : (a.n : Int) ≤ 9223372036854775806 := by omega
    refine ⟨trivial, ?_⟩
    repeat' (first | refine And.intro ?_ ?_ | exact trivial | exact rfl | exact sub_lc (fun a => sub_strN _ _ _ a) | exact sub_lc0 (fun a => sub_strN _ _ _ a) | exact fun (j : Nat) (hj : j < _) => Or.inl (sub_strN _ _ _ _) | exact sub_lc (fun a => sub_natN _ _ _ a) | exact fun (j : Nat) (hj : j < _) => Or.inl (sub_fx _ _ _ _ rfl hj))
    · refine fun (_ : guardP _ _ _ _) => And.intro hnI ?_
      repeat' (first | refine And.intro ?_ ?_ | exact trivial | exact rfl | exact sub_lc (fun a => sub_strN _ _ _ a) | exact sub_lc0 (fun a => sub_strN _ _ _ a) | exact fun (j : Nat) (hj : j < _) => Or.inl (sub_strN _ _ _ _) | exact sub_lc (fun a => sub_natN _ _ _ a) | exact fun (j : Nat) (hj : j < _) => Or.inl (sub_fx _ _ _ _ rfl hj))
    · refine fun (h1 : pickB _ _ _ _ _ = true) => ?_
      have h0 : (!same0 a b) = true := same_or.symm.trans h1
      have e1 : false = sameP a b := by rw [same_eq, show same0 a b = false by simpa using h0, Bool.false_and]
      repeat' (first | exact e1 | refine And.intro ?_ ?_ | exact trivial | exact rfl)
      refine Exists.intro () (And.intro trivial ?_)
      repeat' (first | exact e1 | refine And.intro ?_ ?_ | exact trivial | exact rfl)
    · refine fun (h1 : pickB _ _ _ _ _ = false) => ?_
      have h0 : (!same0 a b) = false := same_or.symm.trans h1
      have h2 : same0 a b = true := by simpa using h0
      have hmm : a.m = b.m := by
        unfold same0 at h2
        simp only [Bool.and_eq_true, decide_eq_true_eq] at h2
        exact h2.2
      repeat' (first | refine And.intro ?_ ?_ | exact trivial | exact rfl)
      refine ⟨⟨Nat, fun i => i ≤ a.m ∧ ∀ j, j < i → sameP (a.kid j) (b.kid j) = true, fun i => [(5, .int .i64 (i : Int))], fun _ => [], fun i => a.m - i⟩, 0, ⟨Nat.zero_le _, fun j hj => absurd hj (Nat.not_lt_zero j)⟩, ?_, ?_⟩
      · repeat' (first | refine And.intro ?_ ?_ | exact trivial | exact rfl | exact sub_lc (fun a => sub_strN _ _ _ a) | exact sub_lc0 (fun a => sub_strN _ _ _ a) | exact fun (j : Nat) (hj : j < _) => Or.inl (sub_strN _ _ _ _) | exact sub_lc (fun a => sub_natN _ _ _ a) | exact fun (j : Nat) (hj : j < _) => Or.inl (sub_fx _ _ _ _ rfl hj) | exact sub_pTT rfl | exact sub_pCT rfl | exact sub_pTC rfl | exact sub_pCC rfl)
      rintro (i : Nat) ⟨hi, hall⟩
      replace hi : i ≤ a.m := hi
      replace hall : ∀ j, j < i → sameP (a.kid j) (b.kid j) = true := hall
      refine And.intro (fun hb => ?_) (fun hb => ?_)
      · have hil : i < a.m := by have h1 : (i : Int) < (a.m : Int) := of_decide_eq_true hb; omega
        have hi0 : (0 : Int) ≤ (i : Int) := by omega
        have hia : (i : Int) < (a.m : Int) := by omega
        have hib : (i : Int) < (b.m : Int) := by omega
        have hin1 : -9223372036854775808 ≤ (i : Int) + 1 := by omega
        have hin2 : (i : Int) + 1 ≤ 9223372036854775807 := by omega
        have hkid := hp.2.2 i hil
        repeat' (first | exact hi0 | exact hia | exact hib | refine And.intro ?_ ?_ | exact trivial | exact rfl | exact sub_lc (fun a => sub_strN _ _ _ a) | exact sub_lc0 (fun a => sub_strN _ _ _ a) | exact fun (j : Nat) (hj : j < _) => Or.inl (sub_strN _ _ _ _) | exact sub_lc (fun a => sub_natN _ _ _ a) | exact fun (j : Nat) (hj : j < _) => Or.inl (sub_fx _ _ _ _ rfl hj) | exact sub_pTT rfl | exact sub_pCT rfl | exact sub_pTC rfl | exact sub_pCC rfl)
        refine Exists.intro (XP2.mk (a.kid i) (b.kid i)) (Exists.intro [] ?_)
        repeat' (first | exact hkid | refine And.intro ?_ ?_ | exact trivial | exact rfl | exact sub_lc (fun a => sub_strN _ _ _ a) | exact sub_lc0 (fun a => sub_strN _ _ _ a) | exact fun (j : Nat) (hj : j < _) => Or.inl (sub_strN _ _ _ _) | exact sub_lc (fun a => sub_natN _ _ _ a) | exact fun (j : Nat) (hj : j < _) => Or.inl (sub_fx _ _ _ _ rfl hj) | exact sub_pTT rfl | exact sub_pCT rfl | exact sub_pTC rfl | exact sub_pCC rfl)
        refine fun (_ : Unit) (_ : True) => ?_
        repeat' (first | refine And.intro ?_ ?_ | exact trivial | exact rfl)
        · refine fun (h3 : (!sameP (a.kid i) (b.kid i)) = true) => ?_
          have e1 := same_none (b := b) hil (by simpa using h3)
          repeat' (first | refine And.intro ?_ ?_ | exact trivial | exact rfl)
          refine Exists.intro () (And.intro trivial ?_)
          repeat' (first | exact e1 | refine And.intro ?_ ?_ | exact trivial | exact rfl)
        · refine fun (h3 : (!sameP (a.kid i) (b.kid i)) = false) => ?_
          have h4 : sameP (a.kid i) (b.kid i) = true := by simpa using h3
          repeat' (first | refine And.intro ?_ ?_ | exact trivial | exact rfl)
          · exact hin1
          · exact hin2
          refine Exists.intro (i + 1) (And.intro ⟨hil, fun j hj => ?_⟩ (And.intro ?_ ?_))
          · by_cases e : j = i
            · rw [e]; exact h4
            · exact hall j (by have : j < i + 1 := hj; omega)
          · repeat' (first | refine And.intro ?_ ?_ | exact trivial | exact rfl | exact sub_lc (fun a => sub_strN _ _ _ a) | exact sub_lc0 (fun a => sub_strN _ _ _ a) | exact fun (j : Nat) (hj : j < _) => Or.inl (sub_strN _ _ _ _) | exact sub_lc (fun a => sub_natN _ _ _ a) | exact fun (j : Nat) (hj : j < _) => Or.inl (sub_fx _ _ _ _ rfl hj) | exact sub_pTT rfl | exact sub_pCT rfl | exact sub_pTC rfl | exact sub_pCC rfl)
          · show a.m - (i + 1) < a.m - i
            omega
      · have hil : i = a.m := by have h1 : ¬ (i : Int) < (a.m : Int) := of_decide_eq_false hb; omega
        have e1 : true = sameP a b := same_all h2 (by rw [← hil]; exact hall)
        repeat' (first | refine And.intro ?_ ?_ | exact trivial | exact rfl)
        refine Exists.intro () (And.intro trivial ?_)
        repeat' (first | exact e1 | refine And.intro ?_ ?_ | exact trivial | exact rfl)
/-! ### A decision -/
def decision : Eng.Spec where
  X := Int
  args := fun c => .cons (.int .i64 c) .nil
  pre := fun _ => True
  res := fun c => .agg (.cons (.int .i64 (-1)) (.cons (.int .i64 c) (.cons .nilsl (.cons .nilsl .nil))))
  inst := fun
    | .cons (.int _ c) .nil => some c
    | _ => none
/-- gazetteer/gazetteerlaw38.decision -/
def g14 : List Nat := [0, 2]
def c14 : SCode :=
  .seq (.region g14 [⟨some 2, none, .alloc 28 (.cons (.int .i64 0) (.cons (.int .i64 0) (.cons (.nilsl) (.cons (.nilsl) .nil)))), []⟩]) (.seq (.region g14 [⟨some 3, none, .move (.s 0), []⟩, ⟨some 4, none, .build (.cons (.int .i64 0) (.cons (.int .i64 0) (.cons (.nilsl) (.cons (.nilsl) .nil)))) [(0, 1, .c (.int .i64 (-1))), (1, 1, .s 3)], []⟩, ⟨none, none, .store 4 (.s 2) (.s 4), []⟩]) .ret)
def r14 : List SRes := [.cell 2 4 true]
def k14 : List (Nat × Nat × SCode × Nat) := []
theorem e14 : cFunc Try.prog 14 g14 [] [] k14 = some (c14, r14, 5) := by kernel_rfl
theorem q14 : RgOk Try.prog k14 := RgOk.nil
theorem decision_ok : decision.Ok Try.prog 14 := by
  refine Eng.Spec.ok_of e14 q14 (fun _ => []) (fun _ _ => TabOk.nil) ?_
  intro c _
  refine ⟨trivial, ?_⟩
  repeat' (first | refine And.intro ?_ ?_ | exact trivial | exact rfl)
end A12
