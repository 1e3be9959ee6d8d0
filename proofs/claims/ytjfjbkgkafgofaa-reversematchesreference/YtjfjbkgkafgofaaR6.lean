/- A part of the proof: see the last text. -/
import Derived.Test.YtjfjbkgkafgofaaR5
open Go Go.Eng Go.Proofs R2 R3 R4 R1 R5
set_option maxRecDepth 100000
namespace R6
/-- (*gazetteer/reverse.Grid).Drop -/
def g14 : List Nat := [8, 6, 19, 0, 5, 1, 4]
def c14 : SCode :=
  .seq (.region g14 [⟨some 4, none, .move (.c (.int .i64 0)), []⟩]) (.seq (.seq (.region g14 [⟨some 7, none, .move (.s 0), []⟩, ⟨some 8, none, .ptrEq false (.s 7) (.c (.nilptr)), []⟩]) (.cond (.s 8) (.seq (.region g14 [⟨some 4, none, .move (.c (.int .i64 1)), []⟩]) .ret) .skip)) (.seq (.region g14 [⟨some 10, none, .move (.s 0), []⟩, ⟨some 11, none, .nilCheck (.s 10), []⟩, ⟨some 12, none, .fldA 0 (.s 11), []⟩, ⟨some 13, none, .load 1 false (.s 12), []⟩, ⟨some 14, none, .move (.s 1), []⟩, ⟨some 15, none, .mlook (.agg (.cons (.int .i64 0) (.cons (.int .i64 0) .nil))) true (.s) (.s 13) (.s 14), []⟩, ⟨some 9, none, .move (.s 15), []⟩, ⟨some 16, none, .extract 0 (.s 9), []⟩, ⟨some 17, none, .extract 1 (.s 9), []⟩, ⟨some 5, none, .alloc 38 (.cons (.int .i64 0) (.cons (.int .i64 0) .nil)), []⟩, ⟨none, none, .store 2 (.s 5) (.s 16), []⟩, ⟨some 6, none, .move (.s 17), []⟩]) (.seq (.seq (.region g14 [⟨some 18, none, .move (.s 6), []⟩, ⟨some 19, none, .not (.s 18), []⟩]) (.cond (.s 19) (.seq (.region g14 [⟨some 4, none, .move (.c (.int .i64 10)), []⟩]) .ret) .skip)) (.seq (.region g14 [⟨some 20, none, .move (.s 0), []⟩, ⟨some 21, none, .nilCheck (.s 20), []⟩, ⟨some 22, none, .fldA 0 (.s 21), []⟩, ⟨some 23, none, .load 1 false (.s 22), []⟩, ⟨some 24, none, .move (.s 1), []⟩, ⟨none, none, .mdele (.s) (.s 23) (.s 24), []⟩]) (.seq (.drawn g14 (.pure 0 ⟨some 25, none, .move (.s 0), []⟩ (.pure 1 ⟨some 26, none, .nilCheck (.s 25), []⟩ (.pure 2 ⟨some 27, none, .fldA 1 (.s 26), []⟩ (.pure 3 ⟨some 28, none, .load 1 false (.s 27), []⟩ (.pure 4 ⟨some 29, none, .load 2 true (.s 5), []⟩ (.pure 5 ⟨some 30, none, .call (.c (.fn 25)) [.s 29], []⟩ (.pure 7 ⟨some 32, none, .move (.s 1), []⟩ (.eff 6 ⟨some 31, none, .mlook (.nilmap) false (.a) (.s 28) (.s 30), []⟩ [] (.eff 8 ⟨none, none, .mdele (.s) (.s 31) (.s 32), []⟩ [] .done .none) .none))))))))) (.seq (.region g14 [⟨some 4, none, .move (.c (.int .i64 0)), []⟩]) .ret))))))
def r14 : List SRes := [.slot 4]
def k14 : List (Nat × Nat × SCode × Nat) := []
theorem e14 : cFunc Try.prog 14 g14 [] [] k14 = some (c14, r14, 33) := by kernel_rfl
theorem q14 : RgOk Try.prog k14 := RgOk.nil
def delIn (s : List UInt8) : Option (IL × Nat) → Option (IL × Nat)
  | some (l, c) => some (mdel l (.s s), c)
  | none => none
def dropG (g : G) (s : List UInt8) : Int × G :=
  match mget g.d (.s s) with
  | none => (10, g)
  | some (p, _) => (0, { g with d := mdel g.d (.s s), f := fun i => if i = cellN p then delIn s (g.f i) else g.f i })
theorem mget_mem {V : Type} {k : MKey} {v : V} {t : Nat} : ∀ {l : List (MKey × V × Nat)}, mget l k = some (v, t) → (k, v, t) ∈ l := by
  intro l
  induction l with
  | nil => intro h; cases h
  | cons x r ih =>
    intro h
    simp only [mget] at h
    by_cases e : x.1 = k
    · rw [if_pos e] at h
      obtain ⟨a, b, c⟩ := x
      simp only at e
      subst e
      cases h
      exact List.mem_cons_self ..
    · rw [if_neg e] at h
      exact List.mem_cons_of_mem _ (ih h)
/-- Of an address that is there: its cell, and the cell's map. -/
theorem cell_of {g : G} (hg : GOk g) {s : MKey} {p : Int × Int} {t : Nat} (h : mget g.d s = some (p, t)) : onB p = true ∧ (∃ t', mget g.c (cellK p) = some (cellN p, t')) ∧ ∃ il ic, g.f (cellN p) = some (il, ic) := by
  have hm := mget_mem h
  have hon : onB p = true := (hg.dv _ hm).2
  have hi : (g.f (cellN p)).isSome = true := hg.ix _ hm
  obtain ⟨q, hq⟩ := Option.isSome_iff_exists.1 hi
  refine ⟨hon, ?_, q.1, q.2, hq⟩
  cases hc : mget g.c (cellK p) with
  | none => rw [hg.cn p hon hc] at hi; cases hi
  | some x =>
    obtain ⟨v, t'⟩ := x
    obtain ⟨p', h1, h2, h3, _⟩ := hg.ck _ _ _ hc
    have : v = cellN p := by
      rw [h3]
      unfold cellK at h2
      unfold cellN
      injection h2 with h4 h5
      rw [h4, h5]
    exact ⟨t', by rw [this]⟩
def Drop : Eng.MSpec where
  X := G × List UInt8
  Y := Int × G
  args := fun x => .cons (.own 0 0) (.cons (.str x.2) .nil)
  pre := fun x => GOk x.1
  h0 := fun x => heap x.1
  nx0 := 4
  post := fun x y => y = dropG x.1 x.2
  res := fun _ y => .int .i64 y.1
  h1 := fun _ y => heap y.2
  nx1 := 4
set_option maxHeartbeats 1000000 in
theorem Drop_ok : Drop.Ok Try.prog 14 := by
  refine Eng.MSpec.ok_of e14 q14 (fun _ => [(25, .p ofP)]) (fun _ _ => TabOk.p ofP_ok TabOk.nil) ?_
  intro (x : G × List UInt8) hg
  replace hg : GOk x.1 := hg
  refine ⟨trivial, ?_⟩
  cases hm : mget x.1.d (.s x.2) with
  | none =>
    have e : dropG x.1 x.2 = (10, x.1) := by
      unfold dropG
      rw [hm]
    repeat' (first | refine MLook.of_none hm ?_ | refine And.intro ?_ ?_ | (refine fun (i : Nat) => ?_; first | exact same_in _ _ _ | exact same_ent (p := sub _ _ 20) (sub_pt _ _) i | (refine same_ent (p := sub _ _ 20) ?_ i; exact fun v => And.intro rfl rfl) | skip) | (refine fun hb => ?_; first | contradiction | skip) | exact trivial | exact rfl | refine Exists.intro (10, x.1) (And.intro e.symm ?_))
  | some y =>
    obtain ⟨p, t⟩ := y
    obtain ⟨hon, ⟨t', hc⟩, il, ic, hf⟩ := cell_of hg hm
    have e : dropG x.1 x.2 = (0, { x.1 with d := mdel x.1.d (.s x.2), f := fun i => if i = cellN p then delIn x.2 (x.1.f i) else x.1.f i }) := by
      unfold dropG
      rw [hm]
    have hfam : ∀ (k0 : Keep) hp0 i, subMem k0 hp0 (bif Nat.beq i (cellN p) then HObj.map Bool .s (mdel il (.s x.2)) ic SV.bool boD else inO (x.1.f i)) (inO (if i = cellN p then delIn x.2 (x.1.f i) else x.1.f i)) := by
      intro k0 hp0 i
      by_cases hi : i = cellN p
      · rw [if_pos hi, hi, hf, Nat.beq_refl]
        exact same_in k0 hp0 (some (mdel il (.s x.2), ic))
      · rw [if_neg hi]
        cases hb : Nat.beq i (cellN p) with
        | true => exact absurd (Nat.eq_of_beq_eq_true hb) hi
        | false => exact same_in _ _ _
    repeat' (first | refine MLook.of_some hm ?_ | refine MLook.of_none hm ?_ | refine MLook.of_some hc ?_ | refine And.intro ?_ ?_ | (refine fun hb => ?_; first | contradiction | skip) | exact trivial | exact rfl | exact hs | exact hon)
    all_goals
      refine Exists.intro (.map Bool .s il ic SV.bool boD) (And.intro (congrArg inO hf) ?_)
      repeat' (first | refine MLook.of_some hm ?_ | refine MLook.of_none hm ?_ | refine MLook.of_some hc ?_ | refine And.intro ?_ ?_ | (refine fun hb => ?_; first | contradiction | skip) | exact trivial | exact rfl | exact hs | exact hon)
      refine Exists.intro _ (And.intro e.symm ?_)
      repeat' (first | refine And.intro ?_ ?_ | (refine fun (i : Nat) => ?_; first | exact hfam _ _ i | exact same_in _ _ _ | exact same_ent (p := sub _ _ 20) (sub_pt _ _) i | (refine same_ent (p := sub _ _ 20) ?_ i; exact fun v => And.intro rfl rfl) | skip) | exact trivial | exact rfl)
end R6
