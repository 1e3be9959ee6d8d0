/- A part of the proof: see the last text. -/
import Derived.Test.YtnkkbbjljmbjbaaA14
open Go Go.Eng Go.Proofs A0 A1 A7 A9 A10 A14
set_option maxRecDepth 100000
namespace A22
/-- The contract S, handed things that are owned and let go of. -/
def relS (S : Eng.MSpec) (A : S.X → SV) (h : S.X → List (Nat × HObj)) (nx : Nat) : Eng.MSpec where
  X := S.X
  Y := S.Y
  args := A
  pre := S.pre
  h0 := h
  nx0 := nx
  post := S.post
  res := S.res
  h1 := fun _ _ => []
  nx1 := nx
  fresh := false
theorem hget_nil (id : Nat) : hget [] id = none := by
  unfold hget
  split <;> rfl
theorem rel_ok {P : Program} {f : Nat} {S : Eng.MSpec} (hS : S.Ok P f) (A : S.X → SV) (h : S.X → List (Nat × HObj)) (nx : Nat) (e0 : S.h0 = fun _ => []) (e1 : S.nx0 = 0) (e2 : S.h1 = fun _ _ => []) (e3 : S.nx1 = 0) (e4 : S.fresh = false)
    (hfam : ∀ x id, FB ≤ id → hget (h x) id = none) (hsub : ∀ x, S.pre x → sub .free (h x) 200 (A x) (S.args x)) : (relS S A h nx).Ok P f := by
  refine ⟨hS.call, fun x w μ vs T U hU hh hp hR => ?_⟩
  have hU' : ∀ b, (b < w.heap.size ∧ Plain w b) ∧ (U b ∨ T b) → b < w.heap.size ∧ Plain w b := fun b h => h.1
  have hF : (envOf (callCtx w T U μ nx) μ (h x) w).Freed .free (h x) (envOf (callCtx w (fun _ => False) (fun b => (b < w.heap.size ∧ Plain w b) ∧ (U b ∨ T b)) (fun _ => none) 0) (fun _ => none) [] w) := by
    refine ⟨fun _ => ⟨?_, fun _ _ => rfl⟩, fun id id' p e => (by cases e), fun d d' i p e => (by cases e), rfl, ?_⟩
    · intro b hb
      refine ⟨hb.1, ?_, fun id o c e => (by rw [hget_nil] at e; cases e), hb.2.2.2⟩
      rcases hb.2.1 with h1 | h1 | h1
      · exact .inl ⟨⟨hb.1, hb.2.2.2⟩, .inl h1⟩
      · exact .inl ⟨⟨hb.1, hb.2.2.2⟩, .inr h1⟩
      · exact .inr (.inr h1)
    · intro id o b c hg hm _
      refine ⟨hh.lt hg hm, ?_, fun id o c e => (by rw [hget_nil] at e; cases e), hh.obj.plain hg hm⟩
      rcases hh.mine _ _ _ _ hg hm with h1 | h1
      · exact .inl ⟨⟨hh.lt hg hm, hh.obj.plain hg hm⟩, .inr h1⟩
      · exact .inr (.inr h1)
  have h0 : HepAt (callCtx w (fun _ => False) (fun b => (b < w.heap.size ∧ Plain w b) ∧ (U b ∨ T b)) (fun _ => none) S.nx0) (fun _ => none) (S.h0 x) S.nx0 w := by
    rw [e0, e1]
    refine ⟨⟨fun id o e => (by cases e), fun id o e => ?_⟩, fun i i' o o' b c c' e => ?_, fun i o b c e => ?_, fun i o e => (by cases e), fun i p e => (by cases e), fun i p e => (by cases e), fun _ _ e => e, Frm.refl _ _⟩
    · rw [hget_nil] at e; cases e
    · rw [hget_nil] at e; cases e
    · rw [hget_nil] at e; cases e
  have hR0 : R (envOf (callCtx w (fun _ => False) (fun b => (b < w.heap.size ∧ Plain w b) ∧ (U b ∨ T b)) (fun _ => none) S.nx0) (fun _ => none) (S.h0 x) w) (S.args x) vs := by
    rw [e0, e1]
    exact sub_sound hF hh.obj 200 _ _ _ (hsub x hp) hR
  refine (hS.does x w (fun _ => none) vs (fun _ => False) (fun b => (b < w.heap.size ∧ Plain w b) ∧ (U b ∨ T b)) hU' h0 hp hR0).mono fun e w' he => ?_
  cases e with
  | returned v =>
    obtain ⟨y, μ', hpost, hh1, hR1⟩ := he
    rw [e1, e2, e3, e4] at hh1
    rw [e1, e2, e4] at hR1
    have hno : ∀ id p, μ' id ≠ some p := by
      intro id p e
      by_cases hn : id < FB
      · exact absurd (hh1.nx _ _ e hn) (Nat.not_lt_zero _)
      · obtain ⟨o, ho⟩ := hh1.fam _ _ e (Nat.not_lt.1 hn)
        rw [hget_nil] at ho
        cases ho
    refine ⟨y, μ, hpost, ?_, ?_⟩
    · refine ⟨⟨fun id o e => (by cases e), fun id o e => ?_⟩, fun i i' o o' b c c' e => ?_, fun i o b c e => ?_, fun i o e => (by cases e), hh.nx, fun i p e hi => ?_, fun _ _ e => e, ?_⟩
      · change hget [] id = some o at e
        rw [hget_nil] at e; cases e
      · change hget [] i = some o at e
        rw [hget_nil] at e; cases e
      · change hget [] i = some o at e
        rw [hget_nil] at e; cases e
      · obtain ⟨o, ho⟩ := hh.fam _ _ e hi
        exact absurd ho (by show ¬ hget (h x) i = some o; rw [hfam x i hi]; exact fun e => by cases e)
      · exact ⟨hh1.frm.os, hh1.frm.tape, hh1.frm.output, hh1.frm.size, fun b hb _ => hh1.frm.block b hb (fun e => e.elim), hh1.frm.drawn⟩
    · refine R_monoR (E := envOf (callCtx w (fun _ => False) (Ufresh false fun b => (b < w.heap.size ∧ Plain w b) ∧ (U b ∨ T b)) (fun _ => none) 0) μ' [] w') (E' := envOf (callCtx w T (Ufresh false U) μ nx) μ [] w') ⟨⟨?_, fun _ _ => rfl⟩, fun id p e => absurd e (hno id p)⟩ hR1
      intro b hb
      refine ⟨hb.1, ?_, fun id o c e => ?_, hb.2.2.2⟩
      · rcases hb.2.1 with h1 | h1 | h1
        · rcases h1.2.2 with h2 | h2
          · exact .inl ⟨rfl, h2⟩
          · exact .inr (.inl h2)
        · exact h1.elim
        · exact .inr (.inr h1)
      · change hget [] id = some o at e
        rw [hget_nil] at e; cases e
  | panicked _ => exact he.elim
  | outgrown => exact he.elim
/-- Few, with a number that is left unused. -/
def few1 : Eng.MSpec where
  X := Few.X
  Y := Few.Y
  args := Few.args
  pre := Few.pre
  h0 := Few.h0
  nx0 := Few.nx0
  post := Few.post
  res := Few.res
  h1 := Few.h1
  nx1 := Few.nx1 + 1
  fresh := Few.fresh
theorem few1_ok : few1.Ok Try.prog 8 := by
  refine ⟨Few_ok.call, fun x w μ vs T U hU hh hp hR => (Few_ok.does x w μ vs T U hU hh hp hR).mono fun e w' he => ?_⟩
  cases e with
  | returned v =>
    obtain ⟨y, μ', h1, h2, h3⟩ := he
    exact ⟨y, μ', h1, ⟨h2.obj, h2.inj, h2.mine, fun id o e => Nat.lt_succ_of_lt (h2.keys id o e), fun id p e h => Nat.lt_succ_of_lt (h2.nx id p e h), h2.fam, h2.pin, h2.frm⟩, h3⟩
  | panicked _ => exact he.elim
  | outgrown => exact he.elim
/-- Facts, owned or not. -/
structure XO where
  F : Fx
  own : Bool
  n : Nat
  enc : Nat → SV
def argO (x : XO) : SV := match x.own with
  | true => .cons (.lsl 0 1 x.n) .nil
  | false => .cons (fxE x.F) .nil
def hpO (x : XO) : List (Nat × HObj) := match x.own with
  | true => [(0, .arr 25 1 x.n x.enc)]
  | false => []
def makeX : Eng.MSpec where
  X := XO
  Y := Known × Int
  args := fun x => makeH.args x.F
  pre := fun x => makeH.pre x.F ∧ (x.own = true → x.n = x.F.n ∧ ∀ i, i < x.n → Imp (x.enc i) (fxC x.F i))
  h0 := fun _ => []
  nx0 := 0
  post := fun x y => y = makeV x.F
  res := fun _ y => .tup (.cons (.agg (plC y.1)) (.cons (.int .i64 y.1.d) (.cons (.int .i64 y.2) .nil)))
  h1 := fun _ _ => []
  nx1 := 0
  fresh := false
theorem makeX_ok : makeX.Ok Try.prog 9 :=
  ⟨makeH_ok.call, fun x w μ vs T U hU hh hp hR => makeH_ok.does x.F w μ vs T U hU hh hp.1 hR⟩
def makeO : Eng.MSpec := relS makeX argO hpO 1
theorem makeO_ok : makeO.Ok Try.prog 9 := by
  refine rel_ok makeX_ok _ _ 1 rfl rfl rfl rfl rfl ?_ ?_
  · intro x id hid
    have hn : ¬ id < FB := Nat.not_lt.2 hid
    unfold hget
    rw [if_neg hn]
    unfold hpO
    cases x.own with
    | true =>
      cases h : id % FB with
      | zero => rfl
      | succ n => rfl
    | false => rfl
  · rintro ⟨F, own, n, enc⟩ ⟨_, he⟩
    cases own with
    | true =>
      obtain ⟨hn, he⟩ := he rfl
      simp only at hn he
      subst hn
      refine And.intro ?_ trivial
      refine ⟨rfl, rfl, rfl, Nat.le_of_eq (Nat.zero_add _), fun i hi => .inr ⟨rfl, ?_⟩⟩
      show Imp (enc (0 + i)) (fxC F i)
      rw [Nat.zero_add]
      exact he i hi
    | false =>
      refine And.intro ?_ trivial
      exact ⟨rfl, rfl, rfl, fun i hi => .inr ⟨rfl, imp_cons (imp_tx _ _) imp_nil⟩⟩
end A22
