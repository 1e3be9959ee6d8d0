/- A part of the proof: see the last text. -/
import Derived.Test.YtjfjbkgkafgofaaR1
import Derived.Test.YtjfjbkgkafgofaaR4
open Go Go.Eng Go.Proofs R2 R3 R4 R1
set_option maxRecDepth 100000
namespace R5
abbrev DL := List (MKey × (Int × Int) × Nat)
abbrev IL := List (MKey × Bool × Nat)
abbrev CL := List (MKey × Nat × Nat)
structure G where
  d : DL
  dc : Nat
  c : CL
  cc : Nat
  f : Nat → Option (IL × Nat)
def cfE (i : Nat) : SV := .fmref 3 i
def cfD : SV → Option Nat
  | .fmref _ i => some i
  | _ => none
def boD : SV → Option Bool
  | .bool b => some b
  | _ => none
def inO : Option (IL × Nat) → HObj
  | some (l, c) => .map Bool .s l c SV.bool boD
  | none => .gone
def heap (g : G) : List (Nat × HObj) :=
  [(0, .cells 59 (.cons (.mref 1) (.cons (.mref 2) .nil))), (1, .map (Int × Int) .s g.d g.dc ptE ptD), (2, .map Nat .a g.c g.cc cfE cfD), (3, .fam fun i => inO (g.f i))]
def cellK (p : Int × Int) : MKey := .a (p.1 / 1024) (p.2 / 1024)
def cellN (p : Int × Int) : Nat := (32 * (p.1 / 1024) + p.2 / 1024).toNat
/-- All is in order. -/
structure GOk (g : G) : Prop where
  dt : ∀ x ∈ g.d, x.2.2 < g.dc
  dk : (g.d.map (·.1)).Nodup
  dv : ∀ x ∈ g.d, (∃ s, x.1 = .s s) ∧ onB x.2.1 = true
  ct : ∀ x ∈ g.c, x.2.2 < g.cc
  ck : ∀ k v t, mget g.c k = some (v, t) → ∃ p, onB p = true ∧ k = cellK p ∧ v = cellN p ∧ (g.f v).isSome = true
  cn : ∀ p, onB p = true → mget g.c (cellK p) = none → g.f (cellN p) = none
  ix : ∀ x ∈ g.d, (g.f (cellN x.2.1)).isSome = true
  it : ∀ i l c, g.f i = some (l, c) → (∀ x ∈ l, x.2.2 < c) ∧ (l.map (·.2.2)).Nodup ∧ (l.map (·.1)).Nodup ∧ ∀ s, s ∈ l.map (·.1) ↔ ∃ x ∈ g.d, x.1 = s ∧ cellN x.2.1 = i

def withCell (g : G) (p : Int × Int) : G :=
  match mget g.c (cellK p) with
  | some _ => g
  | none => { g with c := g.c ++ [(cellK p, cellN p, g.cc)], cc := g.cc + 1, f := fun i => if i = cellN p then some ([], 0) else g.f i }
def addIn (s : List UInt8) : Option (IL × Nat) → Option (IL × Nat)
  | some (l, c) => some (mset (l ++ [(.s s, false, c)]) c true, c + 1)
  | none => none
def putG (g : G) (a : Adr) : Int × G :=
  if isNameB a.door = true ∧ onB a.p = true then
    match mget g.d (.s a.door) with
    | some _ => (8, g)
    | none => if 20000 ≤ g.d.length then (22, g) else
      let g := withCell g a.p
      (0, { g with d := mset (g.d ++ [(.s a.door, (0, 0), g.dc)]) g.dc a.p, dc := g.dc + 1, f := fun i => if i = cellN a.p then addIn a.door (g.f i) else g.f i })
  else (1, g)
/-- (*gazetteer/reverse.Grid).Put -/
def g12 : List Nat := [1, 21, 6, 32, 38, 48, 0, 7, 3, 4]
def c12 : SCode :=
  .seq (.region g12 [⟨some 3, none, .box 40 (.s 1), []⟩, ⟨some 4, none, .move (.c (.int .i64 0)), []⟩]) (.seq (.seq (.region g12 [⟨some 8, none, .move (.s 0), []⟩, ⟨some 9, none, .ptrEq false (.s 8) (.c (.nilptr)), []⟩, ⟨some 10, none, .move (.s 9), []⟩, ⟨some 11, some (10, false), .fldA 0 (.s 3), []⟩, ⟨some 12, some (10, false), .load 1 false (.s 11), []⟩, ⟨some 13, some (10, false), .call (.c (.fn 24)) [.s 12], []⟩, ⟨some 14, some (10, false), .not (.s 13), []⟩, ⟨some 15, none, .pick (.s 10) (.c (.bool true)) (.s 14), []⟩, ⟨some 16, none, .move (.s 15), []⟩, ⟨some 17, some (16, false), .fldA 9 (.s 3), []⟩, ⟨some 18, some (16, false), .load 2 true (.s 17), []⟩, ⟨some 19, some (16, false), .call (.c (.fn 19)) [.s 18], []⟩, ⟨some 20, some (16, false), .not (.s 19), []⟩, ⟨some 21, none, .pick (.s 16) (.c (.bool true)) (.s 20), []⟩]) (.cond (.s 21) (.seq (.region g12 [⟨some 4, none, .move (.c (.int .i64 1)), []⟩]) .ret) .skip)) (.seq (.seq (.drawn g12 (.pure 0 ⟨some 23, none, .move (.s 0), []⟩ (.pure 1 ⟨some 24, none, .nilCheck (.s 23), []⟩ (.pure 2 ⟨some 25, none, .fldA 0 (.s 24), []⟩ (.pure 3 ⟨some 26, none, .load 1 false (.s 25), []⟩ (.pure 4 ⟨some 27, none, .fldA 0 (.s 3), []⟩ (.pure 5 ⟨some 28, none, .load 1 false (.s 27), []⟩ (.eff 6 ⟨some 29, none, .mlook (.agg (.cons (.int .i64 0) (.cons (.int .i64 0) .nil))) true (.s) (.s 26) (.s 28), []⟩ [] (.pure 7 ⟨some 22, none, .move (.s 29), []⟩ (.pure 8 ⟨some 30, none, .extract 0 (.s 22), []⟩ (.pure 9 ⟨some 31, none, .extract 1 (.s 22), []⟩ (.eff 10 ⟨some 5, none, .alloc 38 (.cons (.int .i64 0) (.cons (.int .i64 0) .nil)), []⟩ [⟨some 28, none, .load 1 false (.s 27), []⟩, ⟨some 26, none, .load 1 false (.s 25), []⟩] (.eff 11 ⟨none, none, .store 2 (.s 5) (.s 30), []⟩ [] (.pure 12 ⟨some 6, none, .move (.s 31), []⟩ .done) .none) .none)))) (.eff 10 ⟨some 5, none, .alloc 38 (.cons (.int .i64 0) (.cons (.int .i64 0) .nil)), []⟩ [⟨some 28, none, .load 1 false (.s 27), []⟩, ⟨some 26, none, .load 1 false (.s 25), []⟩] (.eff 6 ⟨some 29, none, .mlook (.agg (.cons (.int .i64 0) (.cons (.int .i64 0) .nil))) true (.s) (.s 26) (.s 28), []⟩ [] (.pure 7 ⟨some 22, none, .move (.s 29), []⟩ (.pure 8 ⟨some 30, none, .extract 0 (.s 22), []⟩ (.pure 9 ⟨some 31, none, .extract 1 (.s 22), []⟩ (.eff 11 ⟨none, none, .store 2 (.s 5) (.s 30), []⟩ [] (.pure 12 ⟨some 6, none, .move (.s 31), []⟩ .done) .none)))) .none) .none))))))))) (.seq (.region g12 [⟨some 32, none, .move (.s 6), []⟩]) (.cond (.s 32) (.seq (.region g12 [⟨some 4, none, .move (.c (.int .i64 8)), []⟩]) .ret) .skip))) (.seq (.seq (.region g12 [⟨some 33, none, .move (.s 0), []⟩, ⟨some 34, none, .nilCheck (.s 33), []⟩, ⟨some 35, none, .fldA 0 (.s 34), []⟩, ⟨some 36, none, .load 1 false (.s 35), []⟩, ⟨some 37, none, .mlen (.s 36), []⟩, ⟨some 38, none, .bin (.geq) (.s 37) (.c (.int .i64 20000)), []⟩]) (.cond (.s 38) (.seq (.region g12 [⟨some 4, none, .move (.c (.int .i64 22)), []⟩]) .ret) .skip)) (.seq (.region g12 [⟨some 39, none, .fldA 9 (.s 3), []⟩, ⟨some 40, none, .load 2 true (.s 39), []⟩, ⟨some 41, none, .call (.c (.fn 25)) [.s 40], []⟩, ⟨some 7, none, .alloc 65 (.cons (.int .i64 0) (.cons (.int .i64 0) .nil)), []⟩, ⟨none, none, .store 2 (.s 7) (.s 41), []⟩]) (.seq (.seq (.drawn g12 (.pure 0 ⟨some 42, none, .move (.s 0), []⟩ (.pure 1 ⟨some 43, none, .nilCheck (.s 42), []⟩ (.pure 2 ⟨some 44, none, .fldA 1 (.s 43), []⟩ (.pure 3 ⟨some 45, none, .load 1 false (.s 44), []⟩ (.pure 4 ⟨some 46, none, .load 2 true (.s 7), []⟩ (.eff 5 ⟨some 47, none, .mlook (.nilmap) false (.a) (.s 45) (.s 46), []⟩ [] (.pure 6 ⟨some 48, none, .mapEq false (.s 47) (.c (.nilmap)), []⟩ .done) .none))))))) (.cond (.s 48) (.drawn g12 (.pure 0 ⟨some 49, none, .move (.s 0), []⟩ (.pure 1 ⟨some 50, none, .nilCheck (.s 49), []⟩ (.pure 2 ⟨some 51, none, .fldA 1 (.s 50), []⟩ (.pure 3 ⟨some 52, none, .load 1 false (.s 51), []⟩ (.pure 4 ⟨some 53, none, .load 2 true (.s 7), []⟩ (.eff 5 ⟨some 54, none, .mkmap (.s), []⟩ [⟨some 53, none, .load 2 true (.s 7), []⟩, ⟨some 52, none, .load 1 false (.s 51), []⟩] (.eff 6 ⟨none, none, .mupd (.a) (.s 52) (.s 53) (.s 54), []⟩ [] .done .none) .none))))))) .skip)) (.seq (.drawn g12 (.pure 0 ⟨some 55, none, .move (.s 0), []⟩ (.pure 1 ⟨some 56, none, .nilCheck (.s 55), []⟩ (.pure 2 ⟨some 57, none, .fldA 0 (.s 56), []⟩ (.pure 3 ⟨some 58, none, .load 1 false (.s 57), []⟩ (.pure 4 ⟨some 59, none, .fldA 0 (.s 3), []⟩ (.pure 5 ⟨some 60, none, .load 1 false (.s 59), []⟩ (.pure 6 ⟨some 61, none, .move (.s 0), []⟩ (.pure 7 ⟨some 62, none, .nilCheck (.s 61), []⟩ (.pure 8 ⟨some 63, none, .fldA 1 (.s 62), []⟩ (.pure 9 ⟨some 64, none, .load 1 false (.s 63), []⟩ (.pure 10 ⟨some 65, none, .load 2 true (.s 7), []⟩ (.pure 12 ⟨some 67, none, .fldA 0 (.s 3), []⟩ (.pure 13 ⟨some 68, none, .load 1 false (.s 67), []⟩ (.pure 14 ⟨some 69, none, .fldA 9 (.s 3), []⟩ (.pure 15 ⟨some 70, none, .load 2 true (.s 69), []⟩ (.eff 11 ⟨some 66, none, .mlook (.nilmap) false (.a) (.s 64) (.s 65), []⟩ [⟨some 70, none, .load 2 true (.s 69), []⟩, ⟨some 68, none, .load 1 false (.s 67), []⟩, ⟨some 60, none, .load 1 false (.s 59), []⟩, ⟨some 58, none, .load 1 false (.s 57), []⟩] (.eff 16 ⟨some 71, none, .ment (.agg (.cons (.int .i64 0) (.cons (.int .i64 0) .nil))) (.s) (.s 58) (.s 60), []⟩ [⟨some 70, none, .load 2 true (.s 69), []⟩, ⟨some 68, none, .load 1 false (.s 67), []⟩] (.pure 17 ⟨some 72, none, .extract 1 (.s 71), []⟩ (.eff 18 ⟨none, none, .mesto (.s 58) (.s 72) (.s 70), []⟩ [⟨some 68, none, .load 1 false (.s 67), []⟩] (.eff 19 ⟨some 73, none, .ment (.bool false) (.s) (.s 66) (.s 68), []⟩ [] (.pure 20 ⟨some 74, none, .extract 1 (.s 73), []⟩ (.eff 21 ⟨none, none, .mesto (.s 66) (.s 74) (.c (.bool true)), []⟩ [] .done .none)) .none) .none)) .none) .none))))))))))))))))) (.seq (.region g12 [⟨some 4, none, .move (.c (.int .i64 0)), []⟩]) .ret)))))))
def r12 : List SRes := [.slot 4]
def k12 : List (Nat × Nat × SCode × Nat) := []
theorem e12 : cFunc Try.prog 12 g12 [] [] k12 = some (c12, r12, 75) := by kernel_rfl
theorem q12 : RgOk Try.prog k12 := RgOk.nil
theorem no_some {α : Type} {a : α} (h : some a = none) : False := by cases h
theorem no_none {α : Type} {a : α} (h : none = some a) : False := by cases h
theorem no_tf (h : true = false) : False := by cases h
theorem no_ft (h : false = true) : False := by cases h
theorem same_ent {V : Type} {l : List (MKey × V × Nat)} {p : SV → SV → Prop} {ev : V → SV} (h : ∀ v, p (ev v) (ev v)) :
    ∀ (i : Nat) (x y : MKey × V × Nat), l[i]? = some x → l[i]? = some y → x.1 = y.1 ∧ x.2.2 = y.2.2 ∧ p (ev x.2.1) (ev y.2.1) := by
  intro i x y h1 h2
  cases Option.some.inj (h1.symm.trans h2)
  exact ⟨rfl, rfl, h _⟩
theorem same_in (k : Keep) (hp : List (Nat × HObj)) (o : Option (IL × Nat)) : subMem k hp (inO o) (inO o) := by
  cases o with
  | none => rfl
  | some q => exact ⟨rfl, rfl, rfl, same_ent (p := sub k hp 20) fun v => rfl⟩
theorem sub_pt (k : Keep) (hp : List (Nat × HObj)) (v : Int × Int) : sub k hp 20 (ptE v) (ptE v) := by
  repeat' (first | refine And.intro ?_ ?_ | exact rfl | exact trivial)
theorem same_some {α β : Type} {a c : α} {b d : β} (h : some (a, b) = some (c, d)) : a = c ∧ b = d := by cases h; exact ⟨rfl, rfl⟩
theorem mget_none {V : Type} {k : MKey} : ∀ {l : List (MKey × V × Nat)}, mget l k = none ↔ k ∉ l.map (·.1) := by
  intro l
  induction l with
  | nil => simp [mget]
  | cons x r ih =>
    simp only [mget, List.map_cons, List.mem_cons, not_or]
    by_cases h : x.1 = k
    · simp [h]
    · rw [if_neg h, ih]
      exact ⟨fun e => ⟨fun e' => h e'.symm, e⟩, fun e => e.2⟩
theorem mget_new {V : Type} {k : MKey} {v : V} {t : Nat} : ∀ {l : List (MKey × V × Nat)}, mget l k = none → mget (l ++ [(k, v, t)]) k = some (v, t) := by
  intro l
  induction l with
  | nil => intro _; simp [mget]
  | cons x r ih =>
    intro h
    simp only [mget, List.cons_append] at h ⊢
    by_cases e : x.1 = k
    · simp [e] at h
    · rw [if_neg e] at h ⊢
      exact ih h
theorem same_new {k : Keep} {hp : List (Nat × HObj)} {door : List UInt8} : ∀ (i : Nat) (x : MKey × SV × Nat) (y : MKey × Bool × Nat), [(MKey.s door, SV.bool true, 0)][i]? = some x → [(MKey.s door, true, 0)][i]? = some y → x.1 = y.1 ∧ x.2.2 = y.2.2 ∧ sub k hp 20 (id x.2.1) (SV.bool y.2.1) := by
  intro i x y h1 h2
  match i, h1, h2 with
  | 0, h1, h2 => cases h1; cases h2; exact ⟨rfl, rfl, rfl⟩
  | n + 1, h1, _ => cases h1
theorem mget_nil {V : Type} (k : MKey) : mget ([] : List (MKey × V × Nat)) k = none := rfl
theorem sub_fam {k : Keep} {hp : List (Nat × HObj)} {f : Nat → HObj} {h : Nat → Option (IL × Nat)} (e : ∀ i, f i = inO (h i)) : ∀ i, subMem k hp (f i) (inO (h i)) := by
  intro i
  rw [e i]
  exact same_in _ _ _
def Put : Eng.MSpec where
  X := G × Adr
  Y := Int × G
  args := fun x => .cons (.own 0 0) (.cons (adE x.2) .nil)
  pre := fun x => GOk x.1 ∧ (x.2.door.length : Int) ≤ 9223372036854775807
  h0 := fun x => heap x.1
  nx0 := 4
  post := fun x y => y = putG x.1 x.2
  res := fun _ y => .int .i64 y.1
  h1 := fun _ y => heap y.2
  nx1 := 4
set_option maxHeartbeats 2000000 in
theorem Put_ok : Put.Ok Try.prog 12 := by
  refine Eng.MSpec.ok_of e12 q12 (fun _ => [(24, .p isName), (19, .p On), (25, .p ofP)]) (fun _ _ => TabOk.p isName_ok (TabOk.p On_ok (TabOk.p ofP_ok TabOk.nil))) ?_
  intro (x : G × Adr) ⟨hg, hs⟩
  replace hs : (x.2.door.length : Int) ≤ 9223372036854775807 := hs
  refine ⟨trivial, ?_⟩
  have hcond : pickB (pickB false (.c (.bool true)) (.s 14) true (!isNameB x.2.door)) (.c (.bool true)) (.s 20) true (!onB x.2.p) = !(isNameB x.2.door && onB x.2.p) := by
    rw [pickB_or, pickB_or]
    cases isNameB x.2.door <;> cases onB x.2.p <;> rfl
  cases hv : (isNameB x.2.door && onB x.2.p) with
  | false =>
    rw [hv] at hcond
    simp only [Bool.not_false] at hcond
    have e : putG x.1 x.2 = (1, x.1) := by
      unfold putG
      rw [if_neg]
      rw [← Bool.and_eq_true, hv]
      decide
    repeat' (first | refine And.intro ?_ ?_ | (refine fun (i : Nat) => ?_; first | exact same_in _ _ _ | exact same_ent (p := sub _ _ 20) (sub_pt _ _) i | (refine same_ent (p := sub _ _ 20) ?_ i; exact fun v => And.intro rfl rfl) | skip) | (refine fun hb => ?_; first | contradiction | exact (no_tf (hcond.symm.trans hb)).elim | exact (no_ft (hcond.symm.trans hb)).elim | skip) | exact trivial | exact rfl | exact hs | refine Exists.intro (1, x.1) (And.intro e.symm ?_))
  | true =>
    rw [hv] at hcond
    simp only [Bool.not_true] at hcond
    have hv2 : isNameB x.2.door = true ∧ onB x.2.p = true := by simpa using hv
    cases hm : mget x.1.d (.s x.2.door) with
    | some y =>
      obtain ⟨yv, yt⟩ := y
      have e : putG x.1 x.2 = (8, x.1) := by
        unfold putG
        rw [if_pos hv2, hm]
      repeat' (first | refine MLook.of_some hm ?_ | refine And.intro ?_ ?_ | (refine fun (i : Nat) => ?_; first | exact same_in _ _ _ | exact same_ent (p := sub _ _ 20) (sub_pt _ _) i | (refine same_ent (p := sub _ _ 20) ?_ i; exact fun v => And.intro rfl rfl) | skip) | (refine fun hb => ?_; first | contradiction | exact (no_tf (hcond.symm.trans hb)).elim | exact (no_ft (hcond.symm.trans hb)).elim | skip) | exact trivial | exact rfl | exact hs | refine Exists.intro (8, x.1) (And.intro e.symm ?_))
    | none =>
      cases h20 : decide ((20000 : Int) ≤ (x.1.d.length : Int)) with
      | true =>
        have e : putG x.1 x.2 = (22, x.1) := by
          have := of_decide_eq_true h20
          unfold putG
          rw [if_pos hv2, hm]
          exact if_pos (by omega)
        repeat' (first | refine MLook.of_none hm ?_ | refine And.intro ?_ ?_ | (refine fun (i : Nat) => ?_; first | exact same_in _ _ _ | exact same_ent (p := sub _ _ 20) (sub_pt _ _) i | (refine same_ent (p := sub _ _ 20) ?_ i; exact fun v => And.intro rfl rfl) | skip) | (refine fun hb => ?_; first | contradiction | exact (no_tf (hcond.symm.trans hb)).elim | exact (no_ft (hcond.symm.trans hb)).elim | exact (no_tf (h20.symm.trans hb)).elim | exact (no_ft (h20.symm.trans hb)).elim | skip) | exact trivial | exact rfl | exact hs | exact hv2.2 | refine Exists.intro (22, x.1) (And.intro e.symm ?_))
      | false =>
        have h20' : ¬ 20000 ≤ x.1.d.length := by
          have := of_decide_eq_false h20
          omega
        cases hc : mget x.1.c (cellK x.2.p) with
        | some q =>
          obtain ⟨qv, qt⟩ := q
          obtain ⟨p', _, _, _, hsome⟩ := hg.ck _ _ _ hc
          obtain ⟨q, hf⟩ := Option.isSome_iff_exists.1 hsome
          obtain ⟨il, ic⟩ := q
          have hqv : qv = cellN x.2.p := by
            obtain ⟨p', h1, h2, h3, _⟩ := hg.ck _ _ _ hc
            rw [h3]
            unfold cellK at h2
            unfold cellN
            injection h2 with h4 h5
            rw [h4, h5]
          have e : putG x.1 x.2 = (0, { x.1 with d := mset (x.1.d ++ [(.s x.2.door, (0, 0), x.1.dc)]) x.1.dc x.2.p, dc := x.1.dc + 1, f := fun i => if i = cellN x.2.p then addIn x.2.door (x.1.f i) else x.1.f i }) := by
            unfold putG
            rw [if_pos hv2, hm]
            dsimp only
            rw [if_neg h20']
            simp only [withCell, hc]
          have hfam : ∀ i, (bif Nat.beq i qv then HObj.map Bool .s (mset (il ++ [(.s x.2.door, false, ic)]) ic true) (ic + 1) SV.bool boD else bif Nat.beq i qv then HObj.map Bool .s (il ++ [(.s x.2.door, false, ic)]) (ic + 1) SV.bool boD else inO (x.1.f i)) = inO (if i = cellN x.2.p then addIn x.2.door (x.1.f i) else x.1.f i) := by
            intro i
            by_cases hi : i = cellN x.2.p
            · rw [if_pos hi, hi, ← hqv, hf, Nat.beq_refl]
              rfl
            · rw [if_neg hi]
              cases hb : Nat.beq i qv with
              | true => exact absurd ((Nat.eq_of_beq_eq_true hb).trans hqv) hi
              | false => rfl
          have hil : mget il (.s x.2.door) = none := by
            rw [mget_none]
            intro hmem
            obtain ⟨y, hy1, hy2, _⟩ := ((hg.it _ _ _ hf).2.2.2 _).1 hmem
            exact (mget_none.1 hm) (List.mem_map.2 ⟨y, hy1, hy2⟩)
          repeat' (first | refine MLook.of_some hc ?_ | refine MLook.of_none hm ?_ | refine MLook.of_none hil ?_ | refine And.intro ?_ ?_ | (refine fun hb => ?_; first | contradiction | exact (no_tf (hcond.symm.trans hb)).elim | exact (no_ft (hcond.symm.trans hb)).elim | exact (no_tf (h20.symm.trans hb)).elim | exact (no_ft (h20.symm.trans hb)).elim | skip) | exact trivial | exact rfl | exact hs | exact hv2.2)
          all_goals
            refine ⟨x.1.dc, rfl, ⟨_, List.mem_append_right _ (List.mem_cons_self ..), rfl⟩, ?_⟩
            repeat' (first | refine MLook.of_some hc ?_ | refine MLook.of_none hm ?_ | refine MLook.of_none hil ?_ | refine And.intro ?_ ?_ | (refine fun hb => ?_; first | contradiction | exact (no_tf (hcond.symm.trans hb)).elim | exact (no_ft (hcond.symm.trans hb)).elim | exact (no_tf (h20.symm.trans hb)).elim | exact (no_ft (h20.symm.trans hb)).elim | skip) | exact trivial | exact rfl | exact hs | exact hv2.2)
            refine Exists.intro (.map Bool .s il ic SV.bool boD) (And.intro (congrArg inO hf) ?_)
            repeat' (first | refine MLook.of_some hc ?_ | refine MLook.of_none hm ?_ | refine MLook.of_none hil ?_ | refine And.intro ?_ ?_ | (refine fun hb => ?_; first | contradiction | exact (no_tf (hcond.symm.trans hb)).elim | exact (no_ft (hcond.symm.trans hb)).elim | exact (no_tf (h20.symm.trans hb)).elim | exact (no_ft (h20.symm.trans hb)).elim | skip) | exact trivial | exact rfl | exact hs | exact hv2.2)
            refine Exists.intro (.map Bool .s (il ++ [(.s x.2.door, false, ic)]) (ic + 1) SV.bool boD) (And.intro (congrArg (fun b => bif b then _ else _) (Nat.beq_refl qv)) ?_)
            repeat' (first | refine MLook.of_some hc ?_ | refine MLook.of_none hm ?_ | refine MLook.of_none hil ?_ | refine And.intro ?_ ?_ | (refine fun hb => ?_; first | contradiction | exact (no_tf (hcond.symm.trans hb)).elim | exact (no_ft (hcond.symm.trans hb)).elim | exact (no_tf (h20.symm.trans hb)).elim | exact (no_ft (h20.symm.trans hb)).elim | skip) | exact trivial | exact rfl | exact hs | exact hv2.2)
            refine Exists.intro ic (And.intro rfl (And.intro ⟨_, List.mem_append_right _ (List.mem_cons_self ..), rfl⟩ ?_))
            repeat' (first | refine MLook.of_some hc ?_ | refine MLook.of_none hm ?_ | refine MLook.of_none hil ?_ | refine And.intro ?_ ?_ | (refine fun hb => ?_; first | contradiction | exact (no_tf (hcond.symm.trans hb)).elim | exact (no_ft (hcond.symm.trans hb)).elim | exact (no_tf (h20.symm.trans hb)).elim | exact (no_ft (h20.symm.trans hb)).elim | skip) | exact trivial | exact rfl | exact hs | exact hv2.2)
            refine Exists.intro _ (And.intro e.symm ?_)
            repeat' (first | refine And.intro ?_ ?_ | (refine fun (i : Nat) => ?_; first | exact sub_fam hfam i | exact same_ent (p := sub _ _ 20) (sub_pt _ _) i | (refine same_ent (p := sub _ _ 20) ?_ i; exact fun v => And.intro rfl rfl)) | exact trivial | exact rfl)
        | none =>
          have hfn : x.1.f (cellN x.2.p) = none := hg.cn _ hv2.2 hc
          have e : putG x.1 x.2 = (0, { x.1 with d := mset (x.1.d ++ [(.s x.2.door, (0, 0), x.1.dc)]) x.1.dc x.2.p, dc := x.1.dc + 1, c := x.1.c ++ [(cellK x.2.p, cellN x.2.p, x.1.cc)], cc := x.1.cc + 1, f := fun i => if i = cellN x.2.p then addIn x.2.door (if i = cellN x.2.p then some ([], 0) else x.1.f i) else (if i = cellN x.2.p then some ([], 0) else x.1.f i) }) := by
            unfold putG
            rw [if_pos hv2, hm]
            dsimp only
            rw [if_neg h20']
            simp only [withCell, hc]
          have hfam : ∀ k0 hp0 i, subMem k0 hp0 (bif Nat.beq i (cellN x.2.p) then HObj.map SV .s (mset ([] ++ [(.s x.2.door, SV.bool false, 0)]) 0 (SV.bool true)) (0 + 1) id some else bif Nat.beq i (cellN x.2.p) then HObj.map SV .s ([] ++ [(.s x.2.door, SV.bool false, 0)]) (0 + 1) id some else bif Nat.beq i (cellN x.2.p) then HObj.map SV .s [] 0 id some else inO (x.1.f i)) (inO (if i = cellN x.2.p then addIn x.2.door (if i = cellN x.2.p then some ([], 0) else x.1.f i) else (if i = cellN x.2.p then some ([], 0) else x.1.f i))) := by
            intro k0 hp0 i
            by_cases hi : i = cellN x.2.p
            · rw [if_pos hi, if_pos hi, hi, Nat.beq_refl]
              exact ⟨rfl, rfl, rfl, same_new⟩
            · rw [if_neg hi, if_neg hi]
              cases hb : Nat.beq i (cellN x.2.p) with
              | true => exact absurd (Nat.eq_of_beq_eq_true hb) hi
              | false => exact same_in _ _ _
          have hc2 : mget (x.1.c ++ [(cellK x.2.p, cellN x.2.p, x.1.cc)]) (cellK x.2.p) = some (cellN x.2.p, x.1.cc) := mget_new hc
          repeat' (first | refine MLook.of_some hc2 ?_ | refine MLook.of_none hc ?_ | refine MLook.of_none hm ?_ | refine MLook.of_none (mget_nil _) ?_ | refine And.intro ?_ ?_ | (refine fun hb => ?_; first | contradiction | exact (no_tf (hcond.symm.trans hb)).elim | exact (no_ft (hcond.symm.trans hb)).elim | exact (no_tf (h20.symm.trans hb)).elim | exact (no_ft (h20.symm.trans hb)).elim | skip) | exact trivial | exact rfl | exact hs | exact hv2.2)
          all_goals
            refine Exists.intro (cellN x.2.p) (And.intro (congrArg inO hfn) ?_)
            repeat' (first | refine MLook.of_some hc2 ?_ | refine MLook.of_none hc ?_ | refine MLook.of_none hm ?_ | refine MLook.of_none (mget_nil _) ?_ | refine And.intro ?_ ?_ | (refine fun hb => ?_; first | contradiction | exact (no_tf (hcond.symm.trans hb)).elim | exact (no_ft (hcond.symm.trans hb)).elim | exact (no_tf (h20.symm.trans hb)).elim | exact (no_ft (h20.symm.trans hb)).elim | skip) | exact trivial | exact rfl | exact hs | exact hv2.2)
            refine ⟨x.1.dc, rfl, ⟨_, List.mem_append_right _ (List.mem_cons_self ..), rfl⟩, ?_⟩
            repeat' (first | refine MLook.of_some hc2 ?_ | refine MLook.of_none hc ?_ | refine MLook.of_none hm ?_ | refine MLook.of_none (mget_nil _) ?_ | refine And.intro ?_ ?_ | (refine fun hb => ?_; first | contradiction | exact (no_tf (hcond.symm.trans hb)).elim | exact (no_ft (hcond.symm.trans hb)).elim | exact (no_tf (h20.symm.trans hb)).elim | exact (no_ft (h20.symm.trans hb)).elim | skip) | exact trivial | exact rfl | exact hs | exact hv2.2)
            refine Exists.intro (.map SV .s [] 0 id some) (And.intro (congrArg (fun b => bif b then _ else _) (Nat.beq_refl (cellN x.2.p))) ?_)
            repeat' (first | refine MLook.of_some hc2 ?_ | refine MLook.of_none hc ?_ | refine MLook.of_none hm ?_ | refine MLook.of_none (mget_nil _) ?_ | refine And.intro ?_ ?_ | (refine fun hb => ?_; first | contradiction | exact (no_tf (hcond.symm.trans hb)).elim | exact (no_ft (hcond.symm.trans hb)).elim | exact (no_tf (h20.symm.trans hb)).elim | exact (no_ft (h20.symm.trans hb)).elim | skip) | exact trivial | exact rfl | exact hs | exact hv2.2)
            refine Exists.intro (.map SV .s ([] ++ [(.s x.2.door, SV.bool false, 0)]) (0 + 1) id some) (And.intro (congrArg (fun b => bif b then _ else _) (Nat.beq_refl (cellN x.2.p))) ?_)
            repeat' (first | refine MLook.of_some hc2 ?_ | refine MLook.of_none hc ?_ | refine MLook.of_none hm ?_ | refine MLook.of_none (mget_nil _) ?_ | refine And.intro ?_ ?_ | (refine fun hb => ?_; first | contradiction | exact (no_tf (hcond.symm.trans hb)).elim | exact (no_ft (hcond.symm.trans hb)).elim | exact (no_tf (h20.symm.trans hb)).elim | exact (no_ft (h20.symm.trans hb)).elim | skip) | exact trivial | exact rfl | exact hs | exact hv2.2)
            refine Exists.intro 0 (And.intro rfl (And.intro ⟨_, List.mem_append_right _ (List.mem_cons_self ..), rfl⟩ ?_))
            repeat' (first | refine MLook.of_some hc2 ?_ | refine MLook.of_none hc ?_ | refine MLook.of_none hm ?_ | refine MLook.of_none (mget_nil _) ?_ | refine And.intro ?_ ?_ | (refine fun hb => ?_; first | contradiction | exact (no_tf (hcond.symm.trans hb)).elim | exact (no_ft (hcond.symm.trans hb)).elim | exact (no_tf (h20.symm.trans hb)).elim | exact (no_ft (h20.symm.trans hb)).elim | skip) | exact trivial | exact rfl | exact hs | exact hv2.2)
            refine Exists.intro _ (And.intro e.symm ?_)
            repeat' (first | refine And.intro ?_ ?_ | (refine fun (i : Nat) => ?_; first | exact hfam _ _ i | exact same_ent (p := sub _ _ 20) (sub_pt _ _) i | (refine same_ent (p := sub _ _ 20) ?_ i; exact fun v => And.intro rfl rfl)) | exact trivial | exact rfl)
end R5
