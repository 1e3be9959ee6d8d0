/- A part of the proof: see the last text. -/
import Derived.Test.YtjfjbkgkafgofaaR7
open Go Go.Eng Go.Proofs R2 R3 R4 R1 R5 R6 R7
set_option maxRecDepth 100000
namespace R8
/-- gazetteer/reverse.New -/
def g10 : List Nat := [0, 13, 15, 12, 6, 22, 7, 14, 4, 2, 3]
def c10 : SCode :=
  .seq (.region g10 [⟨some 2, none, .move (.c (.nilptr)), []⟩, ⟨some 3, none, .move (.c (.int .i64 0)), []⟩]) (.seq (.region g10 [⟨some 8, none, .mkmap (.s), []⟩, ⟨some 9, none, .mkmap (.a), []⟩, ⟨some 10, none, .build (.cons (.nilmap) (.cons (.nilmap) .nil)) [(0, 1, .s 8), (1, 1, .s 9)], []⟩, ⟨some 11, none, .box 59 (.s 10), []⟩, ⟨some 4, none, .move (.s 11), []⟩]) (.seq (.seq (.region g10 [⟨some 12, none, .move (.s 0), []⟩, ⟨some 13, none, .lenSl (.s 12), []⟩, ⟨some 14, none, .move (.c (.int .i64 0)), []⟩]) (.block 0 (.loop 0 [15, 16, 17, 6, 18, 19, 20, 7, 21, 22, 23, 2, 3, 24, 14] (.seq (.region g10 [⟨some 15, none, .bin (.lss) (.s 14) (.s 13), []⟩]) (.seq (.cond (.s 15) .skip (.exit 0)) (.seq (.block 1 (.seq (.region g10 [⟨some 16, none, .idxSl 11 (.s 12) (.s 14), []⟩, ⟨some 17, none, .load 11 true (.s 16), []⟩, ⟨some 6, none, .alloc 40 (.cons (.str []) (.cons (.str []) (.cons (.str []) (.cons (.str []) (.cons (.str []) (.cons (.int .i64 0) (.cons (.str []) (.cons (.int .i64 0) (.cons (.int .i64 0) (.cons (.int .i64 0) (.cons (.int .i64 0) .nil))))))))))), []⟩, ⟨none, none, .store 11 (.s 6) (.s 17), []⟩]) (.seq (.region g10 [⟨some 18, none, .move (.s 4), []⟩, ⟨some 19, none, .load 11 true (.s 6), []⟩, ⟨some 20, none, .call (.c (.fn 12)) [.s 18, .s 19], []⟩, ⟨some 7, none, .move (.s 20), []⟩]) (.seq (.region g10 [⟨some 21, none, .move (.s 7), []⟩, ⟨some 22, none, .bin (.neq) (.s 21) (.c (.int .i64 0)), []⟩]) (.cond (.s 22) (.seq (.region g10 [⟨some 23, none, .move (.s 7), []⟩, ⟨some 2, none, .move (.c (.nilptr)), []⟩, ⟨some 3, none, .move (.s 23), []⟩]) .ret) .skip))))) (.region g10 [⟨some 24, none, .bin (.add) (.s 14) (.c (.int .i64 1)), []⟩, ⟨some 14, none, .move (.s 24), []⟩]))))))) (.seq (.region g10 [⟨some 25, none, .move (.s 4), []⟩, ⟨some 2, none, .move (.s 25), []⟩, ⟨some 3, none, .move (.c (.int .i64 0)), []⟩]) .ret)))
def r10 : List SRes := [.slot 2, .slot 3]
def k10 : List (Nat × Nat × SCode × Nat) := []
theorem e10 : cFunc Try.prog 10 g10 [] [] k10 = some (c10, r10, 26) := by kernel_rfl
theorem q10 : RgOk Try.prog k10 := RgOk.nil
/-- The Grid behind the first i addresses. -/
def putN (a : Nat → Adr) : Nat → G
  | 0 => G0
  | i + 1 => (putG (putN a i) (a i)).2
def codeN (a : Nat → Adr) (i : Nat) : Int := (putG (putN a i) (a i)).1
theorem putN_ok (a : Nat → Adr) : ∀ i, GOk (putN a i) := by
  intro i
  induction i with
  | zero => exact G0_ok
  | succ i ih => exact put_ok ih _
def newV (x : Adrs) (y : Int × Option G) : Prop :=
  ((∀ j, j < x.n → codeN x.a j = 0) ∧ y = (0, some (putN x.a x.n))) ∨ ∃ i, i < x.n ∧ (∀ j, j < i → codeN x.a j = 0) ∧ codeN x.a i ≠ 0 ∧ y = (codeN x.a i, none)
theorem same_rn (k : Keep) (hp : List (Nat × HObj)) (l r : List (Nat × Nat)) (o : Option (IL × Nat)) : subMem k hp (rnO l r (inO o)) (inO o) := by
  cases o with
  | none => rfl
  | some q => exact ⟨rfl, rfl, rfl, same_ent (p := sub k hp 20) fun v => rfl⟩
theorem no_ent {V W : Type} {P : MKey × V × Nat → W → Prop} {l : List W} : ∀ (i : Nat) (x : MKey × V × Nat) (y : W), ([] : List (MKey × V × Nat))[i]? = some x → l[i]? = some y → P x y := by
  intro i x y h
  cases h
def heapL (i j k : Nat) (g : G) : List (Nat × HObj) :=
  [(i, .cells 59 (.cons (.mref j) (.cons (.mref k) .nil))), (j, .map (Int × Int) .s g.d g.dc ptE ptD), (k, .map Nat .a g.c g.cc cfE cfD), (3, .fam fun i => inO (g.f i))]
def optH : Option G → List (Nat × HObj)
  | some g => heap g
  | none => []
def optE : Option G → SV
  | some _ => .own 0 0
  | none => .val (.pointer none)
def New : Eng.MSpec where
  X := Adrs
  Y := Int × Option G
  args := fun x => .cons (.slice 11 x.n fun i => adL (x.a i)) .nil
  pre := fun x => (x.n : Int) ≤ 9223372036854775806 ∧ ∀ i, i < x.n → ((x.a i).door.length : Int) ≤ 9223372036854775807
  h0 := fun _ => []
  nx0 := 0
  post := newV
  res := fun _ y => .tup (.cons (optE y.2) (.cons (.int .i64 y.1) .nil))
  h1 := fun _ y => optH y.2
  nx1 := 4
theorem New_ok : New.Ok Try.prog 10 := by
  refine Eng.MSpec.ok_of e10 q10 (fun _ => [(12, .m Put)]) (fun _ _ => TabOk.m Put_ok TabOk.nil) ?_
  intro (x : Adrs) ⟨hn, hs⟩
  replace hn : (x.n : Int) ≤ 9223372036854775806 := hn
  refine ⟨trivial, ?_⟩
  refine ⟨⟨Nat × G, fun q => q.1 ≤ x.n ∧ q.2 = putN x.a q.1 ∧ ∀ j, j < q.1 → codeN x.a j = 0, fun q => [(14, .int .i64 (q.1 : Int))], fun q => heapL 2 0 1 q.2, fun q => x.n - q.1⟩, (0, G0), ⟨Nat.zero_le _, rfl, fun j hj => by cases hj⟩, ?_, ?_⟩
  · repeat' (first | refine And.intro ?_ ?_ | exact trivial | exact rfl | exact (fun _ _ _ h => absurd h (by simp)) | exact (fun _ _ h => absurd h (by simp)) | refine fun (i : Nat) (_ : i < _) => ?_ | exact fun _ => rfl)
  rintro ⟨i, g⟩ ⟨hi, hgi, hall⟩
  replace hi : i ≤ x.n := hi
  replace hgi : g = putN x.a i := hgi
  replace hall : ∀ j, j < i → codeN x.a j = 0 := hall
  refine ⟨fun hlt => ?_, fun hge => ?_⟩
  · have hlt' : i < x.n := by simpa using hlt
    have hg : GOk g := by rw [hgi]; exact putN_ok x.a i
    have hai := hs i hlt'
    repeat' (first | refine And.intro ?_ ?_ | exact trivial | exact rfl | exact same_ent (p := sub _ _ 20) (sub_pt _ _) | (refine same_ent (p := sub _ _ 20) ?_; exact fun v => And.intro rfl rfl) | exact fun i => same_in _ _ _ | exact fun i => same_rn _ _ _ _ _ | refine fun (i : Nat) (_ : i < _) => ?_ | omega | refine Exists.intro (g, x.a i) (Exists.intro [2, 0, 1, 3] ?_) | exact hg | exact hai | refine fun (y : Int × G) (hy : y = putG g (x.a i)) => ?_ | (refine fun (hb : _ = _) => ?_))
    · have hc : codeN x.a i = y.1 := by rw [hy, hgi]; rfl
      have hb' : codeN x.a i ≠ 0 := by
        have : ¬ y.1 = 0 := by simpa using hb
        rw [hc]
        exact this
      refine Exists.intro (y.1, none) (And.intro (.inr ⟨i, hlt', hall, hb', by rw [hc]⟩) ?_)
      repeat' (first | refine And.intro ?_ ?_ | exact trivial | exact rfl | exact same_ent (p := sub _ _ 20) (sub_pt _ _) | (refine same_ent (p := sub _ _ 20) ?_; exact fun v => And.intro rfl rfl) | exact fun i => same_in _ _ _ | exact fun i => same_rn _ _ _ _ _ | refine fun (i : Nat) (_ : i < _) => ?_)
    · have hc : codeN x.a i = y.1 := by rw [hy, hgi]; rfl
      have hb' : codeN x.a i = 0 := by
        have : y.1 = 0 := by simpa using hb
        rw [hc]
        exact this
      repeat' (first | refine And.intro ?_ ?_ | exact trivial | exact rfl | exact same_ent (p := sub _ _ 20) (sub_pt _ _) | (refine same_ent (p := sub _ _ 20) ?_; exact fun v => And.intro rfl rfl) | exact fun i => same_in _ _ _ | exact fun i => same_rn _ _ _ _ _ | refine fun (i : Nat) (_ : i < _) => ?_ | omega)
      refine ⟨(i + 1, y.2), ⟨hlt', by rw [hy, hgi]; rfl, fun j hj => ?_⟩, ?_, ?_⟩
      · by_cases e : j = i
        · rw [e]; exact hb'
        · have hj' : j < i + 1 := hj
          exact hall j (by omega)
      · repeat' (first | refine And.intro ?_ ?_ | exact trivial | exact rfl | exact same_ent (p := sub _ _ 20) (sub_pt _ _) | (refine same_ent (p := sub _ _ 20) ?_; exact fun v => And.intro rfl rfl) | exact fun i => same_in _ _ _ | exact fun i => same_rn _ _ _ _ _ | refine fun (i : Nat) (_ : i < _) => ?_ | omega)
      · show x.n - (i + 1) < x.n - i
        omega
  · have hge' : ¬ i < x.n := by simpa using hge
    have hin : i = x.n := by omega
    refine Exists.intro (0, some g) (And.intro (.inl ⟨by rw [← hin]; exact hall, by rw [← hin, hgi]⟩) ?_)
    repeat' (first | refine And.intro ?_ ?_ | exact trivial | exact rfl | exact same_ent (p := sub _ _ 20) (sub_pt _ _) | (refine same_ent (p := sub _ _ 20) ?_; exact fun v => And.intro rfl rfl) | exact fun i => same_in _ _ _ | exact fun i => same_rn _ _ _ _ _ | refine fun (i : Nat) (_ : i < _) => ?_)
end R8
