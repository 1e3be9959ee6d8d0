/- The engine, part 9d: maps: what the operations do. -/
import Derived.Test.YtcckdpimimkejaaEngQ
import Derived.MapKept
import Derived.WideKeyRuns
import Derived.ChangeKeysEq
namespace Go.Eng
open Go Go.RowKit

universe u
/-! ### Entries -/
def mget {V : Type u} : List (MKey × V × Nat) → MKey → Option (V × Nat)
  | [], _ => none
  | x :: r, k => if x.1 = k then some x.2 else mget r k
/-- The value of a key that is there is set. -/
def mput {V : Type u} : List (MKey × V × Nat) → MKey → V → List (MKey × V × Nat)
  | [], _, _ => []
  | x :: r, k, v => if x.1 = k then (k, v, x.2.2) :: r else x :: mput r k v
def mdel {V : Type u} : List (MKey × V × Nat) → MKey → List (MKey × V × Nat)
  | [], _ => []
  | x :: r, k => if x.1 = k then r else x :: mdel r k
/-- The value of the entry with a stamp is set. -/
def mset {V : Type u} : List (MKey × V × Nat) → Nat → V → List (MKey × V × Nat)
  | [], _, _ => []
  | x :: r, t, v => if x.2.2 = t then (x.1, v, t) :: r else x :: mset r t v

section
variable {P : Program} {w : World}

theorem parts2 {e : TypeId} {k : IntKind} (h1 : P.underlying e = some (.int k)) (a b : Int) (j : Nat) (hj : j < 2) :
    (part e #[Value.int .i64 a, Value.int .i64 b] (j * 1)).run P w = .ok (if j = 0 then .int .i64 a else .int .i64 b) w := by
  have : j = 0 ∨ j = 1 := by omega
  rcases this with rfl | rfl <;> simp [part, isAgg, run_underlying_e w h1]

theorem key_check' {kt : TypeId} {kk : KK} (hk : kkOf P kt = some kk) {x : MKey} (hx : x.kind = kk) (em : Bool) (n : Nat) : (Instr.checkKey em (n + 2) kt x.val).run P w = .ok () w := by
  unfold kkOf at hk
  split at hk
  · rename_i h; cases hk
    cases x <;> simp [MKey.kind] at hx
    simp [Instr.checkKey, run_underlying_e w h, MKey.val]
  · rename_i k h; cases hk
    cases x <;> simp [MKey.kind] at hx
    simp [Instr.checkKey, run_underlying_e w h, MKey.val]
  · rename_i e h
    split at hk
    · rename_i i h1 h2
      split at hk
      · rename_i hsz
        cases hk
        cases x <;> simp [MKey.kind] at hx
        rename_i a b
        have sz := run_sizeOf_e w h2
        rw [hsz] at sz
        have p0 := parts2 (w := w) h1 a b 0 (by omega)
        have p1 := parts2 (w := w) h1 a b 1 (by omega)
        rw [Instr.checkKey]
        simp only [MKey.val, Sem.run_bind, run_underlying_e w h, Result.andThen_ok]
        simp only [Std.Legacy.Range.forIn_eq_forIn_range', Std.Legacy.Range.size]
        simp [List.range', sz, p0, p1, Instr.checkKey, run_underlying_e w h1]
      · cases hk
    · cases hk
  · cases hk
theorem key_check {kt : TypeId} {kk : KK} (hk : kkOf P kt = some kk) {x : MKey} (hx : x.kind = kk) (em : Bool) : (Instr.checkKey em 10000 kt x.val).run P w = .ok () w := key_check' hk hx em 9998

theorem bytes_eq (a b : List UInt8) : ((⟨a.toArray⟩ : ByteArray) == ⟨b.toArray⟩) = decide (a = b) := by
  rw [Bool.eq_iff_iff, MapKept.bytes_beq]
  simp

theorem int_beq (a b : Int) : (a == b) = decide (a = b) := by
  rw [Bool.eq_iff_iff]; simp

theorem key_equal' {kt : TypeId} {kk : KK} (hk : kkOf P kt = some kk) {x y : MKey} (hx : x.kind = kk) (hy : y.kind = kk) (n : Nat) : (Op.equalIn (n + 2) kt x.val y.val).run P w = .ok (decide (x = y)) w := by
  unfold kkOf at hk
  split at hk
  · rename_i h; cases hk
    cases x <;> simp [MKey.kind] at hx
    cases y <;> simp [MKey.kind] at hy
    rename_i a b
    simp only [Op.equalIn, Sem.run_bind, run_underlying_e w h, MKey.val, Result.andThen_ok, Sem.run_pure, bytes_eq, MKey.s.injEq]
  · rename_i k h; cases hk
    cases x <;> simp [MKey.kind] at hx
    cases y <;> simp [MKey.kind] at hy
    subst hx hy
    simp [Op.equalIn, run_underlying_e w h, MKey.val, int_beq]
  · rename_i e h
    split at hk
    · rename_i i h1 h2
      split at hk
      · rename_i hsz
        cases hk
        cases x <;> simp [MKey.kind] at hx
        cases y <;> simp [MKey.kind] at hy
        rename_i a b c d
        have sz := run_sizeOf_e w h2
        rw [hsz] at sz
        have p0 := parts2 (w := w) h1 a b 0 (by omega)
        have p1 := parts2 (w := w) h1 a b 1 (by omega)
        have q0 := parts2 (w := w) h1 c d 0 (by omega)
        have q1 := parts2 (w := w) h1 c d 1 (by omega)
        have hc : P.cellsOf e = 1 := by simp [Program.cellsOf, h2, hsz]
        have eq1 : ∀ (a b : Int), (Op.equalIn (n + 1) e (.int .i64 a) (.int .i64 b)).run P w = .ok (decide (a = b)) w := by
          intro a b
          simp [Op.equalIn, run_underlying_e w h1, int_beq]
        rw [show n + 2 = (n + 1) + 1 from rfl]
        simp only [MKey.val]
        rw [run_equalIn_array w (n + 1) _ _ h h2, hc]
        have : List.range 2 = [0, 1] := rfl
        rw [this]
        have n1 : ¬ ((1 : Nat) = 0) := by decide
        rw [if_neg n1] at p1 q1
        rw [if_pos rfl] at p0 q0
        have tail : (Op.eqItems (n + 1) e 1 #[Value.int .i64 a, Value.int .i64 b] #[Value.int .i64 c, Value.int .i64 d] [1]).run P w = .ok (decide (b = d)) w := by
          unfold Op.eqItems
          rw [Sem.run_bind, p1, Result.andThen_ok, Sem.run_bind, q1, Result.andThen_ok, Sem.run_bind, eq1, Result.andThen_ok]
          by_cases e2 : b = d
          · simp [e2, Op.eqItems]
          · simp [e2]
        unfold Op.eqItems
        rw [Sem.run_bind, p0, Result.andThen_ok, Sem.run_bind, q0, Result.andThen_ok, Sem.run_bind, eq1, Result.andThen_ok]
        by_cases e1 : a = c
        · rw [if_neg (by simp [e1]), tail]
          simp [e1]
        · rw [if_pos (by simp [e1])]
          simp [e1]
      · cases hk
    · cases hk
  · cases hk
theorem key_equal {kt : TypeId} {kk : KK} (hk : kkOf P kt = some kk) {x y : MKey} (hx : x.kind = kk) (hy : y.kind = kk) : (Op.equal kt x.val y.val).run P w = .ok (decide (x = y)) w := key_equal' hk hx hy 9998

theorem key_same' {x : MKey} (n : Nat) : Instr.sameBits (n + 2) x.val x.val = true := by
  cases x <;> simp [MKey.val, Instr.sameBits, bytes_eq]
theorem key_stays (x : MKey) : (Instr.keyThatStays x.val x.val).run P w = .ok x.val w := by
  have : Instr.sameBits 10000 x.val x.val = true := key_same' 9998
  simp [Instr.keyThatStays, this]
/-- The first entry with a key. -/
def fnd {V : Type} (k : MKey) : List (MKey × V × Nat) → List MapEntry → Nat → Option (Nat × Value)
  | x :: r, e :: t, i => if x.1 = k then some (i, e.val) else fnd k r t (i + 1)
  | _, _, _ => none

theorem findAsking_run {kt : TypeId} {kk : KK} (hk : kkOf P kt = some kk) {k : MKey} (hkd : k.kind = kk) {E : Env} {V : Type} {ev : V → SV} :
    ∀ (l : List (MKey × V × Nat)) (es : List MapEntry) (i : Nat), EntR E ev l es → (∀ x ∈ l, x.1.kind = kk) → (Instr.findAsking kt k.val es i).run P w = .ok (fnd k l es i) w := by
  intro l
  induction l with
  | nil => intro es i h _; simp only [EntR] at h; subst h; simp [Instr.findAsking, fnd]
  | cons x r ih =>
    intro es i h hkk
    obtain ⟨e, t, rfl, h2, h3, h4, h5⟩ := h
    have := key_equal (w := w) hk hkd (hkk x (List.mem_cons_self ..))
    rw [← h2] at this
    unfold Instr.findAsking
    rw [Sem.run_bind, this, Result.andThen_ok]
    by_cases e1 : k = x.1
    · simp [fnd, e1]
    · have e2 : ¬ x.1 = k := fun e => e1 e.symm
      rw [if_neg (by simp [e1]), ih t (i + 1) h5 (fun y hy => hkk y (List.mem_cons_of_mem _ hy))]
      simp [fnd, e2]

theorem findNow_run {d : TypeDesc} {k : MKey} (hd : (d = .string ∧ k.kind = .s) ∨ ∃ q, d = .int q ∧ k.kind = .i q) {E : Env} {V : Type} {ev : V → SV} :
    ∀ (l : List (MKey × V × Nat)) (es : List MapEntry) (i : Nat), EntR E ev l es → (∀ x ∈ l, x.1.kind = k.kind) → Instr.findNow d k.val es i = some (fnd k l es i) := by
  intro l
  induction l with
  | nil => intro es i h _; simp only [EntR] at h; subst h; simp [Instr.findNow, fnd]
  | cons x r ih =>
    intro es i h hkk
    obtain ⟨e, t, rfl, h2, h3, h4, h5⟩ := h
    have hsame : Instr.sameNow d k.val e.key = some (decide (k = x.1)) := by
      rw [h2]
      have hx := hkk x (List.mem_cons_self ..)
      rcases hd with ⟨rfl, hs⟩ | ⟨q, rfl, hs⟩ <;> rw [hs] at hx <;> cases k <;> simp [MKey.kind] at hs <;> (generalize x.1 = y at hx) <;> cases y <;> simp [MKey.kind] at hx
      · simp [Instr.sameNow, MKey.val, bytes_eq]
      · subst hs hx
        simp [Instr.sameNow, MKey.val, int_beq]
    unfold Instr.findNow
    rw [hsame]
    by_cases e1 : k = x.1
    · simp [fnd, e1]
    · have e2 : ¬ x.1 = k := fun e => e1 e.symm
      simp only [e1, decide_false]
      rw [ih t (i + 1) h5 (fun y hy => hkk y (List.mem_cons_of_mem _ hy))]
      simp [fnd, e2]

theorem find_run {kt : TypeId} {kk : KK} (hk : kkOf P kt = some kk) {k : MKey} (hkd : k.kind = kk) {E : Env} {V : Type} {ev : V → SV} {l : List (MKey × V × Nat)} {es : List MapEntry} (h : EntR E ev l es) (hkk : ∀ x ∈ l, x.1.kind = kk) :
    (Instr.findKey kt k.val es).run P w = .ok (fnd k l es 0) w := by
  have hk0 := hk
  unfold kkOf at hk
  split at hk
  · rename_i hd
    cases hk
    have := findNow_run (.inl ⟨rfl, hkd⟩) l es 0 h (by rw [hkd]; exact hkk)
    simp [Instr.findKey, run_underlying_e w hd, this]
  · rename_i q hd
    cases hk
    have := findNow_run (.inr ⟨q, rfl, hkd⟩) l es 0 h (by rw [hkd]; exact hkk)
    simp [Instr.findKey, run_underlying_e w hd, this]
  · rename_i e hd
    rw [run_findKey_eq w (by rw [hd])]
    exact findAsking_run hk0 hkd l es 0 h hkk
  · cases hk

/-- What is found, and the entries when it is changed or taken away. -/
theorem fnd_spec {E : Env} {V : Type} {ev : V → SV} {k : MKey} : ∀ (l : List (MKey × V × Nat)) (es : List MapEntry) (i : Nat), EntR E ev l es →
    (mget l k = none ∧ fnd k l es i = none) ∨
    ∃ v t j e, mget l k = some (v, t) ∧ fnd k l es i = some (i + j, e.val) ∧ es[j]? = some e ∧ e.key = k.val ∧ R E (ev v) [e.val] ∧ e.born = t ∧ EntR E ev (mdel l k) (es.eraseIdx j) ∧
      ∀ (v' : V) (u : Value), R E (ev v') [u] → EntR E ev (mput l k v') (es.modify j fun e => { e with key := k.val, val := u }) := by
  intro l
  induction l with
  | nil => intro es i h; simp only [EntR] at h; subst h; exact .inl ⟨rfl, rfl⟩
  | cons x r ih =>
    intro es i h
    obtain ⟨e, t, rfl, h2, h3, h4, h5⟩ := h
    by_cases e1 : x.1 = k
    · refine .inr ⟨x.2.1, x.2.2, 0, e, by simp [mget, e1], by simp [fnd, e1], rfl, by rw [h2, e1], h3, h4, ?_, ?_⟩
      · simpa [mdel, e1] using h5
      · intro v' u hu
        simp only [mput, e1, if_true]
        exact ⟨{ e with key := k.val, val := u }, t, by simp, rfl, hu, h4, h5⟩
    · rcases ih t (i + 1) h5 with ⟨a1, a2⟩ | ⟨v, tt, j, e', a1, a2, a3, a4, a5, a6, a7, a8⟩
      · exact .inl ⟨by simp [mget, e1, a1], by simp [fnd, e1, a2]⟩
      · refine .inr ⟨v, tt, j + 1, e', by simp [mget, e1, a1], by simp [fnd, e1, a2]; omega, by simpa using a3, a4, a5, a6, ?_, ?_⟩
        · simp only [mdel, e1, if_false, List.eraseIdx_cons_succ]
          exact ⟨e, _, rfl, h2, h3, h4, a7⟩
        · intro v' u hu
          simp only [mput, e1, if_false, List.modify_succ_cons]
          exact ⟨e, _, rfl, h2, h3, h4, a8 v' u hu⟩

theorem EntR_append {E : Env} {V : Type} {ev : V → SV} : ∀ {l m : List (MKey × V × Nat)} {es fs : List MapEntry}, EntR E ev l es → EntR E ev m fs → EntR E ev (l ++ m) (es ++ fs) := by
  intro l
  induction l with
  | nil => intro m es fs h hm; simp only [EntR] at h; subst h; exact hm
  | cons x r ih =>
    intro m es fs h hm
    obtain ⟨e, t, rfl, h2, h3, h4, h5⟩ := h
    exact ⟨e, t ++ fs, rfl, h2, h3, h4, ih h5 hm⟩
theorem EntR_length {E : Env} {V : Type} {ev : V → SV} : ∀ {l : List (MKey × V × Nat)} {es : List MapEntry}, EntR E ev l es → es.length = l.length := by
  intro l
  induction l with
  | nil => intro es h; simp only [EntR] at h; subst h; rfl
  | cons x r ih => intro es h; obtain ⟨e, t, rfl, _, _, _, h5⟩ := h; simp [ih h5]
theorem EntR_ev {E : Env} {V V' : Type} {ev : V → SV} {ev' : V' → SV} {g : V → V'} (h : ∀ v, ev' (g v) = ev v) : ∀ {l : List (MKey × V × Nat)} {es : List MapEntry}, EntR E ev l es → EntR E ev' (l.map fun x => (x.1, g x.2.1, x.2.2)) es := by
  intro l
  induction l with
  | nil => intro es hh; exact hh
  | cons x r ih =>
    intro es hh
    obtain ⟨e, t, h1, h2, h3, h4, h5⟩ := hh
    exact ⟨e, t, h1, h2, by rw [h]; exact h3, h4, ih h5⟩
theorem kinds_mput {V : Type} {kk : KK} {k : MKey} (hk : k.kind = kk) (v : V) : ∀ {l : List (MKey × V × Nat)}, (∀ x ∈ l, x.1.kind = kk) → ∀ x ∈ mput l k v, x.1.kind = kk := by
  intro l
  induction l with
  | nil => intro _ x hx; cases hx
  | cons y r ih =>
    intro h x hx
    simp only [mput] at hx
    split at hx
    · rcases List.mem_cons.1 hx with rfl | hx
      · exact hk
      · exact h x (List.mem_cons_of_mem _ hx)
    · rcases List.mem_cons.1 hx with rfl | hx
      · exact h _ (List.mem_cons_self ..)
      · exact ih (fun z hz => h z (List.mem_cons_of_mem _ hz)) x hx
theorem kinds_mdel {V : Type} {kk : KK} {k : MKey} : ∀ {l : List (MKey × V × Nat)}, (∀ x ∈ l, x.1.kind = kk) → ∀ x ∈ mdel l k, x.1.kind = kk := by
  intro l
  induction l with
  | nil => intro _ x hx; cases hx
  | cons y r ih =>
    intro h x hx
    simp only [mdel] at hx
    split at hx
    · exact h x (List.mem_cons_of_mem _ hx)
    · rcases List.mem_cons.1 hx with rfl | hx
      · exact h _ (List.mem_cons_self ..)
      · exact ih (fun z hz => h z (List.mem_cons_of_mem _ hz)) x hx
theorem kinds_mset {V : Type} {kk : KK} {t : Nat} {v : V} : ∀ {l : List (MKey × V × Nat)}, (∀ x ∈ l, x.1.kind = kk) → ∀ x ∈ mset l t v, x.1.kind = kk := by
  intro l
  induction l with
  | nil => intro _ x hx; cases hx
  | cons y r ih =>
    intro h x hx
    simp only [mset] at hx
    split at hx
    · rcases List.mem_cons.1 hx with rfl | hx
      · exact h y (List.mem_cons_self ..)
      · exact h x (List.mem_cons_of_mem _ hx)
    · rcases List.mem_cons.1 hx with rfl | hx
      · exact h _ (List.mem_cons_self ..)
      · exact ih (fun z hz => h z (List.mem_cons_of_mem _ hz)) x hx
/-- The entry with a stamp. -/
theorem mset_spec {E : Env} {V : Type} {ev : V → SV} {t : Nat} {v' : V} {u : Value} (hu : R E (ev v') [u]) : ∀ (l : List (MKey × V × Nat)) (es : List MapEntry), EntR E ev l es → (∃ x ∈ l, x.2.2 = t) →
    ∃ j, es.findIdx? (fun e => (e.born : Int) == (t : Int)) = some j ∧ EntR E ev (mset l t v') (es.modify j fun e => { e with val := u }) := by
  intro l
  induction l with
  | nil => intro es _ ⟨x, hx, _⟩; cases hx
  | cons x r ih =>
    intro es h hx
    obtain ⟨e, es', rfl, h2, h3, h4, h5⟩ := h
    by_cases e1 : x.2.2 = t
    · refine ⟨0, ?_, ?_⟩
      · simp [List.findIdx?_cons, h4, e1]
      · simp only [mset, e1, if_true]
        exact ⟨{ e with val := u }, es', by simp, h2, hu, h4.trans e1, h5⟩
    · obtain ⟨y, hy, hyt⟩ := hx
      have hy' : ∃ y ∈ r, y.2.2 = t := by
        rcases List.mem_cons.1 hy with rfl | hy
        · exact absurd hyt e1
        · exact ⟨y, hy, hyt⟩
      obtain ⟨j, j1, j2⟩ := ih es' h5 hy'
      refine ⟨j + 1, ?_, ?_⟩
      · have : ¬ (e.born : Int) = (t : Int) := by rw [h4]; omega
        simp [List.findIdx?_cons, this] at j1 ⊢
        exact j1
      · simp only [mset, e1, if_false, List.modify_succ_cons]
        exact ⟨e, _, rfl, h2, h3, h4, j2⟩
end
end Go.Eng
