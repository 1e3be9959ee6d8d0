/- A part of the proof: see the last text. -/
import Derived.Test.YtnkkbbjljmbjbaaA5
open Go Go.Eng Go.Proofs A0 A1 A2 A3 A4 A5
set_option maxRecDepth 100000
namespace A6
abbrev NL := List (MKey × Nat × Nat)
def nuE (v : Nat) : SV := .int .u64 (v : Int)
def nuD : SV → Option Nat
  | .int _ n => some n.toNat
  | _ => none
def ansL (F : Fx) (q : Nat) (P : List Nat) : Ss := P.map fun i => F.a i q
/-- The set of those that give an answer. -/
def mk (F : Fx) (q : Nat) (a : List UInt8) : List Nat → Nat
  | [] => 0
  | i :: r => if F.a i q = a then mk F q a r ||| 2 ^ i else mk F q a r
structure XC where
  F : Fx
  s : Nat
  q : Nat
structure XB2 where
  j : Nat
  l : NL
  c : Nat
theorem mk_app {F : Fx} {q : Nat} {a : List UInt8} : ∀ {P : List Nat} {i : Nat}, mk F q a (P ++ [i]) = if F.a i q = a then mk F q a P ||| 2 ^ i else mk F q a P := by
  intro P
  induction P with
  | nil => intro i; rfl
  | cons x r ih =>
    intro i
    simp only [List.cons_append, mk, ih]
    split
    · split
      · rw [Nat.or_assoc, Nat.or_comm (2 ^ i), ← Nat.or_assoc]
      · rfl
    · rfl
/-- What is known of the sets. -/
def PartOk (F : Fx) (q : Nat) (P : List Nat) (l : NL) : Prop := ∀ a, (a ∈ ansL F q P → ∃ u, mget l (.s a) = some (mk F q a P, u)) ∧ (a ∉ ansL F q P → mget l (.s a) = none)
theorem mk_no {F : Fx} {q : Nat} {a : List UInt8} : ∀ {P : List Nat}, a ∉ ansL F q P → mk F q a P = 0 := by
  intro P
  induction P with
  | nil => intro _; rfl
  | cons x r ih =>
    intro h
    unfold ansL at h
    rw [List.map_cons, List.mem_cons, not_or] at h
    simp only [mk]
    rw [if_neg fun e => h.1 e.symm]
    exact ih h.2
theorem mget_put {V : Type} {k k' : MKey} {v : V} : ∀ {l : List (MKey × V × Nat)} {w : V} {u : Nat}, mget l k = some (w, u) → mget (mput l k v) k' = if k = k' then some (v, u) else mget l k' := by
  intro l
  induction l with
  | nil => intro w u h; cases h
  | cons x r ih =>
    intro w u h
    simp only [mget, mput] at h ⊢
    by_cases e : x.1 = k
    · rw [if_pos e] at h
      rw [if_pos e]
      have hx : x.2 = (w, u) := Option.some.inj h
      simp only [mget]
      split
      · rw [hx]
      · rename_i h2
        rw [if_neg (by rw [e]; exact h2)]
    · rw [if_neg e] at h
      rw [if_neg e]
      simp only [mget]
      by_cases e2 : x.1 = k'
      · rw [if_pos e2, if_pos e2]
        rw [if_neg fun e3 => e (e2.trans e3.symm)]
      · rw [if_neg e2, if_neg e2]
        exact ih h
theorem mget_app {V : Type} {k k' : MKey} {v : V} {t : Nat} : ∀ {l : List (MKey × V × Nat)}, mget l k = none → mget (l ++ [(k, v, t)]) k' = if k = k' then some (v, t) else mget l k' := by
  intro l
  induction l with
  | nil => intro _; simp [mget]
  | cons x r ih =>
    intro h
    simp only [mget, List.cons_append] at h ⊢
    by_cases e : x.1 = k
    · simp [e] at h
    · rw [if_neg e] at h
      by_cases e2 : x.1 = k'
      · rw [if_pos e2, if_pos e2, if_neg fun e3 => e (e2.trans e3.symm)]
      · rw [if_neg e2, if_neg e2]
        exact ih h
theorem part_start (F : Fx) (q : Nat) : PartOk F q [] [] := fun _ => ⟨fun h => (by cases h), fun _ => rfl⟩
theorem part_new {F : Fx} {q : Nat} {P : List Nat} {l : NL} {i c : Nat} (h : PartOk F q P l) (hm : mget l (.s (F.a i q)) = none) : PartOk F q (P ++ [i]) (l ++ [(.s (F.a i q), 2 ^ i, c)]) := by
  have hno : F.a i q ∉ ansL F q P := fun hm2 => by
    obtain ⟨u, e⟩ := (h _).1 hm2
    rw [hm] at e
    cases e
  intro a
  rw [mget_app hm]
  have hmem : a ∈ ansL F q (P ++ [i]) ↔ a ∈ ansL F q P ∨ a = F.a i q := by unfold ansL; rw [List.map_append, List.mem_append]; simp
  by_cases e : F.a i q = a
  · rw [if_pos (by rw [e])]
    refine ⟨fun _ => ⟨c, ?_⟩, fun hn => absurd (hmem.2 (.inr e.symm)) hn⟩
    rw [mk_app, if_pos e, mk_no (by rw [← e]; exact hno), Nat.zero_or]
  · rw [if_neg (fun e2 => e (by injection e2))]
    rw [mk_app, if_neg e, hmem]
    refine ⟨?_, fun hn => (h a).2 fun h2 => hn (.inl h2)⟩
    rintro (h2 | h2)
    · exact (h a).1 h2
    · exact absurd h2.symm e
theorem part_old {F : Fx} {q : Nat} {P : List Nat} {l : NL} {i v u : Nat} (h : PartOk F q P l) (hm : mget l (.s (F.a i q)) = some (v, u)) : PartOk F q (P ++ [i]) (mput l (.s (F.a i q)) (v ||| 2 ^ i)) := by
  have hin : F.a i q ∈ ansL F q P := Classical.byContradiction fun hn => by
    rw [(h _).2 hn] at hm
    cases hm
  intro a
  rw [mget_put hm]
  have hmem : a ∈ ansL F q (P ++ [i]) ↔ a ∈ ansL F q P := by
    unfold ansL at hin ⊢
    rw [List.map_append, List.mem_append]
    refine ⟨?_, .inl⟩
    rintro (h2 | h2)
    · exact h2
    · have : a = F.a i q := by simpa using h2
      rw [this]
      exact hin
  by_cases e : F.a i q = a
  · rw [if_pos (by rw [e])]
    refine ⟨fun _ => ⟨u, ?_⟩, fun hn => absurd (hmem.2 (e ▸ hin)) hn⟩
    obtain ⟨u', hu⟩ := (h _).1 hin
    rw [hm] at hu
    rw [mk_app, if_pos e, ← e]
    have : v = mk F q (F.a i q) P := (Prod.mk.inj (Option.some.inj hu)).1
    rw [this]
  · rw [if_neg (fun e2 => e (by injection e2)), mk_app, if_neg e, hmem]
    exact h a
theorem shl_at {i : Nat} (hi : i ≤ 8) : shI .shl .u64 1 (i : Int) = ((2 ^ i : Nat) : Int) := by
  have : ∀ i : Nat, i ≤ 8 → shI .shl .u64 1 (i : Int) = ((2 ^ i : Nat) : Int) := by decide
  exact this i hi
theorem or_at {v i : Nat} (hv : v < 256) (hi : i < 8) : bitI .or .u64 (v : Int) (shI .shl .u64 1 (i : Int)) = ((v ||| 2 ^ i : Nat) : Int) := by
  rw [shl_at (by omega)]
  have h2 : 2 ^ i < 256 := by
    have : 2 ^ i < 2 ^ 8 := Nat.pow_lt_pow_right (by omega) hi
    omega
  show IntKind.wrap .u64 (((BitVec.ofInt 64 (v : Int) ||| BitVec.ofInt 64 ((2 ^ i : Nat) : Int)).toNat : Nat) : Int) = _
  have e : (BitVec.ofInt 64 (v : Int) ||| BitVec.ofInt 64 ((2 ^ i : Nat) : Int)).toNat = v ||| 2 ^ i := by
    rw [BitVec.toNat_or, BitVec.ofInt_natCast, BitVec.ofInt_natCast, BitVec.toNat_ofNat, BitVec.toNat_ofNat, Nat.mod_eq_of_lt (by omega), Nat.mod_eq_of_lt (by omega)]
  rw [e]
  have h3 : v ||| 2 ^ i < 2 ^ 8 := Nat.or_lt_two_pow (by omega) (by omega)
  refine InR.wrap ⟨?_, ?_⟩
  · show (0 : Int) ≤ _
    omega
  · show _ ≤ (18446744073709551615 : Int)
    omega
theorem mk_lt {F : Fx} {q : Nat} {a : List UInt8} : ∀ {P : List Nat}, (∀ i ∈ P, i < 8) → mk F q a P < 256 := by
  intro P
  induction P with
  | nil => intro _; show 0 < 256; omega
  | cons x r ih =>
    intro h
    have h1 := ih fun i hi => h i (List.mem_cons_of_mem _ hi)
    simp only [mk]
    split
    · have hx := h x (List.mem_cons_self ..)
      have : 2 ^ x < 2 ^ 8 := Nat.pow_lt_pow_right (by omega) hx
      exact Nat.or_lt_two_pow (n := 8) h1 this
    · exact h1
/-- gazetteer/ask.split -/
def g18 : List Nat := [1, 16, 18, 15, 0, 2, 11, 12, 17, 9, 8, 6, 7]
def c18 : SCode :=
  .seq (.region g18 [⟨some 6, none, .move (.c (.nilsl)), []⟩, ⟨some 7, none, .move (.c (.nilmap)), []⟩]) (.seq (.region g18 [⟨some 13, none, .mkmap (.s), []⟩, ⟨some 8, none, .move (.s 13), []⟩]) (.seq (.region g18 [⟨some 9, none, .move (.c (.nilsl)), []⟩]) (.seq (.seq (.region g18 [⟨some 14, none, .move (.s 1), []⟩, ⟨some 15, none, .call (.c (.fn 17)) [.s 14], []⟩, ⟨some 16, none, .lenSl (.s 15), []⟩, ⟨some 17, none, .move (.c (.int .i64 0)), []⟩]) (.block 0 (.loop 0 [18, 19, 20, 11, 21, 22, 23, 24, 25, 26, 27, 12, 28, 29, 30, 31, 32, 33, 34, 35, 36, 37, 9, 38, 17] (.seq (.region g18 [⟨some 18, none, .bin (.lss) (.s 17) (.s 16), []⟩]) (.seq (.cond (.s 18) .skip (.exit 0)) (.seq (.block 1 (.seq (.region g18 [⟨some 19, none, .idxSl 1 (.s 15) (.s 17), []⟩, ⟨some 20, none, .load 1 false (.s 19), []⟩, ⟨some 11, none, .move (.s 20), []⟩]) (.seq (.region g18 [⟨some 21, none, .move (.s 0), []⟩, ⟨some 22, none, .move (.s 11), []⟩, ⟨some 23, none, .idxSl 1 (.s 21) (.s 22), []⟩, ⟨some 24, none, .load 1 false (.s 23), []⟩, ⟨some 25, none, .move (.s 2), []⟩, ⟨some 26, none, .idxSl 1 (.s 24) (.s 25), []⟩, ⟨some 27, none, .load 1 false (.s 26), []⟩, ⟨some 12, none, .move (.s 27), []⟩]) (.seq (.drawn g18 (.pure 0 ⟨some 28, none, .move (.s 8), []⟩ (.pure 1 ⟨some 29, none, .move (.s 12), []⟩ (.pure 3 ⟨some 31, none, .move (.s 11), []⟩ (.pure 4 ⟨some 32, none, .bin (.shl) (.c (.int (.u64) 1)) (.s 31), []⟩ (.eff 2 ⟨some 30, none, .mlook (.int (.u64) 0) false (.s) (.s 28) (.s 29), []⟩ [] (.pure 5 ⟨some 33, none, .bin (.or) (.s 30) (.s 32), []⟩ (.eff 6 ⟨none, none, .mupd (.s) (.s 28) (.s 29) (.s 33), []⟩ [] .done .none)) .none)))))) (.region g18 [⟨some 34, none, .move (.s 9), []⟩, ⟨some 35, none, .move (.s 12), []⟩, ⟨some 36, none, .buildSl 9 1 1 (.cons (.str []) .nil) [(0, 1, .s 35)], []⟩, ⟨some 37, none, .app 9 1 16 (.s 34) (.s 36), []⟩, ⟨some 9, none, .move (.s 37), []⟩]))))) (.region g18 [⟨some 38, none, .bin (.add) (.s 17) (.c (.int .i64 1)), []⟩, ⟨some 17, none, .move (.s 38), []⟩]))))))) (.seq (.region g18 [⟨some 39, none, .move (.s 9), []⟩, ⟨some 40, none, .call (.c (.fn 24)) [.s 39], []⟩, ⟨some 41, none, .move (.s 8), []⟩, ⟨some 6, none, .move (.s 40), []⟩, ⟨some 7, none, .move (.s 41), []⟩]) .ret))))
def r18 : List SRes := [.slot 6, .slot 7]
def k18 : List (Nat × Nat × SCode × Nat) := []
theorem e18 : cFunc Try.prog 18 g18 [] [] k18 = some (c18, r18, 42) := by kernel_rfl
theorem q18 : RgOk Try.prog k18 := RgOk.nil
def txD (L : Ss) : Tx := ⟨L.length, fun j => L.getD j []⟩
theorem txD_L (L : Ss) : txL (txD L) = L := by
  unfold txL txD
  refine List.ext_getElem (by simp) fun i h1 h2 => ?_
  simp [List.getD_eq_getElem?_getD, List.getElem?_eq_getElem h2]
theorem getD_mem {l : List Nat} {j : Nat} (h : j < l.length) : l.getD j 0 ∈ l := by
  rw [List.getD_eq_getElem?_getD, List.getElem?_eq_getElem h]
  exact List.getElem_mem h
theorem take_next {l : List Nat} {j : Nat} (h : j < l.length) : l.take (j + 1) = l.take j ++ [l.getD j 0] := by
  rw [List.take_add_one, List.getD_eq_getElem?_getD, List.getElem?_eq_getElem h]
  rfl
def split : Eng.MSpec where
  X := XC
  Y := NL × Nat
  args := fun x => .cons (fxE x.F) (.cons (.int .u64 (x.s : Int)) (.cons (.int .i64 (x.q : Int)) .nil))
  pre := fun x => x.F.n ≤ 8 ∧ x.s < 256 ∧ (∀ i ∈ candL x.s, i < x.F.n) ∧ ∀ i, i < x.F.n → x.q < x.F.k i
  h0 := fun _ => []
  nx0 := 0
  post := fun x y => PartOk x.F x.q (candL x.s) y.1
  res := fun x _ => .tup (.cons (.slice 1 (distS (ansL x.F x.q (candL x.s))).length (lc strN [] (distS (ansL x.F x.q (candL x.s))))) (.cons (.mref 0) .nil))
  h1 := fun _ y => [(0, .map Nat .s y.1 y.2 nuE nuD)]
  nx1 := 1
  fresh := false
theorem split_ok : split.Ok Try.prog 18 := by
  refine Eng.MSpec.ok_of e18 q18 (fun _ => [(17, .p cand), (24, .p sorted)]) (fun _ _ => TabOk.p cand_ok (TabOk.p sorted_ok TabOk.nil)) ?_
  rintro ⟨F, s, q⟩ ⟨hF, hs, hc, hq⟩
  replace hF : F.n ≤ 8 := hF
  replace hs : s < 256 := hs
  replace hc : ∀ i ∈ candL s, i < F.n := hc
  replace hq : ∀ i, i < F.n → q < F.k i := hq
  have hs64 : s < 18446744073709551616 := by omega
  refine ⟨trivial, ?_⟩
  repeat' (first | exact hs64 | refine And.intro ?_ ?_ | exact trivial | exact rfl)
  refine ⟨⟨XB2, fun x => x.j ≤ (candL s).length ∧ PartOk F q ((candL s).take x.j) x.l, fun x => [(17, .int .i64 (x.j : Int)), (9, .lsl 20 1 (ansL F q ((candL s).take x.j)).length)], fun x => [(0, .map Nat .s x.l x.c nuE nuD), (20, .arr 9 1 (ansL F q ((candL s).take x.j)).length (lc strN [] (ansL F q ((candL s).take x.j))))], fun x => (candL s).length - x.j⟩, ⟨0, [], 0⟩, ⟨Nat.zero_le _, part_start F q⟩, ?_, ?_⟩
  · repeat' (first | refine And.intro ?_ ?_ | exact trivial | exact rfl | exact sub_lc (fun a => sub_strN _ _ _ a) | exact sub_lc0 (fun a => sub_strN _ _ _ a) | exact fun (j : Nat) (hj : j < _) => Or.inl (sub_strN _ _ _ _) | exact sub_lc (fun a => sub_natN _ _ _ a) | exact fun (j : Nat) (hj : j < _) => Or.inl (sub_fx _ _ _ _ rfl hj) | exact ent_nil | exact same_ent2 (p := sub _ _ 200) (fun v => rfl) | exact same_ent2 (p := sub _ _ 200) (fun v => And.intro rfl rfl))
  rintro ⟨j, l, c⟩ ⟨hj, hP⟩
  replace hj : j ≤ (candL s).length := hj
  replace hP : PartOk F q ((candL s).take j) l := hP
  have hc8 : (candL s).length ≤ 8 := candN_len s 8
  refine And.intro (fun hb => ?_) (fun hb => ?_)
  · have hjl : j < (candL s).length := by have h1 : (j : Int) < ((candL s).length : Int) := of_decide_eq_true hb; omega
    have hjI : (j : Int) < ((candL s).length : Int) := by omega
    have hiN : (candL s).getD j 0 < F.n := hc _ (getD_mem hjl)
    have hiF : (((candL s).getD j 0 : Nat) : Int) < (F.n : Int) := by omega
    have hqN := hq _ hiN
    have hqF : (q : Int) < ((F.k ((candL s).getD j 0) : Nat) : Int) := by omega
    have hi8 : (candL s).getD j 0 < 8 := by omega
    have hin1 : -9223372036854775808 ≤ (j : Int) + 1 := by omega
    have hin2 : (j : Int) + 1 ≤ 9223372036854775807 := by omega
    have htk := take_next hjl
    have hal : (ansL F q ((candL s).take j)).length + 1 = (ansL F q ((candL s).take (j + 1))).length := by rw [htk]; unfold ansL; simp
    have hal8 : (ansL F q ((candL s).take j)).length ≤ 8 := by unfold ansL; rw [List.length_map, List.length_take]; omega
    have hap : ansL F q ((candL s).take (j + 1)) = ansL F q ((candL s).take j) ++ [F.a ((candL s).getD j 0) q] := by rw [htk]; unfold ansL; simp
    have hal9 : (ansL F q ((candL s).take j)).length + 1 ≤ 9223372036854775807 := by omega
    have hal10 : ((ansL F q ((candL s).take j)).length + 1) * 16 ≤ 140737488355328 := by omega
    repeat' (first | exact Int.natCast_nonneg _ | exact hjI | exact hiF | exact hqF | refine And.intro ?_ ?_ | exact trivial | exact rfl | exact sub_lc (fun a => sub_strN _ _ _ a) | exact sub_lc0 (fun a => sub_strN _ _ _ a) | exact fun (j : Nat) (hj : j < _) => Or.inl (sub_strN _ _ _ _) | exact sub_lc (fun a => sub_natN _ _ _ a) | exact fun (j : Nat) (hj : j < _) => Or.inl (sub_fx _ _ _ _ rfl hj))
    cases hm : mget l (.s (F.a ((candL s).getD j 0) q)) with
    | none =>
      refine MLook.of_none hm ?_
      have hor : bitI .or .u64 0 (shI .shl .u64 1 (((candL s).getD j 0 : Nat) : Int)) = ((2 ^ ((candL s).getD j 0) : Nat) : Int) := by
        have := or_at (v := 0) (by omega) hi8
        rw [Nat.zero_or] at this
        exact this
      have hP2 := htk ▸ part_new (c := c) hP hm
      repeat' (first | refine And.intro ?_ ?_ | exact trivial | exact rfl | exact sub_lc (fun a => sub_strN _ _ _ a) | exact sub_lc0 (fun a => sub_strN _ _ _ a) | exact fun (j : Nat) (hj : j < _) => Or.inl (sub_strN _ _ _ _) | exact sub_lc (fun a => sub_natN _ _ _ a) | exact fun (j : Nat) (hj : j < _) => Or.inl (sub_fx _ _ _ _ rfl hj))
      refine MLook.of_none hm ?_
      repeat' (first | exact hal9 | exact hal10 | refine And.intro ?_ ?_ | exact trivial | exact rfl | exact sub_lc (fun a => sub_strN _ _ _ a) | exact sub_lc0 (fun a => sub_strN _ _ _ a) | exact fun (j : Nat) (hj : j < _) => Or.inl (sub_strN _ _ _ _) | exact sub_lc (fun a => sub_natN _ _ _ a) | exact fun (j : Nat) (hj : j < _) => Or.inl (sub_fx _ _ _ _ rfl hj))
      · exact hin1
      · exact hin2
      refine Exists.intro (XB2.mk (j + 1) (l ++ [(.s (F.a ((candL s).getD j 0) q), (bitI .or .u64 0 (shI .shl .u64 1 (((candL s).getD j 0 : Nat) : Int))).toNat, c)]) (c + 1)) (And.intro ⟨hjl, by dsimp only; rw [hor, Int.toNat_natCast]; exact hP2⟩ (And.intro ?_ ?_))
      · repeat' (first | exact hal | exact hap ▸ sub_app (fun a => sub_strN _ _ _ a) rfl rfl | refine And.intro ?_ ?_ | exact trivial | exact rfl | exact sub_lc (fun a => sub_strN _ _ _ a) | exact sub_lc0 (fun a => sub_strN _ _ _ a) | exact fun (j : Nat) (hj : j < _) => Or.inl (sub_strN _ _ _ _) | exact sub_lc (fun a => sub_natN _ _ _ a) | exact fun (j : Nat) (hj : j < _) => Or.inl (sub_fx _ _ _ _ rfl hj) | exact same_ent2 (p := sub _ _ 200) (fun v => rfl) | exact same_ent2 (p := sub _ _ 200) (fun v => And.intro rfl rfl))
      · show (candL s).length - (j + 1) < (candL s).length - j
        omega
    | some p =>
      obtain ⟨v, u⟩ := p
      have hv : v < 256 := by
        have h2 : F.a ((candL s).getD j 0) q ∈ ansL F q ((candL s).take j) := Classical.byContradiction fun hn => by
          rw [(hP _).2 hn] at hm
          cases hm
        obtain ⟨u', hu⟩ := (hP _).1 h2
        rw [hm] at hu
        rw [(Prod.mk.inj (Option.some.inj hu)).1]
        exact mk_lt fun i hi => by have := hc i (List.mem_of_mem_take hi); omega
      have hor := or_at hv hi8
      have hP2 := htk ▸ part_old hP hm
      refine MLook.of_some hm ?_
      repeat' (first | refine And.intro ?_ ?_ | exact trivial | exact rfl | exact sub_lc (fun a => sub_strN _ _ _ a) | exact sub_lc0 (fun a => sub_strN _ _ _ a) | exact fun (j : Nat) (hj : j < _) => Or.inl (sub_strN _ _ _ _) | exact sub_lc (fun a => sub_natN _ _ _ a) | exact fun (j : Nat) (hj : j < _) => Or.inl (sub_fx _ _ _ _ rfl hj))
      refine MLook.of_some hm ?_
      repeat' (first | exact hal9 | exact hal10 | refine And.intro ?_ ?_ | exact trivial | exact rfl | exact sub_lc (fun a => sub_strN _ _ _ a) | exact sub_lc0 (fun a => sub_strN _ _ _ a) | exact fun (j : Nat) (hj : j < _) => Or.inl (sub_strN _ _ _ _) | exact sub_lc (fun a => sub_natN _ _ _ a) | exact fun (j : Nat) (hj : j < _) => Or.inl (sub_fx _ _ _ _ rfl hj))
      · exact hin1
      · exact hin2
      refine Exists.intro (XB2.mk (j + 1) (mput l (.s (F.a ((candL s).getD j 0) q)) (bitI .or .u64 (v : Int) (shI .shl .u64 1 (((candL s).getD j 0 : Nat) : Int))).toNat) c) (And.intro ⟨hjl, by dsimp only; rw [hor, Int.toNat_natCast]; exact hP2⟩ (And.intro ?_ ?_))
      · repeat' (first | exact hal | exact hap ▸ sub_app (fun a => sub_strN _ _ _ a) rfl rfl | refine And.intro ?_ ?_ | exact trivial | exact rfl | exact sub_lc (fun a => sub_strN _ _ _ a) | exact sub_lc0 (fun a => sub_strN _ _ _ a) | exact fun (j : Nat) (hj : j < _) => Or.inl (sub_strN _ _ _ _) | exact sub_lc (fun a => sub_natN _ _ _ a) | exact fun (j : Nat) (hj : j < _) => Or.inl (sub_fx _ _ _ _ rfl hj) | exact same_ent2 (p := sub _ _ 200) (fun v => rfl) | exact same_ent2 (p := sub _ _ 200) (fun v => And.intro rfl rfl))
      · show (candL s).length - (j + 1) < (candL s).length - j
        omega
  · have hjl : j = (candL s).length := by have h1 : ¬ (j : Int) < ((candL s).length : Int) := of_decide_eq_false hb; omega
    have htk : (candL s).take j = candL s := by rw [hjl, List.take_length]
    rw [htk] at hP
    have hpre : (ansL F q ((candL s).take j)).length ≤ 20000 := by unfold ansL; rw [List.length_map, List.length_take]; omega
    have h0 : 0 + (ansL F q ((candL s).take j)).length ≤ (ansL F q ((candL s).take j)).length := Nat.le_of_eq (Nat.zero_add _)
    repeat' (first | exact hpre | exact h0 | refine And.intro ?_ ?_ | exact trivial | exact rfl | exact sub_lc (fun a => sub_strN _ _ _ a) | exact sub_lc0 (fun a => sub_strN _ _ _ a) | exact fun (j : Nat) (hj : j < _) => Or.inl (sub_strN _ _ _ _) | exact sub_lc (fun a => sub_natN _ _ _ a) | exact fun (j : Nat) (hj : j < _) => Or.inl (sub_fx _ _ _ _ rfl hj))
    refine Exists.intro (l, c) (And.intro hP ?_)
    have htx : txL (txD (ansL F q ((candL s).take j))) = ansL F q (candL s) := by rw [txD_L, htk]
    repeat' (first | exact sub_leq (congrArg distS htx) | refine And.intro ?_ ?_ | exact trivial | exact rfl | exact sub_lc (fun a => sub_strN _ _ _ a) | exact sub_lc0 (fun a => sub_strN _ _ _ a) | exact fun (j : Nat) (hj : j < _) => Or.inl (sub_strN _ _ _ _) | exact sub_lc (fun a => sub_natN _ _ _ a) | exact fun (j : Nat) (hj : j < _) => Or.inl (sub_fx _ _ _ _ rfl hj) | exact same_ent2 (p := sub _ _ 200) (fun v => rfl) | exact same_ent2 (p := sub _ _ 200) (fun v => And.intro rfl rfl))
    exact congrArg (fun L => (distS L).length) htx
end A6
