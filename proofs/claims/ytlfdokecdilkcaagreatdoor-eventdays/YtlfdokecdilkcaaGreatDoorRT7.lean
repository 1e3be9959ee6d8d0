/- A part of the proof. -/
import Derived.Test.YtlfdokecdilkcaaGreatDoorF12
import Derived.Test.YtlfdokecdilkcaaGreatDoorVO
import Derived.Test.YtlfdokecdilkcaaGreatDoorSP
import Derived.Lib.AtoiTie
import Derived.Lib.ItoaMem
import Derived.Lib.Join
import Derived.Test.YtlfdokecdilkcaaGreatDoorF21
import Derived.Test.YtlfdokecdilkcaaGreatDoorF13g
import Derived.Test.YtlfdokecdilkcaaGreatDoorRT3
section
section
open Go Go.Eng Go.Proofs G1 G2 G3 G4 G6 G7 EV0 N1 N2 F1 F2 F3 F4 F5 F6 F7 F8 F9 F10
set_option maxRecDepth 100000
namespace F12
theorem name_ne {s : B} (h : L10.nameV s = true) : s ≠ [] := by
 rintro rfl
 exact absurd h (by decide)
theorem ids_name {r : Sq B} (h : idsV r = true) {i : Nat} (hi : i < r.n) : L10.nameV (r.f i) = true := by
 unfold idsV at h
 rw [Bool.and_eq_true, Bool.not_eq_true'] at h
 have := orB_false.1 h.2 i hi
 unfold nidV at this
 simpa using this
theorem lit_id {x : B} {l : List B} (hl : idsV (litS (x :: l)) = true) : L10.nameV x = true := ids_name (r := litS (x :: l)) (i := 0) hl (by show 0 < (litE (x :: l)).len; rw [litE_len]; simp)
theorem frm_id {e : Ev} (h : frmV e = true) (h3 : e.kind ≠ 13) (h4 : e.kind ≠ 14) : L10.nameV e.id = true := by
 obtain ⟨⟨k1, k2⟩, _, _, _, hn⟩ := frm_dec h
 rcases kinds k1 k2 with k | k | k | k | k | k | k | k | k | k | k | k | k | k | k
 ·rw [ndK1 k] at hn; unfold nd1 nd0 at hn
  simp only [Bool.and_eq_true] at hn
  exact hn.1.1
 ·rw [ndK2 k] at hn; unfold nd2 nd0 at hn
  simp only [Bool.and_eq_true] at hn
  exact hn.1
 ·rw [ndK3 k] at hn; unfold nd3 nd0 at hn
  simp only [Bool.and_eq_true] at hn
  exact hn.1
 ·rw [ndK4 k] at hn; unfold nd4 at hn
  exact lit_id hn
 ·rw [ndK5 k] at hn; unfold nd5 nd0 at hn
  simp only [Bool.and_eq_true] at hn
  exact hn.1
 ·rw [ndK6 k] at hn; unfold nd6 at hn
  simp only [Bool.and_eq_true] at hn
  exact lit_id hn.1.1
 ·rw [ndK7 k] at hn; unfold nd7 at hn
  simp only [Bool.and_eq_true] at hn
  exact lit_id hn.1
 ·rw [ndK8 k] at hn; unfold nd8 nd0 at hn
  simp only [Bool.and_eq_true] at hn
  exact hn.1.1.1
 ·rw [ndK9 k] at hn; unfold nd9 lstV at hn
  simp only [Bool.and_eq_true] at hn
  have := ids_name (i := 0) hn.1.2.2.1 (by show 0 < 1 + _; omega)
  simpa [mF] using this
 ·rw [ndK10 k] at hn; unfold nd10 at hn
  simp only [Bool.and_eq_true] at hn
  have := ids_name (i := 0) hn.1.1.2 (by show 0 < 1 + _; omega)
  simpa [jnF] using this
 ·rw [ndK11 k] at hn; unfold nd0 at hn
  exact hn
 ·rw [ndK12 k] at hn; unfold nd0 at hn
  exact hn
 ·exact absurd k h3
 ·exact absurd k h4
 ·rw [ndK15 k] at hn; unfold nd15 nd0 at hn
  simp only [Bool.and_eq_true] at hn
  exact hn.1.1
theorem frm_noid {e : Ev} (h : frmV e = true) (hk : e.kind = 13 \/ e.kind = 14) : e.id = [] := by
 obtain ⟨_, _, hz, _⟩ := frm_dec h
 have := (zB_iff.1 hz).id
 unfold bareV at this
 dsimp only at this
 rw [if_pos hk] at this
 exact this
end F12
end
section
namespace Go.Eng
open Go Go.RowKit Go.ChangeShapes Go.WideShapes Go.ChangeAt
section
variable {H : Type} {enc : TypeId × Value -> H} {P : Program} {W : World} {base : Nat} {sp : Nat -> Bool} {held : Bool}
theorem arg_one {r : Reach} {b0 : Nat} {fuel : Nat} {s : Sp} {t : TypeId} {v : Value} {d : DataW H} {ps : List MemPlace} (hs : spOf P (fuel + 1) t = some (.cons s .nil)) (hne : (∀ fs, P.underlying t ≠ some (.struct fs)) /\ ∀ m e, P.underlying t ≠ some (.array m e))
  (hval : Value.okWide P W r b0 t v) (hd : DataW.Trod enc P W base sp held t v d ps) (hw : Light P t d) : ∃ a, Sh s a /\ R (envU (Wall W) W) a [v] := by
 obtain ⟨n, hn⟩ := hd
 obtain ⟨_, _, l, h1, h2⟩ := trod_sh (fuel + 1) n t _ _ _ hs hn hw
 have hc : v.cells.toList = [v] := by
  simp only [spOf] at hs
  split at hs
  ·rename_i ht; obtain ⟨m, rfl⟩ := okWide_int ht hval; rfl
  ·rename_i ht; obtain ⟨m, rfl⟩ := okWide_bool ht hval; rfl
  ·rename_i ht; obtain ⟨m, rfl⟩ := okWide_string ht hval; rfl
  ·rename_i ht; obtain ⟨_, _, _, rfl⟩ := okWide_slice ht hval; rfl
  ·rename_i fs ht; exact absurd ht (hne.1 fs)
  ·rename_i m e ht; exact absurd ht (hne.2 m e)
  ·cases hs
 rw [hc] at h2
 obtain ⟨a, b, rfl, k1, k2⟩ := h1
 simp only [R] at h2
 obtain ⟨x, xs, e, k3, _⟩ := h2
 cases e
 exact ⟨a, k1, k3⟩
end
section
variable {H : Type} {enc : TypeId × Value -> H} {P : Program} {W W' : World}
end
end Go.Eng
end
section
namespace VO
open Go Go.Eng Go.Proofs Go.RowKit Go.ChangeShapes Go.WideShapes G1 G3 EV0 F22
set_option maxRecDepth 100000
theorem sp49 : spOf Tryz.prog 6 49 = some (.cons (.int .u32) .nil) := by kernel_rfl
theorem wf_u32 {m : Int} (h : (Lit.int .u32 m).wf = true) : 0 <= m /\ m <= 4294967295 := by
 simp only [Lit.wf, Bool.and_eq_true, decide_eq_true_eq] at h
 have e1 : IntKind.min .u32 = 0 := rfl
 have e2 : IntKind.max .u32 = 4294967295 := rfl
 omega
section
variable {H : Type} {enc : TypeId × Value -> H} {W : World} {base : Nat} {sp : Nat -> Bool} {held : Bool} {r : Reach} {b0 : Nat} {v : Value} {d : DataW H} {ps : List MemPlace}
theorem open49 (hval : Value.okWide Tryz.prog W r b0 49 v) (hd : DataW.Trod enc Tryz.prog W base sp held 49 v d ps) (hw : Light Tryz.prog 49 d) : ∃ m : Int, R (envU (Wall W) W) (.int .u32 m) [v] /\ 0 <= m /\ m <= 4294967295 := by
 obtain ⟨a, h1, h2⟩ := arg_one sp49 ⟨fun fs e => by rw [Tryz.underlying49] at e; (cases e), fun m k e => by rw [Tryz.underlying49] at e; (cases e)⟩ hval hd hw
 obtain ⟨m, rfl, hw⟩ := h1
 exact ⟨m, h2, wf_u32 hw⟩
end
section
variable {H : Type} {enc : TypeId × Value -> H} {P : Program} {w : World} {base : Nat} {spare : Nat -> Bool} {held : Bool}
theorem trodAll_3 {t1 t2 t3 : TypeId} {args : Array Value} {ds : List (DataW H)} {ps : List MemPlace} (h : DataW.TrodAll enc P w base spare held [t1, t2, t3] args.toList ds ps) :
  ∃ v1 v2 v3 d1 d2 d3 p1 p2 p3, args = #[v1, v2, v3] /\ ds = [d1, d2, d3] /\ DataW.Trod enc P w base spare held t1 v1 d1 p1 /\ DataW.Trod enc P w base spare held t2 v2 d2 p2 /\ DataW.Trod enc P w base spare held t3 v3 d3 p3 := by
 obtain ⟨v1, vs1, d1, ds1, p1, q1, hargs, rfl, rfl, h1, r1⟩ := trodAll_cons h
 obtain ⟨v2, vs2, d2, ds2, p2, q2, rfl, rfl, rfl, h2, r2⟩ := trodAll_cons r1
 obtain ⟨v3, vs3, d3, ds3, p3, q3, rfl, rfl, rfl, h3, r3⟩ := trodAll_cons r2
 obtain ⟨rfl, rfl, rfl⟩ := trodAll_nil r3
 exact ⟨v1, v2, v3, d1, d2, d3, p1, p2, p3, by cases args; simp_all, rfl, h1, h2, h3⟩
end
end VO
end
end
section
namespace RT1
open Go
abbrev B := List UInt8
theorem dec_step (u : Nat) (h : ¬ u < 10) : Lib.decDigits u = Lib.decDigits (u / 10) ++ [UInt8.ofNat (48 + u % 10)] := by
 rw [Lib.decDigits, dif_neg h]
theorem dig_nat {d : Nat} (h : d < 10) : (UInt8.ofNat (48 + d)).toNat = 48 + d := by
 rw [UInt8.toNat_ofNat']
 omega
theorem dec_mem (u : Nat) : ∀ b ∈ Lib.decDigits u, 48 <= b.toNat /\ b.toNat <= 57 := by
 induction u using Nat.strongRecOn with
 | _ u ih =>
  intro b hb
  by_cases h : u < 10
  ·rw [Lib.decDigits_one h, List.mem_singleton] at hb
   rw [hb, dig_nat h]; omega
  ·rw [dec_step u h, List.mem_append, List.mem_singleton] at hb
   rcases hb with hb | hb
   ·exact ih (u / 10) (by omega) b hb
   ·rw [hb, dig_nat (Nat.mod_lt _ (by omega))]; omega
theorem decFrom_append (l : B) (b : UInt8) : ∀ acc, Lib.decFrom acc (l ++ [b]) = (Lib.decFrom acc l).bind fun n => (Lib.digitVal b).map fun d => n * 10 + d := by
 induction l with
 | nil =>
  intro acc
  simp only [List.nil_append, Lib.decFrom, Option.bind_some]
  cases Lib.digitVal b <;> rfl
 | cons c r ih =>
  intro acc
  simp only [List.cons_append, Lib.decFrom]
  cases Lib.digitVal c with
  | none => rfl
  | some d => exact ih _
theorem digitVal_dig {d : Nat} (h : d < 10) : Lib.digitVal (UInt8.ofNat (48 + d)) = some d := by
 unfold Lib.digitVal
 rw [dig_nat h, if_pos (by omega)]
 congr 1
 omega
theorem decFrom_dec (u : Nat) : Lib.decFrom 0 (Lib.decDigits u) = some u := by
 induction u using Nat.strongRecOn with
 | _ u ih =>
  by_cases h : u < 10
  ·rw [Lib.decDigits_one h]
   simp only [Lib.decFrom, digitVal_dig h, Nat.zero_mul, Nat.zero_add]
  ·rw [dec_step u h, decFrom_append, ih (u / 10) (by omega), digitVal_dig (Nat.mod_lt _ (by omega))]
   simp only [Option.bind_some, Option.map_some]
   congr 1
   omega
theorem itoa_nat (u : Nat) : Lib.itoa (u : Int) = Lib.decDigits u := Lib.itoa_nonneg u
theorem split_uniq {c : UInt8} : ∀ {a a' b b' : B}, c ∉ a -> c ∉ a' -> a ++ c :: b = a' ++ c :: b' -> a = a' /\ b = b' := by
 intro a
 induction a with
 | nil =>
  intro a' b b' _ h' e
  cases a' with
  | nil => simp at e; exact ⟨rfl, e⟩
  | cons x a' =>
   simp only [List.nil_append, List.cons_append, List.cons.injEq] at e
   exact absurd (by rw [e.1]; simp) h'
 | cons x a ih =>
  intro a' b b' h h' e
  cases a' with
  | nil =>
   simp only [List.nil_append, List.cons_append, List.cons.injEq] at e
   exact absurd (by rw [<- e.1]; simp) h
  | cons y a' =>
   simp only [List.cons_append, List.cons.injEq] at e
   simp only [List.mem_cons, not_or] at h h'
   obtain ⟨r1, r2⟩ := ih h.2 h'.2 e.2
   exact ⟨by rw [e.1, r1], r2⟩
theorem itoa_miss {n : Int} (h : 0 <= n) {c : UInt8} (hc : c.toNat < 48 \/ 57 < c.toNat) : c ∉ Lib.itoa n := by
 obtain ⟨u, rfl⟩ := Int.eq_ofNat_of_zero_le h
 rw [itoa_nat]
 intro hm
 have := dec_mem u c hm
 omega
end RT1
end
section
open Go Go.Eng Go.Proofs G1 G2 G3 G4 G6 G7 EV0 N1 N2 F1
set_option maxRecDepth 100000
namespace F24
def g22 : List Nat := [9, 15, 4, 19, 0, 5, 2, 3]
def c22 : SCode :=
 .seq (.region g22 [(zo 2 (.move (.c (.str [])))), (zo 3 (.move (.c (.bool false))))]) (.seq (.region g22 [(zo 4 (.move (.c (.int .i64 0))))]) (.seq (.seq (.region g22 [(zo 5 (.move (.c (.int .i64 0))))]) (.block 0 (.loop 0 [6, 7, 8, 9, 12, 13, 14, 15, 16, 17, 4, 18, 19, 20, 21, 22, 2, 3, 10, 11, 5] (.seq (.seq (.region g22 [(zo 6 (.move (.s 5))), (zo 7 (.move (.s 0))), (zo 8 (.lenStr (.s 7))), (zo 9 (.bin (.lss) (.s 6) (.s 8)))]) (.cond (.s 9) .skip (.exit 0))) (.seq (.block 1 (.seq (.seq (.region g22 [(zo 12 (.move (.s 0))), (zo 13 (.move (.s 5))), (zo 14 (.idxStr (.s 12) (.s 13))), (zo 15 (.bin (.eql) (.s 14) (.c (.int (.u8) 32))))]) (.cond (.s 15) (.region g22 [(zo 16 (.move (.s 4))), (zo 17 (.bin (.add) (.s 16) (.c (.int .i64 1)))), (zo 4 (.move (.s 17)))]) .skip)) (.seq (.region g22 [(zo 18 (.move (.s 4))), (zo 19 (.bin (.eql) (.s 18) (.c (.int .i64 2))))]) (.cond (.s 19) (.seq (.region g22 [(zo 20 (.move (.s 0))), (zo 21 (.move (.s 5))), (zo 22 (.sliceStr (.s 20) (some (.s 21)) none)), (zo 2 (.move (.s 22))), (zo 3 (.move (.c (.bool true))))]) .ret) .skip)))) (.region g22 [(zo 10 (.move (.s 5))), (zo 11 (.bin (.add) (.s 10) (.c (.int .i64 1)))), (zo 5 (.move (.s 11)))])))))) (.seq (.region g22 [(zo 2 (.move (.c (.str [])))), (zo 3 (.move (.c (.bool false))))]) .ret)))
def r22 : List SRes := [.slot 2, .slot 3]
def k22 : List (Nat × Nat × SCode × Nat) := []
theorem e22 : cFunc Tryz.prog 22 g22 [] [] k22 = some (c22, r22, 23) := by kernel_rfl
theorem q22 : RgOk Tryz.prog k22 := RgOk.nil
def wrdG : B -> Nat -> Option B
 | [], _ => none
 | c :: r, n => if (if c = 32 then n + 1 else n) = 2 then some (c :: r) else wrdG r (if c = 32 then n + 1 else n)
def worV (s : B) : Option B := wrdG s 0
def worS : Eng.Spec where
 X := B
 args := fun s => .cons (.str s) .nil
 pre := fun s => s.length <= 140737488355328
 res := fun s => .tup (.cons (.str ((worV s).getD [])) (.cons (.bool (worV s).isSome) .nil))
 inst := EV0.one strD
theorem drop_at {s : B} {i : Nat} (h : i < s.length) : s.drop i = s.getD i 0 :: s.drop (i + 1) := by
 rw [List.drop_eq_getElem_cons h, List.getD_eq_getElem?_getD, List.getElem?_eq_getElem h]
 rfl
theorem is32 {c : UInt8} : decide ((c.toNat : Int) = 32) = decide (c = 32) := by
 rw [Bool.eq_iff_iff, decide_eq_true_iff, decide_eq_true_iff]
 constructor
 ·intro h
  refine UInt8.toNat_inj.1 ?_
  show c.toNat = 32
  omega
 ·rintro rfl; rfl
theorem wor_ok : worS.Ok Tryz.prog 22 := by
 refine Eng.Spec.okR e22 q22 (fun _ => []) (fun _ _ => TabOk.nil) ?_
 rintro (s : B) (hs : s.length <= 140737488355328)
 refine ⟨trivial, ?_⟩
 repeat' (first | apply And.intro | exact trivial | exact rfl)
 refine ⟨⟨Nat × Nat, fun x => x.1 <= s.length /\ x.2 < 2 /\ wrdG (s.drop x.1) x.2 = worV s, fun x => [(5, .int .i64 (x.1 : Int)), (4, .int .i64 (x.2 : Int))], fun _ => [], fun x => s.length - x.1⟩, (0, 0), ⟨Nat.zero_le _, Nat.zero_lt_two, rfl⟩, ?_, ?_⟩
 ·repeat' (first | apply And.intro | exact trivial | exact rfl)
 rintro ⟨i, n⟩ ⟨(hi : i <= s.length), (hn : n < 2), (hw : wrdG (s.drop i) n = worV s)⟩
 repeat' (first | apply And.intro | exact trivial | exact rfl)
 ·refine fun (h : decide ((i : Int) < (s.length : Int)) = true) => ?_
  have hi1 : (i : Int) < (s.length : Int) := of_decide_eq_true h
  have hil : i < s.length := by omega
  have hi0 : (0 : Int) <= (i : Int) := by omega
  have b1 : -9223372036854775808 <= (i : Int) + 1 := by omega
  have b2 : (i : Int) + 1 <= 9223372036854775807 := by omega
  have n1 : -9223372036854775808 <= (n : Int) + 1 := by omega
  have n2 : (n : Int) + 1 <= 9223372036854775807 := by omega
  have hi2 : (i : Int) <= (s.length : Int) := by omega
  rw [drop_at hil] at hw
  simp only [wrdG] at hw
  repeat' (first | with_reducible exact hi1 | with_reducible exact hi0 | apply And.intro | exact trivial | exact rfl)
  ·refine fun (hc0 : decide (((s.getD i 0).toNat : Int) = 32) = true) => ?_
   have hc : s.getD i 0 = 32 := by rw [is32] at hc0; exact of_decide_eq_true hc0
   rw [if_pos hc] at hw
   repeat' (first | with_reducible exact n1 | with_reducible exact n2 | apply And.intro | exact trivial | exact rfl)
   ·refine fun (hq : decide ((n : Int) + 1 = 2) = true) => ?_
    have hq2 : n + 1 = 2 := by have := of_decide_eq_true hq; omega
    rw [if_pos hq2, <- drop_at hil] at hw
    have e1 : s.drop i = (worV s).getD [] := by rw [<- hw]; rfl
    have e2 : true = (worV s).isSome := by rw [<- hw]; rfl
    repeat' (first | with_reducible exact hi0 | with_reducible exact hi2 | exact e1 | exact e2 | apply And.intro | exact trivial | exact rfl)
   ·refine fun (hq : decide ((n : Int) + 1 = 2) = false) => ?_
    have hq2 : ¬ n + 1 = 2 := by have := of_decide_eq_false hq; omega
    rw [if_neg hq2] at hw
    repeat' (first | with_reducible exact b1 | with_reducible exact b2 | apply And.intro | exact trivial | exact rfl)
    refine Exists.intro (i + 1, n + 1) (And.intro (And.intro hil (And.intro (by show n + 1 < 2; omega) hw)) ?_)
    repeat' (first | apply And.intro | exact trivial | exact rfl)
    show s.length - (i + 1) < s.length - i
    omega
  ·refine fun (hc0 : decide (((s.getD i 0).toNat : Int) = 32) = false) => ?_
   have hc : ¬ s.getD i 0 = 32 := by rw [is32] at hc0; exact of_decide_eq_false hc0
   rw [if_neg hc] at hw
   repeat' (first | apply And.intro | exact trivial | exact rfl)
   ·refine fun (hq : decide ((n : Int) = 2) = true) => ?_
    exact absurd (of_decide_eq_true hq) (by omega)
   ·refine fun (hq : decide ((n : Int) = 2) = false) => ?_
    have hq2 : ¬ n = 2 := by omega
    rw [if_neg hq2] at hw
    repeat' (first | with_reducible exact b1 | with_reducible exact b2 | apply And.intro | exact trivial | exact rfl)
    refine Exists.intro (i + 1, n) (And.intro (And.intro hil (And.intro hn hw)) ?_)
    repeat' (first | apply And.intro | exact trivial | exact rfl)
    show s.length - (i + 1) < s.length - i
    omega
 ·refine fun (h : decide ((i : Int) < (s.length : Int)) = false) => ?_
  have hi1 : ¬ (i : Int) < (s.length : Int) := of_decide_eq_false h
  have hd : s.drop i = [] := List.drop_eq_nil_iff.2 (by omega)
  rw [hd] at hw
  have e1 : [] = (worV s).getD [] := by rw [<- hw]; rfl
  have e2 : false = (worV s).isSome := by rw [<- hw]; rfl
  repeat' (first | exact e1 | exact e2 | apply And.intro | exact trivial | exact rfl)
end F24
end
section
open Go Go.Eng Go.Proofs G1 G2 G3 G4 G6 G7 EV0 N1 N2 F1 F2 F3 F4 F5 F6 F7 F8 F9 F10 F11 F12 F13 F24 RT3
namespace RT7
def onD (e : Ev) (d : Int) : Ev := ⟨e.kind, d, e.a, e.b, e.off, e.id, e.oth, e.txt, e.ids, e.names, e.num, e.pt, e.path, e.list⟩
theorem onD_ok {e : Ev} {d : Int} (h : okV e) : okV (onD e d) := ⟨h.id, h.oth, h.txt, h.ids, h.names, h.num, h.path, h.list⟩
theorem frm_day {e : Ev} {c d : Int} (hc : 0 <= c /\ c <= 100000) (hd : 0 <= d /\ d <= 100000) : frmV (onD e c) = frmV (onD e d) := by
 have e1 : witV c 0 100000 = true := wit_iff.2 hc
 have e2 : witV d 0 100000 = true := wit_iff.2 hd
 unfold frmV
 show (if (!witV e.kind 1 15 || !witV c 0 100000) = true then false else if zB (bareV (onD e c)) = true then false else emB (bareV (onD e c)) && ndK (onD e c)) = (if (!witV e.kind 1 15 || !witV d 0 100000) = true then false else if zB (bareV (onD e d)) = true then false else emB (bareV (onD e d)) && ndK (onD e d))
 rw [e1, e2]
 rfl
def rstL (e : Ev) : List B := (((((if e.id = [] then [] else [e.id]) ++ kp e) ++ nmW e.names e.names.n) ++ enW e.kind e.list e.list.n) ++ paW e.path e.path.n) ++ e.ids.list
theorem wl_rst (e : Ev) (d : Int) : wl (onD e d) = wrdL.getD e.kind.toNat [] :: Lib.itoa d :: rstL e := by
 show (((((([wrdL.getD e.kind.toNat [], Lib.itoa d] ++ (if e.id = [] then [] else [e.id])) ++ kp e) ++ nmW e.names e.names.n) ++ enW e.kind e.list e.list.n) ++ paW e.path e.path.n) ++ e.ids.list) = _
 unfold rstL
 simp
theorem rst_ne {e : Ev} {d : Int} (h : frmV (onD e d) = true) : ∃ x r, rstL e = x :: r := by
 obtain ⟨⟨k1, k2⟩, _⟩ := frm_dec h
 by_cases hk : e.kind = 13 \/ e.kind = 14
 ·have h0 : e.id = [] := frm_noid (e := onD e d) h hk
  have hp : kp e = [Lib.itoa e.a, Lib.itoa e.b] := by
   unfold kp
   rcases hk with k | k <;> simp [k]
  unfold rstL
  rw [h0, hp]
  exact ⟨_, _, rfl⟩
 ·have h0 : e.id ≠ [] := name_ne (frm_id (e := onD e d) h (fun q => hk (.inl q)) (fun q => hk (.inr q)))
  unfold rstL
  rw [if_neg h0]
  exact ⟨_, _, rfl⟩
theorem wrd_skip {a t : B} (h : (32 : UInt8) ∉ a) (n : Nat) (hn : n < 2) : wrdG (a ++ 32 :: t) n = if n + 1 = 2 then some (32 :: t) else wrdG t (n + 1) := by
 induction a with
 | nil => simp only [List.nil_append, wrdG, if_true]
 | cons b a ih =>
  simp only [List.mem_cons, not_or] at h
  have hb : ¬ b = 32 := fun q => h.1 q.symm
  simp only [List.cons_append, wrdG]
  rw [if_neg hb, if_neg (by omega)]
  exact ih h.2
theorem kw_miss {k : Int} (h1 : 1 <= k) (h2 : k <= 15) : (32 : UInt8) ∉ wrdL.getD k.toNat [] := by
 have : ∀ n : Nat, n < 16 -> (32 : UInt8) ∉ wrdL.getD n [] := by decide
 exact this k.toNat (by omega)
theorem tail_cons (w : B) (r : List B) : Lib.joinTail [32] (w :: r) = 32 :: Lib.join (w :: r) [32] := by
 rw [Lib.join_cons]
 unfold Lib.joinTail
 simp
theorem etx_day {e : Ev} {d : Int} (h : frmV (onD e d) = true) : etxV (onD e d) = wrdL.getD e.kind.toNat [] ++ 32 :: (Lib.itoa d ++ 32 :: Lib.join (rstL e) [32]) := by
 obtain ⟨x, r, hr⟩ := rst_ne h
 unfold etxV
 rw [if_pos h, wl_rst, hr, Lib.join_cons, tail_cons, Lib.join_cons, tail_cons]
theorem wor_day {e : Ev} {d : Int} (h : frmV (onD e d) = true) : worV (etxV (onD e d)) = some (32 :: Lib.join (rstL e) [32]) := by
 obtain ⟨⟨(k1 : 1 <= e.kind), (k2 : e.kind <= 15)⟩, (hd : 0 <= d /\ d <= 100000), _⟩ := frm_dec h
 rw [etx_day h]
 unfold worV
 rw [wrd_skip (kw_miss k1 k2) 0 (by decide), if_neg (by decide), wrd_skip (RT1.itoa_miss hd.1 (.inl (by decide))) 1 (by decide), if_pos rfl]
theorem itoa_inj {c d : Int} (hc : 0 <= c) (hd : 0 <= d) (h : Lib.itoa c = Lib.itoa d) : c = d := by
 obtain ⟨u, rfl⟩ := Int.eq_ofNat_of_zero_le hc
 obtain ⟨v, rfl⟩ := Int.eq_ofNat_of_zero_le hd
 rw [RT1.itoa_nat, RT1.itoa_nat] at h
 have := RT1.decFrom_dec u
 rw [h, RT1.decFrom_dec v] at this
 have : v = u := by simpa using this
 rw [this]
theorem etx_days {e : Ev} {c d : Int} (hc : frmV (onD e c) = true) (hd : frmV (onD e d) = true) : (etxV (onD e c) = etxV (onD e d)) ↔ c = d := by
 constructor
 ·intro h
  rw [etx_day hc, etx_day hd] at h
  have h := (List.append_cancel_left h)
  simp only [List.cons.injEq, true_and] at h
  have b1 : 0 <= c /\ c <= 100000 := (frm_dec hc).2.1
  have b2 : 0 <= d /\ d <= 100000 := (frm_dec hd).2.1
  exact itoa_inj b1.1 b2.1 (RT1.split_uniq (RT1.itoa_miss b1.1 (.inl (by decide))) (RT1.itoa_miss b2.1 (.inl (by decide))) h).1
 ·rintro rfl; rfl
end RT7
end
