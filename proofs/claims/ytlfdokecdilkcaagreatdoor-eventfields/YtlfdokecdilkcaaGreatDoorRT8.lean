/- A part of the proof. -/
import Derived.Test.YtlfdokecdilkcaaGreatDoorF12
import Derived.Test.YtlfdokecdilkcaaGreatDoorVO
import Derived.Test.YtlfdokecdilkcaaGreatDoorSP
import Derived.Lib.AtoiTie
import Derived.Lib.ItoaMem
import Derived.Lib.Join
import Derived.Test.YtlfdokecdilkcaaGreatDoorF18
import Derived.Test.YtlfdokecdilkcaaGreatDoorF13
import Derived.Test.YtlfdokecdilkcaaGreatDoorRT3
import Derived.Test.YtlfdokecdilkcaaGreatDoorF25
section
section
open Go Go.Eng Go.Proofs G1 G2 G3 G4 G6 G7 EV0 N1 N2 F1 F2 F3 F4 F5 F6 F7 F8 F9 F10
set_option maxRecDepth 100000
namespace F12
theorem name_ne {s : B} (h : L10.nameV s = true) : s ≠ [] := by
 rintro rfl
 exact absurd h (by decide)
theorem ids_name {r : Sq B} (h : idsV r = true) {i : Nat} (hi : i < r.n) : L10.nameV (r.f i) = true := by
 unfold idsV at h
 rw [Bool.and_eq_true, Bool.not_eq_true'] at h
 have := orB_false.1 h.2 i hi
 unfold nidV at this
 simpa using this
end F12
end
section
namespace Go.Eng
open Go Go.RowKit Go.ChangeShapes Go.WideShapes Go.ChangeAt
section
variable {H : Type} {enc : TypeId × Value -> H} {P : Program} {W : World} {base : Nat} {sp : Nat -> Bool} {held : Bool}
theorem arg_one {r : Reach} {b0 : Nat} {fuel : Nat} {s : Sp} {t : TypeId} {v : Value} {d : DataW H} {ps : List MemPlace} (hs : spOf P (fuel + 1) t = some (.cons s .nil)) (hne : (∀ fs, P.underlying t ≠ some (.struct fs)) /\ ∀ m e, P.underlying t ≠ some (.array m e))
  (hval : Value.okWide P W r b0 t v) (hd : DataW.Trod enc P W base sp held t v d ps) (hw : Light P t d) : ∃ a, Sh s a /\ R (envU (Wall W) W) a [v] := by
 obtain ⟨n, hn⟩ := hd
 obtain ⟨_, _, l, h1, h2⟩ := trod_sh (fuel + 1) n t _ _ _ hs hn hw
 have hc : v.cells.toList = [v] := by
  simp only [spOf] at hs
  split at hs
  ·rename_i ht; obtain ⟨m, rfl⟩ := okWide_int ht hval; rfl
  ·rename_i ht; obtain ⟨m, rfl⟩ := okWide_bool ht hval; rfl
  ·rename_i ht; obtain ⟨m, rfl⟩ := okWide_string ht hval; rfl
  ·rename_i ht; obtain ⟨_, _, _, rfl⟩ := okWide_slice ht hval; rfl
  ·rename_i fs ht; exact absurd ht (hne.1 fs)
  ·rename_i m e ht; exact absurd ht (hne.2 m e)
  ·cases hs
 rw [hc] at h2
 obtain ⟨a, b, rfl, k1, k2⟩ := h1
 simp only [R] at h2
 obtain ⟨x, xs, e, k3, _⟩ := h2
 cases e
 exact ⟨a, k1, k3⟩
end
section
variable {H : Type} {enc : TypeId × Value -> H} {P : Program} {W W' : World}
end
end Go.Eng
end
section
namespace VO
open Go Go.Eng Go.Proofs Go.RowKit Go.ChangeShapes Go.WideShapes G1 G3 EV0 F22
set_option maxRecDepth 100000
theorem sp5 : spOf Tryz.prog 6 5 = some (.cons (.int .u8) .nil) := by kernel_rfl
theorem wf_u8 {m : Int} (h : (Lit.int .u8 m).wf = true) : 0 <= m /\ m <= 255 := by
 simp only [Lit.wf, Bool.and_eq_true, decide_eq_true_eq] at h
 have e1 : IntKind.min .u8 = 0 := rfl
 have e2 : IntKind.max .u8 = 255 := rfl
 omega
section
variable {H : Type} {enc : TypeId × Value -> H} {W : World} {base : Nat} {sp : Nat -> Bool} {held : Bool} {r : Reach} {b0 : Nat} {v : Value} {d : DataW H} {ps : List MemPlace}
theorem open5 (hval : Value.okWide Tryz.prog W r b0 5 v) (hd : DataW.Trod enc Tryz.prog W base sp held 5 v d ps) (hw : Light Tryz.prog 5 d) : ∃ m : Int, R (envU (Wall W) W) (.int .u8 m) [v] /\ 0 <= m /\ m <= 255 := by
 obtain ⟨a, h1, h2⟩ := arg_one sp5 ⟨fun fs e => by rw [Tryz.underlying5] at e; (cases e), fun m k e => by rw [Tryz.underlying5] at e; (cases e)⟩ hval hd hw
 obtain ⟨m, rfl, hw⟩ := h1
 exact ⟨m, h2, wf_u8 hw⟩
end
section
variable {H : Type} {enc : TypeId × Value -> H} {P : Program} {w : World} {base : Nat} {spare : Nat -> Bool} {held : Bool}
theorem trodAll_2 {t1 t2 : TypeId} {args : Array Value} {ds : List (DataW H)} {ps : List MemPlace} (h : DataW.TrodAll enc P w base spare held [t1, t2] args.toList ds ps) :
  ∃ v1 v2 d1 d2 p1 p2, args = #[v1, v2] /\ ds = [d1, d2] /\ DataW.Trod enc P w base spare held t1 v1 d1 p1 /\ DataW.Trod enc P w base spare held t2 v2 d2 p2 := by
 obtain ⟨v1, vs1, d1, ds1, p1, q1, hargs, rfl, rfl, h1, r1⟩ := trodAll_cons h
 obtain ⟨v2, vs2, d2, ds2, p2, q2, rfl, rfl, rfl, h2, r2⟩ := trodAll_cons r1
 obtain ⟨rfl, rfl, rfl⟩ := trodAll_nil r2
 exact ⟨v1, v2, d1, d2, p1, p2, by cases args; simp_all, rfl, h1, h2⟩
end
end VO
end
end
section
namespace RT1
open Go
abbrev B := List UInt8
end RT1
end
section
open Go Go.Eng Go.Proofs EV0 F16 F11
namespace RT2
inductive Wd : B -> B -> Prop
 | plain {w : B} (h1 : w ≠ []) (h2 : (32 : UInt8) ∉ w) (h3 : (34 : UInt8) ∉ w) : Wd w w
 | quote {u : B} (h : (34 : UInt8) ∉ u) : Wd (quoV u) u
theorem wd_ne {w u : B} (h : Wd w u) : w ≠ [] := by
 cases h with
 | plain h1 _ _ => exact h1
 | quote _ => unfold quoV; simp
theorem tail_step (w : B) (r : List B) : Lib.joinTail [32] (w :: r) = 32 :: Lib.join (w :: r) [32] := by
 rw [Lib.join_cons]
 unfold Lib.joinTail
 simp
inductive Wds : List B -> List B -> Prop
 | nil : Wds [] []
 | cons {w u : B} {ws us : List B} (h : Wd w u) (t : Wds ws us) : Wds (w :: ws) (u :: us)
theorem Wds.append {a b c d : List B} (h : Wds a b) (k : Wds c d) : Wds (a ++ c) (b ++ d) := by
 induction h with
 | nil => exact k
 | cons h _ ih => exact .cons h ih
theorem Wds.one {w u : B} (h : Wd w u) : Wds [w] [u] := .cons h .nil
theorem Wds.len {a b : List B} (h : Wds a b) : a.length = b.length := by
 induction h with
 | nil => rfl
 | cons _ _ ih => simp [ih]
theorem join_len {ws us : List B} (h : Wds ws us) : ws.length <= (Lib.join ws [32]).length := by
 induction h with
 | nil => exact Nat.zero_le _
 | @cons w u ws us h t ih =>
  have := List.length_pos_iff.2 (wd_ne h)
  rw [Lib.join_cons, List.length_append, List.length_cons]
  cases ws with
  | nil => simp; omega
  | cons x r =>
   rw [tail_step]
   have e : (32 :: Lib.join (x :: r) [32]).length = (Lib.join (x :: r) [32]).length + 1 := rfl
   omega
end RT2
end
section
open Go Go.Eng Go.Proofs G1 G2 G3 G4 G6 G7 EV0 N1 N2 F1 F2 F3 F4 F5 F6 F7 F8 F9 F10 F11 F12 F13 F16 F17 F18 F20 RT2 RT3
set_option maxRecDepth 100000
namespace RT5
def kpU (e : Ev) : List B :=
 if e.kind = 1 then [Lib.itoa e.a] else if e.kind = 4 then [e.oth] else if e.kind = 6 then [e.oth, e.txt, txtV e.num, spoV e.pt] else if e.kind = 7 then [e.oth, e.txt] else
 if e.kind = 10 then [txtV e.num, spoV e.pt] else if e.kind = 13 \/ e.kind = 14 then [Lib.itoa e.a, Lib.itoa e.b] else if e.kind = 15 then [Lib.itoa e.off, e.txt] else []
def nmU (s : Sq Nm) : Nat -> List B
 | 0 => []
 | i + 1 => nmU s i ++ [(s.f i).lang, Lib.itoa (s.f i).script, (s.f i).text]
def enU (k : Int) (s : Sq En) : Nat -> List B
 | 0 => []
 | i + 1 => enU k s i ++ ([(s.f i).id, txtV (s.f i).num] ++ (if k = 9 then [spoV (s.f i).pt] else []))
def us (e : Ev) : List B := ((((([wrdL.getD e.kind.toNat [], Lib.itoa e.day] ++ (if e.id = [] then [] else [e.id])) ++ kpU e) ++ nmU e.names e.names.n) ++ enU e.kind e.list e.list.n) ++ paW e.path e.path.n) ++ e.ids.list
theorem frm_names {e : Ev} (h : frmV e = true) : e.names.n = 0 \/ (e.kind = 3 /\ namV e.names = true) := by
 obtain ⟨_, _, _, hm, hn⟩ := frm_dec h
 have := (emB_iff.1 hm).2.1
 unfold bareV at this
 dsimp only at this
 split at this
 ·rename_i k
  rw [ndK3 k] at hn; unfold nd3 at hn
  rw [Bool.and_eq_true] at hn
  exact .inr ⟨k, hn.2⟩
 ·exact .inl this
theorem frm_list {e : Ev} (h : frmV e = true) : e.list.n = 0 \/ (e.kind = 8 /\ nd8 e = true) \/ (e.kind = 9 /\ nd9 e = true) := by
 obtain ⟨_, _, _, hm, hn⟩ := frm_dec h
 have := (emB_iff.1 hm).2.2.2
 unfold bareV at this
 dsimp only at this
 split at this
 ·rename_i k
  rcases k with k | k
  ·rw [ndK8 k] at hn
   exact .inr (.inl ⟨k, hn⟩)
  ·rw [ndK9 k] at hn
   exact .inr (.inr ⟨k, hn⟩)
 ·exact .inl this
theorem frm_ids {e : Ev} (h : frmV e = true) : e.ids.n = 0 \/ (e.kind = 10 /\ nd10 e = true) := by
 obtain ⟨_, _, _, hm, hn⟩ := frm_dec h
 have := (emB_iff.1 hm).1
 unfold bareV at this
 dsimp only at this
 split at this
 ·rename_i k
  rw [ndK10 k] at hn
  exact .inr ⟨k, hn⟩
 ·exact .inl this
theorem frm_pathz {e : Ev} (h : frmV e = true) : e.path.n = 0 \/ e.kind = 1 \/ e.kind = 2 \/ e.kind = 5 := by
 obtain ⟨_, _, _, hm, hn⟩ := frm_dec h
 have := (emB_iff.1 hm).2.2.1
 unfold bareV at this
 dsimp only at this
 split at this
 ·rename_i k
  exact .inr k
 ·exact .inl this
theorem ids_ok {e : Ev} (h : frmV e = true) : ∀ i, i < e.ids.n -> L10.nameV (e.ids.f i) = true := by
 intro i hi
 rcases frm_ids h with h0 | ⟨_, hn⟩
 ·omega
 ·unfold nd10 at hn
  simp only [Bool.and_eq_true] at hn
  have := ids_name (i := 1 + i) hn.1.1.2 (by show 1 + i < 1 + e.ids.n; omega)
  rw [show (⟨1 + e.ids.n, jnF e⟩ : Sq B).f (1 + i) = jnF e (1 + i) from rfl] at this
  unfold jnF at this
  rw [if_neg (by omega), show 1 + i - 1 = i by omega] at this
  exact this
theorem lit2 {a b : B} (h : idsV (litS [a, b]) = true) : L10.nameV a = true /\ L10.nameV b = true := by
 have e0 := ids_name (r := litS [a, b]) (i := 0) h (by show 0 < 2; decide)
 have e1 := ids_name (r := litS [a, b]) (i := 1) h (by show 1 < 2; decide)
 exact ⟨e0, e1⟩
theorem lit3 {a b c : B} (h : idsV (litS [a, b, c]) = true) : L10.nameV a = true /\ L10.nameV b = true /\ L10.nameV c = true := by
 have e0 := ids_name (r := litS [a, b, c]) (i := 0) h (by show 0 < 3; decide)
 have e1 := ids_name (r := litS [a, b, c]) (i := 1) h (by show 1 < 3; decide)
 have e2 := ids_name (r := litS [a, b, c]) (i := 2) h (by show 2 < 3; decide)
 exact ⟨e0, e1, e2⟩
end RT5
end
section
open Go Go.Eng Go.Proofs G1 G2 G3 G4 G6 G7 EV0 N1 N2 F1 F2 F3 F4 F5 F6 F7 F8 F9 F10 F11 F12 F13 F16 F17 F18 F20 RT2 RT3 RT5
set_option maxRecDepth 100000
namespace RT6
theorem sq_none {T : Type} {s t : Sq T} (h1 : s.n = 0) (h2 : t.n = 0) : SqE s t := ⟨h1.trans h2.symm, fun i hi => absurd hi (by omega)⟩
theorem pt_none {s t : Pts} (h1 : s.n = 0) (h2 : t.n = 0) : PtE s t := ⟨h1.trans h2.symm, fun i hi => absurd hi (by omega)⟩
structure Zs (e : Ev) : Prop where
 a : e.kind = 13 \/ e.kind = 14 \/ e.kind = 1 \/ e.a = 0
 b : e.kind = 13 \/ e.kind = 14 \/ e.b = 0
 off : e.kind = 15 \/ e.off = 0
 id : ¬ (e.kind = 13 \/ e.kind = 14) \/ e.id = []
 oth : (e.kind = 4 \/ e.kind = 6 \/ e.kind = 7) \/ e.oth = []
 txt : (e.kind = 6 \/ e.kind = 7 \/ e.kind = 15) \/ e.txt = []
 num : (e.kind = 6 \/ e.kind = 10) \/ e.num = ⟨0, [], 0, 0⟩
 pt : (e.kind = 6 \/ e.kind = 10) \/ e.pt = (0, 0)
theorem zs_of {e : Ev} (h : frmV e = true) : Zs e := by
 have hz := zB_iff.1 (frm_dec h).2.2.1
 obtain ⟨a, b, off, id, oth, txt, num, pt⟩ := hz
 unfold bareV at a b off id oth txt num pt
 dsimp only at a b off id oth txt num pt
 constructor
 ·split at a
  ·rename_i k; rcases k with k | k | k <;> simp [k]
  ·simp [a]
 ·split at b
  ·rename_i k; rcases k with k | k <;> simp [k]
  ·simp [b]
 ·split at off
  ·rename_i k; exact .inl k
  ·exact .inr off
 ·split at id
  ·exact .inr id
  ·rename_i k; exact .inl k
 ·split at oth
  ·rename_i k; exact .inl k
  ·exact .inr oth
 ·split at txt
  ·rename_i k; exact .inl k
  ·exact .inr txt
 ·split at num
  ·rename_i k; exact .inl k
  ·exact .inr num
 ·split at pt
  ·rename_i k; exact .inl k
  ·exact .inr pt
end RT6
end
section
open Go Go.Eng Go.Proofs G1 G2 G3 G4 G6 G7 EV0 N1 N2 F1 F2 F3 F4 F5 F6 F7 F8 F9 F10 F11 F12 F13 RT3 RT5 RT6
namespace RT8
theorem oth_ne {e : Ev} (h : frmV e = true) (hk : e.kind = 4 \/ e.kind = 6 \/ e.kind = 7) : e.oth ≠ [] := by
 have hn := (frm_dec h).2.2.2.2
 rcases hk with k | k | k
 ·rw [ndK4 k] at hn; unfold nd4 at hn
  exact name_ne (lit2 hn).2
 ·rw [ndK6 k] at hn; unfold nd6 at hn
  simp only [Bool.and_eq_true] at hn
  exact name_ne (lit3 hn.1.1).2.1
 ·rw [ndK7 k] at hn; unfold nd7 at hn
  simp only [Bool.and_eq_true] at hn
  exact name_ne (lit2 hn.1).2
theorem den_ne {s : B} {m : Int} (h : denV s m = true) : s ≠ [] := by
 unfold denV at h
 simp only [Bool.and_eq_true, Bool.not_eq_true', decide_eq_false_iff_not] at h
 exact h.1.1
theorem vei_ne {s : B} (h : veiV s = true) : s ≠ [] := by
 unfold veiV at h
 simp only [Bool.and_eq_true, Bool.not_eq_true', decide_eq_false_iff_not] at h
 exact h.1.1
theorem txt_ne {e : Ev} (h : frmV e = true) (hk : e.kind = 6 \/ e.kind = 7 \/ e.kind = 15) : e.txt ≠ [] := by
 have hn := (frm_dec h).2.2.2.2
 rcases hk with k | k | k
 ·rw [ndK6 k] at hn; unfold nd6 at hn
  simp only [Bool.and_eq_true] at hn
  exact name_ne (lit3 hn.1.1).2.2
 ·rw [ndK7 k] at hn; unfold nd7 at hn
  simp only [Bool.and_eq_true] at hn
  exact den_ne hn.2
 ·rw [ndK15 k] at hn; unfold nd15 at hn
  simp only [Bool.and_eq_true] at hn
  exact vei_ne hn.2
theorem ids_ne {e : Ev} (h : frmV e = true) (k : e.kind = 10) : 0 < e.ids.n := by
 have hn := (frm_dec h).2.2.2.2
 rw [ndK10 k] at hn; unfold nd10 at hn
 simp only [Bool.and_eq_true, wit_iff] at hn
 omega
theorem nam_ne {e : Ev} (h : frmV e = true) (k : e.kind = 3) : 0 < e.names.n := by
 have hn := (frm_dec h).2.2.2.2
 rw [ndK3 k] at hn; unfold nd3 at hn
 simp only [Bool.and_eq_true] at hn
 have := (nam_scr hn.2).2.1
 omega
theorem lst_ne {e : Ev} (h : frmV e = true) (hk : e.kind = 8 \/ e.kind = 9) : 0 < e.list.n := by
 have hn := (frm_dec h).2.2.2.2
 rcases hk with k | k
 ·rw [ndK8 k] at hn; unfold nd8 at hn
  simp only [Bool.and_eq_true, wit_iff] at hn
  omega
 ·rw [ndK9 k] at hn; unfold nd9 at hn
  simp only [Bool.and_eq_true, wit_iff] at hn
  omega
theorem pth_ne {e : Ev} (h : frmV e = true) (hk : e.kind = 1 \/ e.kind = 2 \/ e.kind = 5) : 0 < e.path.n := by
 have hn := (frm_dec h).2.2.2.2
 rcases hk with k | k | k
 ·rw [ndK1 k] at hn; unfold nd1 at hn
  simp only [Bool.and_eq_true] at hn
  have := (val_ok hn.2).2.1
  omega
 ·rw [ndK2 k] at hn; unfold nd2 at hn
  simp only [Bool.and_eq_true] at hn
  have := (lin_ok hn.2).2
  omega
 ·rw [ndK5 k] at hn; unfold nd5 at hn
  simp only [Bool.and_eq_true] at hn
  have := (val_ok hn.2).2.1
  omega
theorem no_oth {e : Ev} {s : B} (h : frmV e = true) (h0 : e.oth = []) (hs : s ≠ []) : frmV ⟨e.kind, e.day, e.a, e.b, e.off, e.id, s, e.txt, e.ids, e.names, e.num, e.pt, e.path, e.list⟩ = false := by
 rw [Bool.eq_false_iff]
 intro hx
 rcases (zs_of hx).oth with k | k
 ·exact oth_ne h k h0
 ·exact hs k
theorem no_txt {e : Ev} {s : B} (h : frmV e = true) (h0 : e.txt = []) (hs : s ≠ []) : frmV ⟨e.kind, e.day, e.a, e.b, e.off, e.id, e.oth, s, e.ids, e.names, e.num, e.pt, e.path, e.list⟩ = false := by
 rw [Bool.eq_false_iff]
 intro hx
 rcases (zs_of hx).txt with k | k
 ·exact txt_ne h k h0
 ·exact hs k
theorem no_off {e : Ev} {m : Int} (h0 : e.kind ≠ 15) (hs : m ≠ 0) : frmV ⟨e.kind, e.day, e.a, e.b, m, e.id, e.oth, e.txt, e.ids, e.names, e.num, e.pt, e.path, e.list⟩ = false := by
 rw [Bool.eq_false_iff]
 intro hx
 rcases (zs_of hx).off with k | k
 ·exact h0 k
 ·exact hs k
theorem no_ids {e : Ev} {s : Sq B} (h : frmV e = true) (h0 : ¬ 0 < e.ids.n) (hs : 0 < s.n) : frmV ⟨e.kind, e.day, e.a, e.b, e.off, e.id, e.oth, e.txt, s, e.names, e.num, e.pt, e.path, e.list⟩ = false := by
 rw [Bool.eq_false_iff]
 intro hx
 rcases frm_ids hx with k | ⟨k, _⟩
 ·have : s.n = 0 := k
  omega
 ·exact h0 (ids_ne h k)
theorem no_nam {e : Ev} {s : Sq Nm} (h : frmV e = true) (h0 : ¬ 0 < e.names.n) (hs : 0 < s.n) : frmV ⟨e.kind, e.day, e.a, e.b, e.off, e.id, e.oth, e.txt, e.ids, s, e.num, e.pt, e.path, e.list⟩ = false := by
 rw [Bool.eq_false_iff]
 intro hx
 rcases frm_names hx with k | ⟨k, _⟩
 ·have : s.n = 0 := k
  omega
 ·exact h0 (nam_ne h k)
theorem no_lst {e : Ev} {s : Sq En} (h : frmV e = true) (h0 : ¬ 0 < e.list.n) (hs : 0 < s.n) : frmV ⟨e.kind, e.day, e.a, e.b, e.off, e.id, e.oth, e.txt, e.ids, e.names, e.num, e.pt, e.path, s⟩ = false := by
 rw [Bool.eq_false_iff]
 intro hx
 rcases frm_list hx with k | ⟨k, _⟩ | ⟨k, _⟩
 ·have : s.n = 0 := k
  omega
 ·exact h0 (lst_ne h (.inl k))
 ·exact h0 (lst_ne h (.inr k))
theorem no_pth {e : Ev} {s : Pts} (h : frmV e = true) (h0 : ¬ 0 < e.path.n) (hs : 0 < s.n) : frmV ⟨e.kind, e.day, e.a, e.b, e.off, e.id, e.oth, e.txt, e.ids, e.names, e.num, e.pt, s, e.list⟩ = false := by
 rw [Bool.eq_false_iff]
 intro hx
 rcases frm_pathz hx with k | k
 ·have : s.n = 0 := k
  omega
 ·exact h0 (pth_ne h k)
end RT8
end
