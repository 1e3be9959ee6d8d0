/- A part of the proof. -/
import Derived.Test.YtlfdokecdilkcaaGreatDoorVO
import Derived.Test.YtlfdokecdilkcaaGreatDoorF12
section
section
namespace Go.Eng
open Go Go.RowKit Go.ChangeShapes Go.WideShapes Go.ChangeAt
section
variable {H : Type} {enc : TypeId × Value -> H} {P : Program} {W : World} {base : Nat} {sp : Nat -> Bool} {held : Bool}
theorem arg_one {r : Reach} {b0 : Nat} {fuel : Nat} {s : Sp} {t : TypeId} {v : Value} {d : DataW H} {ps : List MemPlace} (hs : spOf P (fuel + 1) t = some (.cons s .nil)) (hne : (∀ fs, P.underlying t ≠ some (.struct fs)) /\ ∀ m e, P.underlying t ≠ some (.array m e))
  (hval : Value.okWide P W r b0 t v) (hd : DataW.Trod enc P W base sp held t v d ps) (hw : Light P t d) : ∃ a, Sh s a /\ R (envU (Wall W) W) a [v] := by
 obtain ⟨n, hn⟩ := hd
 obtain ⟨_, _, l, h1, h2⟩ := trod_sh (fuel + 1) n t _ _ _ hs hn hw
 have hc : v.cells.toList = [v] := by
  simp only [spOf] at hs
  split at hs
  ·rename_i ht; obtain ⟨m, rfl⟩ := okWide_int ht hval; rfl
  ·rename_i ht; obtain ⟨m, rfl⟩ := okWide_bool ht hval; rfl
  ·rename_i ht; obtain ⟨m, rfl⟩ := okWide_string ht hval; rfl
  ·rename_i ht; obtain ⟨_, _, _, rfl⟩ := okWide_slice ht hval; rfl
  ·rename_i fs ht; exact absurd ht (hne.1 fs)
  ·rename_i m e ht; exact absurd ht (hne.2 m e)
  ·cases hs
 rw [hc] at h2
 obtain ⟨a, b, rfl, k1, k2⟩ := h1
 simp only [R] at h2
 obtain ⟨x, xs, e, k3, _⟩ := h2
 cases e
 exact ⟨a, k1, k3⟩
end
section
variable {H : Type} {enc : TypeId × Value -> H} {P : Program} {W W' : World}
end
end Go.Eng
end
section
namespace VO
open Go Go.Eng Go.Proofs Go.RowKit Go.ChangeShapes Go.WideShapes G1 G3 EV0 F22
set_option maxRecDepth 100000
theorem sp5 : spOf Tryz.prog 6 5 = some (.cons (.int .u8) .nil) := by kernel_rfl
theorem wf_u8 {m : Int} (h : (Lit.int .u8 m).wf = true) : 0 <= m /\ m <= 255 := by
 simp only [Lit.wf, Bool.and_eq_true, decide_eq_true_eq] at h
 have e1 : IntKind.min .u8 = 0 := rfl
 have e2 : IntKind.max .u8 = 255 := rfl
 omega
section
variable {H : Type} {enc : TypeId × Value -> H} {W : World} {base : Nat} {sp : Nat -> Bool} {held : Bool} {r : Reach} {b0 : Nat} {v : Value} {d : DataW H} {ps : List MemPlace}
theorem open5 (hval : Value.okWide Tryz.prog W r b0 5 v) (hd : DataW.Trod enc Tryz.prog W base sp held 5 v d ps) (hw : Light Tryz.prog 5 d) : ∃ m : Int, R (envU (Wall W) W) (.int .u8 m) [v] /\ 0 <= m /\ m <= 255 := by
 obtain ⟨a, h1, h2⟩ := arg_one sp5 ⟨fun fs e => by rw [Tryz.underlying5] at e; (cases e), fun m k e => by rw [Tryz.underlying5] at e; (cases e)⟩ hval hd hw
 obtain ⟨m, rfl, hw⟩ := h1
 exact ⟨m, h2, wf_u8 hw⟩
end
section
variable {H : Type} {enc : TypeId × Value -> H} {P : Program} {w : World} {base : Nat} {spare : Nat -> Bool} {held : Bool}
theorem trodAll_2 {t1 t2 : TypeId} {args : Array Value} {ds : List (DataW H)} {ps : List MemPlace} (h : DataW.TrodAll enc P w base spare held [t1, t2] args.toList ds ps) :
  ∃ v1 v2 d1 d2 p1 p2, args = #[v1, v2] /\ ds = [d1, d2] /\ DataW.Trod enc P w base spare held t1 v1 d1 p1 /\ DataW.Trod enc P w base spare held t2 v2 d2 p2 := by
 obtain ⟨v1, vs1, d1, ds1, p1, q1, hargs, rfl, rfl, h1, r1⟩ := trodAll_cons h
 obtain ⟨v2, vs2, d2, ds2, p2, q2, rfl, rfl, rfl, h2, r2⟩ := trodAll_cons r1
 obtain ⟨rfl, rfl, rfl⟩ := trodAll_nil r2
 exact ⟨v1, v2, d1, d2, p1, p2, by cases args; simp_all, rfl, h1, h2⟩
end
end VO
end
end
section
open Go Go.Eng Go.Proofs G1 G2 G3 G4 G6 G7 EV0 N1 N2 F1 F2 F3 F4 F5 F6 F7 F8 F9 F10 F12
namespace RT9
theorem dif_sym {g : Nat -> MKey} {n : Nat} : difB g n = true ↔ ∀ i, i < n -> ∀ j, j < n -> g j = g i -> j = i := by
 rw [dif_iff]
 constructor
 ·intro h i hi j hj he
  rcases Nat.lt_trichotomy j i with l | l | l
  ·exact absurd he (h i hi j l)
  ·exact l
  ·exact absurd he.symm (h j hj i l)
 ·intro h i hi j hj he
  have := h i hi j (by omega) he
  omega
end RT9
end
section
open Go Go.Eng Go.Proofs G1 G2 G3 G4 G6 G7 EV0 N1 N2 F1 F2 F3 F4 F5 F6 F7 F8 F9 F10 F12 RT9
namespace RT10
structure Ch (s : Nat -> Nat) (m n : Nat) : Prop where
 lt : ∀ i, i < m -> s i < n
 inj : ∀ i, i < m -> ∀ j, j < m -> s i = s j -> i = j
theorem orB_ch {s : Nat -> Nat} {m n : Nat} (h : Ch s m n) {f : Nat -> Bool} (hf : orB f n = false) : orB (fun i => f (s i)) m = false := by
 rw [orB_false] at hf ⊢
 exact fun i hi => hf _ (h.lt i hi)
theorem difB_ch {s : Nat -> Nat} {m n : Nat} (h : Ch s m n) {g : Nat -> MKey} (hg : difB g n = true) : difB (fun i => g (s i)) m = true := by
 rw [dif_sym] at hg ⊢
 exact fun i hi j hj he => h.inj j hj i hi (hg _ (h.lt i hi) _ (h.lt j hj) he)
theorem idsV_ch {s : Nat -> Nat} {m n : Nat} (h : Ch s m n) {f : Nat -> B} (hf : idsV ⟨n, f⟩ = true) : idsV ⟨m, fun i => f (s i)⟩ = true := by
 unfold idsV at hf ⊢
 dsimp only at hf ⊢
 rw [Bool.and_eq_true, Bool.not_eq_true'] at hf ⊢
 exact ⟨difB_ch h hf.1, orB_ch h (f := fun i => nidV (f i)) hf.2⟩
def sk (k j : Nat) : Nat := if j < k then j else j + 1
theorem ch_sk {k n : Nat} : Ch (sk k) (n - 1) n := by
 constructor
 ·intro i hi
  unfold sk
  split <;> omega
 ·intro i hi j hj
  unfold sk
  split <;> split <;> omega
def ct {T : Type} (k : Nat) (s : Sq T) : Sq T := ⟨s.n - 1, fun j => s.f (sk k j)⟩
theorem namV_ct {k : Nat} {s : Sq Nm} (h : namV s = true) : namV (ct k s) = decide (1 < s.n) := by
 unfold namV ct at *
 dsimp only at h ⊢
 simp only [Bool.and_eq_true, Bool.not_eq_true'] at h
 obtain ⟨h1, h2, h3⟩ := h
 have hw := wit_iff.1 h2
 rw [orB_ch ch_sk h1, difB_ch ch_sk h3, Bool.and_true, Bool.not_false, Bool.true_and, Bool.eq_iff_iff, wit_iff, decide_eq_true_iff]
 omega
theorem plaV_ct {k : Nat} {s : Sq En} {z : Bool} (h : plaV s z = true) : plaV (ct k s) z = true := by
 unfold plaV ct at *
 dsimp only at h ⊢
 rw [Bool.not_eq_true'] at h ⊢
 exact orB_ch ch_sk (f := fun i => pbad z (s.f i)) h
def sb (m k j : Nat) : Nat := if j < m then j else m + sk k (j - m)
theorem ch_sb {m k n : Nat} (hk : k < n) : Ch (sb m k) (m + (n - 1)) (m + n) := by
 constructor
 ·intro i hi
  unfold sb sk
  split
  ·omega
  ·split <;> omega
 ·intro i hi j hj
  unfold sb sk
  split <;> split <;> (try split) <;> (try split) <;> omega
theorem lstV_ct {k : Nat} {s : Sq En} {more : List B} (hk : k < s.n) (h : lstV s more = true) : lstV (ct k s) more = true := by
 unfold lstV at *
 simp only [Bool.and_eq_true, Bool.not_eq_true'] at h ⊢
 obtain ⟨h1, h2, h3⟩ := h
 refine ⟨orB_ch ch_sk (f := fun i => !vldV (s.f i).num) h1, ?_, difB_ch ch_sk (g := fun i => kH (s.f i).num) h3⟩
 rw [<- idsV_ch (ch_sb (m := more.length) hk) h2]
 refine idsV_congr fun j hj => ?_
 unfold sb mF
 by_cases h : j < more.length
 ·rw [if_pos h, if_pos h, if_pos h]
 ·rw [if_neg h, if_neg h, if_neg (by omega)]
  show (s.f _).id = (s.f _).id
  congr 2
  omega
theorem jn_ct {k : Nat} {e : Ev} {x : Sq B} (hx : x = ct k e.ids) (hk : k < e.ids.n) (h : idsV ⟨1 + e.ids.n, jnF e⟩ = true) : idsV ⟨1 + x.n, jnF ⟨e.kind, e.day, e.a, e.b, e.off, e.id, e.oth, e.txt, x, e.names, e.num, e.pt, e.path, e.list⟩⟩ = true := by
 subst hx
 rw [<- idsV_ch (ch_sb (m := 1) hk) h]
 refine idsV_congr fun j hj => ?_
 unfold sb jnF
 by_cases h : j < 1
 ·rw [if_pos h, if_pos h, if_pos h]
 ·rw [if_neg h, if_neg h, if_neg (by omega)]
  show e.ids.f _ = e.ids.f _
  congr 1
  omega
def ctN (k : Nat) (e : Ev) : Ev := ⟨e.kind, e.day, e.a, e.b, e.off, e.id, e.oth, e.txt, e.ids, ct k e.names, e.num, e.pt, e.path, e.list⟩
def ctL (k : Nat) (e : Ev) : Ev := ⟨e.kind, e.day, e.a, e.b, e.off, e.id, e.oth, e.txt, e.ids, e.names, e.num, e.pt, e.path, ct k e.list⟩
def ctI (k : Nat) (e : Ev) : Ev := ⟨e.kind, e.day, e.a, e.b, e.off, e.id, e.oth, e.txt, ct k e.ids, e.names, e.num, e.pt, e.path, e.list⟩
theorem ct_okN {e : Ev} {k : Nat} (h : okV e) : okV (ctN k e) := ⟨h.id, h.oth, h.txt, h.ids, ⟨Nat.le_trans (Nat.sub_le _ _) h.names.1, fun i (hi : i < e.names.n - 1) => h.names.2 _ (ch_sk.lt i hi)⟩, h.num, h.path, h.list⟩
theorem ct_okL {e : Ev} {k : Nat} (h : okV e) : okV (ctL k e) := ⟨h.id, h.oth, h.txt, h.ids, h.names, h.num, h.path, ⟨Nat.le_trans (Nat.sub_le _ _) h.list.1, fun i (hi : i < e.list.n - 1) => h.list.2 _ (ch_sk.lt i hi)⟩⟩
theorem ct_okI {e : Ev} {k : Nat} (h : okV e) : okV (ctI k e) := ⟨h.id, h.oth, h.txt, ⟨Nat.le_trans (Nat.sub_le _ _) h.ids.1, fun i (hi : i < e.ids.n - 1) => h.ids.2 _ (ch_sk.lt i hi)⟩, h.names, h.num, h.path, h.list⟩
theorem frm_of {e x : Ev} {b : Bool} (h : frmV e = true) (hk : x.kind = e.kind) (hd : x.day = e.day) (hz : zB (bareV x) = zB (bareV e)) (he : emB (bareV x) = true) (hn : ndK x = b) : frmV x = b := by
 obtain ⟨h1, h2, h3, h4, h5⟩ := frm_dec h
 unfold frmV
 rw [hk, hd, wit_iff.2 h1, wit_iff.2 h2, hz, h3, he, hn]
 rfl
theorem kind_nam {e : Ev} (h : frmV e = true) (hn : 0 < e.names.n) : e.kind = 3 := by
 have := (emB_iff.1 (frm_dec h).2.2.2.1).2.1
 unfold bareV at this
 dsimp only at this
 split at this
 ·assumption
 ·omega
theorem kind_lst {e : Ev} (h : frmV e = true) (hn : 0 < e.list.n) : e.kind = 8 \/ e.kind = 9 := by
 have := (emB_iff.1 (frm_dec h).2.2.2.1).2.2.2
 unfold bareV at this
 dsimp only at this
 split at this
 ·assumption
 ·omega
theorem kind_ids {e : Ev} (h : frmV e = true) (hn : 0 < e.ids.n) : e.kind = 10 := by
 have := (emB_iff.1 (frm_dec h).2.2.2.1).1
 unfold bareV at this
 dsimp only at this
 split at this
 ·assumption
 ·omega
theorem few_nam {e : Ev} {k : Nat} (h : frmV e = true) (hn : 0 < e.names.n) : frmV (ctN k e) = decide (1 < e.names.n) := by
 have hk := kind_nam h hn
 obtain ⟨h1, h2, h3, h4, h5⟩ := frm_dec h
 rw [ndK3 hk] at h5
 unfold nd3 at h5
 rw [Bool.and_eq_true] at h5
 refine frm_of h rfl rfl rfl ?_ ?_
 ·rw [emB_iff] at h4 ⊢
  refine ⟨h4.1, ?_, h4.2.2.1, h4.2.2.2⟩
  show (if e.kind = 3 then 0 else _) = 0
  rw [if_pos hk]
 ·rw [ndK3 (e := ctN k e) hk]
  show (nd0 e && namV (ct k e.names)) = _
  rw [h5.1, namV_ct h5.2]
  rfl
theorem few_lst {e : Ev} {k : Nat} (h : frmV e = true) (hk : k < e.list.n) : frmV (ctL k e) = (decide (2 < e.list.n) || (decide (1 < e.list.n) && decide (e.kind = 8))) := by
 have hkd := kind_lst h (by omega)
 obtain ⟨h1, h2, h3, h4, h5⟩ := frm_dec h
 have he : emB (bareV (ctL k e)) = true := by
  rw [emB_iff] at h4 ⊢
  refine ⟨h4.1, h4.2.1, h4.2.2.1, ?_⟩
  show (if e.kind = 8 \/ e.kind = 9 then 0 else _) = 0
  rw [if_pos hkd]
 refine frm_of h rfl rfl rfl he ?_
 rcases hkd with kd | kd
 ·rw [ndK8 kd] at h5
  rw [ndK8 (e := ctL k e) kd]
  unfold nd8 at h5
  simp only [Bool.and_eq_true] at h5
  obtain ⟨⟨⟨a1, a2⟩, a3⟩, a4⟩ := h5
  have hw := wit_iff.1 a2
  show (((nd0 e && witV ((e.list.n - 1 : Nat) : Int) 1 40) && lstV (ct k e.list) []) && plaV (ct k e.list) true) = _
  rw [a1, lstV_ct hk a3, plaV_ct a4, Bool.and_true, Bool.and_true, Bool.true_and, Bool.eq_iff_iff, wit_iff]
  simp only [Bool.or_eq_true, Bool.and_eq_true, decide_eq_true_eq]
  omega
 ·rw [ndK9 kd] at h5
  rw [ndK9 (e := ctL k e) kd]
  unfold nd9 at h5
  simp only [Bool.and_eq_true] at h5
  obtain ⟨⟨a2, a3⟩, a4⟩ := h5
  have hw := wit_iff.1 a2
  show ((witV ((e.list.n - 1 : Nat) : Int) 2 8 && lstV (ct k e.list) [e.id]) && plaV (ct k e.list) false) = _
  rw [lstV_ct hk a3, plaV_ct a4, Bool.and_true, Bool.and_true, Bool.eq_iff_iff, wit_iff]
  simp only [Bool.or_eq_true, Bool.and_eq_true, decide_eq_true_eq]
  omega
theorem few_ids {e : Ev} {k : Nat} (h : frmV e = true) (hk : k < e.ids.n) : frmV (ctI k e) = decide (2 < e.ids.n) := by
 have kd := kind_ids h (by omega)
 obtain ⟨h1, h2, h3, h4, h5⟩ := frm_dec h
 rw [ndK10 kd] at h5
 unfold nd10 at h5
 simp only [Bool.and_eq_true] at h5
 obtain ⟨⟨⟨a1, a2⟩, a3⟩, a4⟩ := h5
 have hw := wit_iff.1 a1
 refine frm_of h rfl rfl rfl ?_ ?_
 ·rw [emB_iff] at h4 ⊢
  refine ⟨?_, h4.2.1, h4.2.2.1, h4.2.2.2⟩
  show (if e.kind = 10 then 0 else _) = 0
  rw [if_pos kd]
 ·rw [ndK10 (e := ctI k e) kd]
  show (((witV ((e.ids.n - 1 : Nat) : Int) 2 8 && idsV ⟨1 + (ct k e.ids).n, jnF (ctI k e)⟩) && vldV e.num) && onB e.pt) = _
  rw [show idsV ⟨1 + (ct k e.ids).n, jnF (ctI k e)⟩ = true from jn_ct rfl hk a2, a3, a4, Bool.and_true, Bool.and_true, Bool.and_true, Bool.eq_iff_iff, wit_iff, decide_eq_true_iff]
  omega
end RT10
end
