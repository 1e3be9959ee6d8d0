/- A part of the proof. -/
import Derived.Test.YtlfdokecdilkcaaGreatDoorF10
open Go Go.Eng Go.Proofs G1 G2 G3 G4 G6 G7 EV0 N1 N2 F1 F2 F3 F4 F5 F6 F7 F8 F9 F10
set_option maxRecDepth 100000
namespace F12
theorem frm_dec {e : Ev} (h : frmV e = true) : (1 <= e.kind /\ e.kind <= 15) /\ (0 <= e.day /\ e.day <= 100000) /\ zB (bareV e) = false /\ emB (bareV e) = true /\ ndK e = true := by
 unfold frmV at h
 split at h
 ·cases h
 ·rename_i h1
  split at h
  ·cases h
  ·rename_i h2
   rw [Bool.not_eq_true] at h1 h2
   rw [Bool.or_eq_false_iff, Bool.not_eq_false', Bool.not_eq_false'] at h1
   rw [Bool.and_eq_true] at h
   unfold witV at h1
   simp only [Bool.and_eq_true, decide_eq_true_eq] at h1
   exact ⟨h1.1, h1.2, h2, h.1, h.2⟩
theorem hn_ext {x y : Hn} (h1 : x.n = y.n) (h2 : x.l = y.l) (h3 : x.num = y.num) (h4 : x.den = y.den) : x = y := by
 cases x; cases y; simp_all
structure ZF (x : Ev) : Prop where
 a : x.a = 0
 b : x.b = 0
 off : x.off = 0
 id : x.id = []
 oth : x.oth = []
 txt : x.txt = []
 num : x.num = ⟨0, [], 0, 0⟩
 pt : x.pt = (0, 0)
theorem zB_iff {x : Ev} : zB x = false ↔ ZF x := by
 unfold zB
 simp only [Bool.or_eq_false_iff, Bool.not_eq_false', Bool.and_eq_true, Bool.and_true, decide_eq_true_eq, List.append_eq_nil_iff]
 constructor
 ·rintro ⟨⟨⟨⟨⟨h1, h2⟩, h3⟩, ⟨h4, h5⟩, h6⟩, h7, h8, h9, h10⟩, h11, h12⟩
  refine ⟨h1, h2, h3, h4, h5, h6, ?_, Prod.ext h11 h12⟩
  exact hn_ext h7 h8 h9 h10
 ·intro h
  rw [h.num, h.pt]
  exact ⟨⟨⟨⟨⟨h.a, h.b⟩, h.off⟩, ⟨h.id, h.oth⟩, h.txt⟩, rfl, rfl, rfl, rfl⟩, rfl, rfl⟩
theorem emB_iff {x : Ev} : emB x = true ↔ x.ids.n = 0 /\ x.names.n = 0 /\ x.path.n = 0 /\ x.list.n = 0 := by
 unfold emB
 rw [decide_eq_true_eq]
 omega
theorem ndK1 {e : Ev} (h : e.kind = 1) : ndK e = nd1 e := by unfold ndK; rw [h]; rfl
theorem ndK2 {e : Ev} (h : e.kind = 2) : ndK e = nd2 e := by unfold ndK; rw [h]; rfl
theorem ndK3 {e : Ev} (h : e.kind = 3) : ndK e = nd3 e := by unfold ndK; rw [h]; rfl
theorem ndK4 {e : Ev} (h : e.kind = 4) : ndK e = nd4 e := by unfold ndK; rw [h]; rfl
theorem ndK5 {e : Ev} (h : e.kind = 5) : ndK e = nd5 e := by unfold ndK; rw [h]; rfl
theorem ndK6 {e : Ev} (h : e.kind = 6) : ndK e = nd6 e := by unfold ndK; rw [h]; rfl
theorem ndK7 {e : Ev} (h : e.kind = 7) : ndK e = nd7 e := by unfold ndK; rw [h]; rfl
theorem ndK8 {e : Ev} (h : e.kind = 8) : ndK e = nd8 e := by unfold ndK; rw [h]; rfl
theorem ndK9 {e : Ev} (h : e.kind = 9) : ndK e = nd9 e := by unfold ndK; rw [h]; rfl
theorem ndK10 {e : Ev} (h : e.kind = 10) : ndK e = nd10 e := by unfold ndK; rw [h]; rfl
theorem ndK11 {e : Ev} (h : e.kind = 11) : ndK e = nd0 e := by unfold ndK; rw [h]; rfl
theorem ndK12 {e : Ev} (h : e.kind = 12) : ndK e = nd0 e := by unfold ndK; rw [h]; rfl
theorem ndK13 {e : Ev} (h : e.kind = 13) : ndK e = nd13 e := by unfold ndK; rw [h]; rfl
theorem ndK14 {e : Ev} (h : e.kind = 14) : ndK e = nd13 e := by unfold ndK; rw [h]; rfl
theorem ndK15 {e : Ev} (h : e.kind = 15) : ndK e = nd15 e := by unfold ndK; rw [h]; rfl
theorem kinds {k : Int} (h1 : 1 <= k) (h2 : k <= 15) : k = 1 \/ k = 2 \/ k = 3 \/ k = 4 \/ k = 5 \/ k = 6 \/ k = 7 \/ k = 8 \/ k = 9 \/ k = 10 \/ k = 11 \/ k = 12 \/ k = 13 \/ k = 14 \/ k = 15 := by omega
theorem on_bd {q : Pt} (h : onB q = true) : (-9223372036854775808 <= q.1 /\ q.1 <= 9223372036854775807) /\ (-9223372036854775808 <= q.2 /\ q.2 <= 9223372036854775807) := by
 have := onB_iff.1 h
 omega
theorem lin_ok {r : Pts} (h : linV r = true) : (∀ i, i < r.n -> onB (r.p i) = true) /\ 2 <= r.n /\ r.n <= 40 := by
 unfold linV at h
 simp only [Bool.and_eq_true, Bool.not_eq_true', decide_eq_true_eq] at h
 refine ⟨fun i hi => ?_, by omega, by omega⟩
 have := orB_false.1 h.1 i hi
 unfold badL at this
 rw [Bool.or_eq_false_iff, Bool.not_eq_false'] at this
 exact this.1
structure FF (e : Ev) : Prop where
 day : 0 <= e.day /\ e.day <= 100000
 names : e.names.n <= 8
 list : e.list.n <= 40
 path : e.path.n <= 40
 ids : e.ids.n <= 8
 a : 0 <= e.a /\ e.a <= 63
 b : 0 <= e.b /\ e.b <= 63
 off : 0 <= e.off /\ e.off <= 63
 pt : onB e.pt = true
 scr : ∀ i, i < e.names.n -> 0 <= (e.names.f i).script /\ (e.names.f i).script <= 7
 pth : ∀ i, i < e.path.n -> onB (e.path.p i) = true
 lst : ∀ i, i < e.list.n -> onB (e.list.f i).pt = true
theorem wit_iff {n a b : Int} : witV n a b = true ↔ a <= n /\ n <= b := by
 unfold witV
 simp only [Bool.and_eq_true, decide_eq_true_eq]
theorem nam_scr {r : Sq Nm} (h : namV r = true) : (∀ i, i < r.n -> 0 <= (r.f i).script /\ (r.f i).script <= 7) /\ 1 <= r.n /\ r.n <= 8 := by
 unfold namV at h
 simp only [Bool.and_eq_true, Bool.not_eq_true', wit_iff] at h
 refine ⟨fun i hi => ?_, by omega, by omega⟩
 have := orB_false.1 h.1 i hi
 unfold nbad at this
 simp only [Bool.or_eq_false_iff, Bool.not_eq_false', wit_iff] at this
 exact this.1.2
theorem pla_on {l : Sq En} {z : Bool} (h : plaV l z = true) : ∀ i, i < l.n -> onB (l.f i).pt = true := by
 intro i hi
 unfold plaV at h
 rw [Bool.not_eq_true'] at h
 have := orB_false.1 h i hi
 unfold pbad at this
 rw [Bool.or_eq_false_iff, Bool.not_eq_false'] at this
 exact this.1
theorem frm_ff {e : Ev} (h : frmV e = true) : FF e := by
 obtain ⟨⟨k1, k2⟩, hd, hz, hm, hn⟩ := frm_dec h
 have hz := zB_iff.1 hz
 have hm := emB_iff.1 hm
 have za := hz.a
 have zb := hz.b
 have zo := hz.off
 have zp := hz.pt
 obtain ⟨m1, m2, m3, m4⟩ := hm
 unfold bareV at za zb zo zp m1 m2 m3 m4
 dsimp only at za zb zo zp m1 m2 m3 m4
 have none : ∀ {T : Prop} {i n : Nat}, n = 0 -> i < n -> T := fun h1 h2 => by omega
 rcases kinds k1 k2 with k | k | k | k | k | k | k | k | k | k | k | k | k | k | k
 ·rw [ndK1 k] at hn; unfold nd1 nd0 at hn
  simp [k] at za zb zo zp m1 m2 m3 m4
  simp only [Bool.and_eq_true, wit_iff] at hn
  exact ⟨hd, by omega, by omega, by have := (val_ok hn.2).2.1; omega, by omega, by omega, by omega, by omega, by rw [zp]; decide, fun i hi => none m2 hi, fun i hi => (val_ok hn.2).1.2 i hi, fun i hi => none m4 hi⟩
 ·rw [ndK2 k] at hn; unfold nd2 nd0 at hn
  simp [k] at za zb zo zp m1 m2 m3 m4
  simp only [Bool.and_eq_true] at hn
  exact ⟨hd, by omega, by omega, by have := (lin_ok hn.2).2; omega, by omega, by omega, by omega, by omega, by rw [zp]; decide, fun i hi => none m2 hi, fun i hi => (lin_ok hn.2).1 i hi, fun i hi => none m4 hi⟩
 ·rw [ndK3 k] at hn; unfold nd3 nd0 at hn
  simp [k] at za zb zo zp m1 m2 m3 m4
  simp only [Bool.and_eq_true] at hn
  exact ⟨hd, by have := (nam_scr hn.2).2; omega, by omega, by omega, by omega, by omega, by omega, by omega, by rw [zp]; decide, (nam_scr hn.2).1, fun i hi => none m3 hi, fun i hi => none m4 hi⟩
 ·rw [ndK4 k] at hn; unfold nd4 at hn
  simp [k] at za zb zo zp m1 m2 m3 m4
  exact ⟨hd, by omega, by omega, by omega, by omega, by omega, by omega, by omega, by rw [zp]; decide, fun i hi => none m2 hi, fun i hi => none m3 hi, fun i hi => none m4 hi⟩
 ·rw [ndK5 k] at hn; unfold nd5 nd0 at hn
  simp [k] at za zb zo zp m1 m2 m3 m4
  simp only [Bool.and_eq_true] at hn
  exact ⟨hd, by omega, by omega, by have := (val_ok hn.2).2.1; omega, by omega, by omega, by omega, by omega, by rw [zp]; decide, fun i hi => none m2 hi, fun i hi => (val_ok hn.2).1.2 i hi, fun i hi => none m4 hi⟩
 ·rw [ndK6 k] at hn; unfold nd6 at hn
  simp [k] at za zb zo zp m1 m2 m3 m4
  simp only [Bool.and_eq_true] at hn
  exact ⟨hd, by omega, by omega, by omega, by omega, by omega, by omega, by omega, hn.2, fun i hi => none m2 hi, fun i hi => none m3 hi, fun i hi => none m4 hi⟩
 ·rw [ndK7 k] at hn; unfold nd7 at hn
  simp [k] at za zb zo zp m1 m2 m3 m4
  simp only [Bool.and_eq_true] at hn
  exact ⟨hd, by omega, by omega, by omega, by omega, by omega, by omega, by omega, by rw [zp]; decide, fun i hi => none m2 hi, fun i hi => none m3 hi, fun i hi => none m4 hi⟩
 ·rw [ndK8 k] at hn; unfold nd8 nd0 at hn
  simp [k] at za zb zo zp m1 m2 m3 m4
  simp only [Bool.and_eq_true, wit_iff] at hn
  exact ⟨hd, by omega, by omega, by omega, by omega, by omega, by omega, by omega, by rw [zp]; decide, fun i hi => none m2 hi, fun i hi => none m3 hi, pla_on hn.2⟩
 ·rw [ndK9 k] at hn; unfold nd9 at hn
  simp [k] at za zb zo zp m1 m2 m3 m4
  simp only [Bool.and_eq_true, wit_iff] at hn
  exact ⟨hd, by omega, by omega, by omega, by omega, by omega, by omega, by omega, by rw [zp]; decide, fun i hi => none m2 hi, fun i hi => none m3 hi, pla_on hn.2⟩
 ·rw [ndK10 k] at hn; unfold nd10 at hn
  simp [k] at za zb zo zp m1 m2 m3 m4
  simp only [Bool.and_eq_true, wit_iff] at hn
  exact ⟨hd, by omega, by omega, by omega, by omega, by omega, by omega, by omega, hn.2, fun i hi => none m2 hi, fun i hi => none m3 hi, fun i hi => none m4 hi⟩
 ·rw [ndK11 k] at hn; unfold nd0 at hn
  simp [k] at za zb zo zp m1 m2 m3 m4
  exact ⟨hd, by omega, by omega, by omega, by omega, by omega, by omega, by omega, by rw [zp]; decide, fun i hi => none m2 hi, fun i hi => none m3 hi, fun i hi => none m4 hi⟩
 ·rw [ndK12 k] at hn; unfold nd0 at hn
  simp [k] at za zb zo zp m1 m2 m3 m4
  exact ⟨hd, by omega, by omega, by omega, by omega, by omega, by omega, by omega, by rw [zp]; decide, fun i hi => none m2 hi, fun i hi => none m3 hi, fun i hi => none m4 hi⟩
 ·rw [ndK13 k] at hn; unfold nd13 autV at hn
  simp [k] at za zb zo zp m1 m2 m3 m4
  simp only [Bool.and_eq_true, wit_iff] at hn
  exact ⟨hd, by omega, by omega, by omega, by omega, by omega, by omega, by omega, by rw [zp]; decide, fun i hi => none m2 hi, fun i hi => none m3 hi, fun i hi => none m4 hi⟩
 ·rw [ndK14 k] at hn; unfold nd13 autV at hn
  simp [k] at za zb zo zp m1 m2 m3 m4
  simp only [Bool.and_eq_true, wit_iff] at hn
  exact ⟨hd, by omega, by omega, by omega, by omega, by omega, by omega, by omega, by rw [zp]; decide, fun i hi => none m2 hi, fun i hi => none m3 hi, fun i hi => none m4 hi⟩
 ·rw [ndK15 k] at hn; unfold nd15 nd0 at hn
  simp [k] at za zb zo zp m1 m2 m3 m4
  simp only [Bool.and_eq_true, wit_iff] at hn
  exact ⟨hd, by omega, by omega, by omega, by omega, by omega, by omega, by omega, by rw [zp]; decide, fun i hi => none m2 hi, fun i hi => none m3 hi, fun i hi => none m4 hi⟩
end F12
