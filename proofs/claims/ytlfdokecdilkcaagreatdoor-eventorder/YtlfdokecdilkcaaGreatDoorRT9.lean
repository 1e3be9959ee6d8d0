/- A part of the proof. -/
import Derived.Test.YtlfdokecdilkcaaGreatDoorF12
open Go Go.Eng Go.Proofs G1 G2 G3 G4 G6 G7 EV0 N1 N2 F1 F2 F3 F4 F5 F6 F7 F8 F9 F10 F12
namespace RT9
structure Pm (s : Nat -> Nat) (n : Nat) : Prop where
 lt : ∀ i, i < n -> s i < n
 inv : ∀ i, i < n -> s (s i) = i
theorem orB_pm {s : Nat -> Nat} {n : Nat} (h : Pm s n) (f : Nat -> Bool) : orB (fun i => f (s i)) n = orB f n := by
 rw [Bool.eq_iff_iff, orB_true, orB_true]
 constructor
 ·rintro ⟨i, hi, hf⟩
  exact ⟨s i, h.lt i hi, hf⟩
 ·rintro ⟨i, hi, hf⟩
  exact ⟨s i, h.lt i hi, by rw [h.inv i hi]; exact hf⟩
theorem dif_sym {g : Nat -> MKey} {n : Nat} : difB g n = true ↔ ∀ i, i < n -> ∀ j, j < n -> g j = g i -> j = i := by
 rw [dif_iff]
 constructor
 ·intro h i hi j hj he
  rcases Nat.lt_trichotomy j i with l | l | l
  ·exact absurd he (h i hi j l)
  ·exact l
  ·exact absurd he.symm (h j hj i l)
 ·intro h i hi j hj he
  have := h i hi j (by omega) he
  omega
theorem difB_pm {s : Nat -> Nat} {n : Nat} (h : Pm s n) (g : Nat -> MKey) : difB (fun i => g (s i)) n = difB g n := by
 rw [Bool.eq_iff_iff, dif_sym, dif_sym]
 constructor
 ·intro H i hi j hj he
  have := H (s i) (h.lt i hi) (s j) (h.lt j hj) (by rw [h.inv i hi, h.inv j hj]; exact he)
  rw [<- h.inv i hi, <- h.inv j hj, this]
 ·intro H i hi j hj he
  have := H (s i) (h.lt i hi) (s j) (h.lt j hj) he
  rw [<- h.inv i hi, <- h.inv j hj, this]
theorem idsV_pm {s : Nat -> Nat} {n : Nat} (h : Pm s n) (f : Nat -> B) : idsV ⟨n, fun i => f (s i)⟩ = idsV ⟨n, f⟩ := by
 unfold idsV
 dsimp only
 rw [difB_pm h fun i => kS (f i), orB_pm h fun i => nidV (f i)]
def rv {T : Type} (s : Sq T) : Sq T := ⟨s.n, fun j => s.f (s.n - 1 - j)⟩
theorem pm_rv (n : Nat) : Pm (fun j => n - 1 - j) n := ⟨fun i hi => by omega, fun i hi => by omega⟩
theorem namV_rv (s : Sq Nm) : namV (rv s) = namV s := by
 unfold namV rv
 dsimp only
 rw [orB_pm (pm_rv s.n) fun i => nbad (s.f i), difB_pm (pm_rv s.n) fun i => kN (nt (s.f i))]
theorem plaV_rv (s : Sq En) (z : Bool) : plaV (rv s) z = plaV s z := by
 unfold plaV rv
 dsimp only
 rw [orB_pm (pm_rv s.n) fun i => pbad z (s.f i)]
def bh (m n j : Nat) : Nat := if j < m then j else m + (n - 1 - (j - m))
theorem pm_bh (m n : Nat) : Pm (bh m n) (m + n) := by
 constructor
 ·intro i hi
  unfold bh
  split <;> omega
 ·intro i hi
  unfold bh
  by_cases h : i < m
  ·rw [if_pos h, if_pos h]
  ·rw [if_neg h, if_neg (by omega)]
   omega
theorem lstV_rv (s : Sq En) (more : List B) : lstV (rv s) more = lstV s more := by
 unfold lstV
 have e : idsV ⟨more.length + (rv s).n, mF (rv s) more⟩ = idsV ⟨more.length + s.n, mF s more⟩ := by
  rw [<- idsV_pm (pm_bh more.length s.n) (mF s more)]
  show idsV ⟨more.length + s.n, _⟩ = _
  refine idsV_congr fun j hj => ?_
  unfold bh mF
  by_cases h : j < more.length
  ·rw [if_pos h, if_pos h, if_pos h]
  ·rw [if_neg h, if_neg h, if_neg (by omega)]
   show (s.f _).id = (s.f _).id
   congr 2
   omega
 rw [e]
 unfold rv
 dsimp only
 rw [orB_pm (pm_rv s.n) fun i => !vldV (s.f i).num, difB_pm (pm_rv s.n) fun i => kH (s.f i).num]
def revV (e : Ev) : Ev := ⟨e.kind, e.day, e.a, e.b, e.off, e.id, e.oth, e.txt, rv e.ids, rv e.names, e.num, e.pt, e.path, rv e.list⟩
theorem rev_ok {e : Ev} (h : okV e) : okV (revV e) := by
 have h1 := h.ids
 have h2 := h.names
 have h3 := h.list
 refine ⟨h.id, h.oth, h.txt, ⟨h1.1, fun i (hi : i < e.ids.n) => h1.2 _ (by omega)⟩, ⟨h2.1, fun i (hi : i < e.names.n) => h2.2 _ (by omega)⟩, h.num, h.path, ⟨h3.1, fun i (hi : i < e.list.n) => h3.2 _ (by omega)⟩⟩
theorem jn_rv (e : Ev) : idsV ⟨1 + (revV e).ids.n, jnF (revV e)⟩ = idsV ⟨1 + e.ids.n, jnF e⟩ := by
 rw [<- idsV_pm (pm_bh 1 e.ids.n) (jnF e)]
 show idsV ⟨1 + e.ids.n, _⟩ = _
 refine idsV_congr fun j hj => ?_
 unfold bh jnF
 by_cases h : j < 1
 ·rw [if_pos h, if_pos h, if_pos h]; rfl
 ·rw [if_neg h, if_neg h, if_neg (by omega)]
  show e.ids.f _ = e.ids.f _
  congr 1
  omega
theorem nd_rv (e : Ev) : ndK (revV e) = ndK e := by
 have h3 : nd3 (revV e) = nd3 e := by
  show (nd0 e && namV (rv e.names)) = (nd0 e && namV e.names)
  rw [namV_rv]
 have h8 : nd8 (revV e) = nd8 e := by
  show (((nd0 e && witV (e.list.n : Int) 1 40) && lstV (rv e.list) []) && plaV (rv e.list) true) = (((nd0 e && witV (e.list.n : Int) 1 40) && lstV e.list []) && plaV e.list true)
  rw [lstV_rv, plaV_rv]
 have h9 : nd9 (revV e) = nd9 e := by
  show ((witV (e.list.n : Int) 2 8 && lstV (rv e.list) [e.id]) && plaV (rv e.list) false) = ((witV (e.list.n : Int) 2 8 && lstV e.list [e.id]) && plaV e.list false)
  rw [lstV_rv, plaV_rv]
 have h10 : nd10 (revV e) = nd10 e := by
  show (((witV (e.ids.n : Int) 2 8 && idsV ⟨1 + (revV e).ids.n, jnF (revV e)⟩) && vldV e.num) && onB e.pt) = (((witV (e.ids.n : Int) 2 8 && idsV ⟨1 + e.ids.n, jnF e⟩) && vldV e.num) && onB e.pt)
  rw [jn_rv]
 unfold ndK
 rw [h3, h8, h9, h10]
 rfl
theorem frm_rv (e : Ev) : frmV (revV e) = frmV e := by
 have h1 : zB (bareV (revV e)) = zB (bareV e) := rfl
 have h2 : emB (bareV (revV e)) = emB (bareV e) := rfl
 unfold frmV
 rw [h1, h2, nd_rv]
 rfl
end RT9
