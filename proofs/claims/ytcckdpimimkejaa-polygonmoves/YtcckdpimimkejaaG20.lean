/- A part of the proof: see the last text. -/
import Derived.Test.YtcckdpimimkejaaG19
import Derived.Test.YtcckdpimimkejaaG14
open Go Go.Eng Go.Proofs G1 G2 G3 G4 G5 G6 G7 G8 G9 G10 G11 G12 G13 G14 G16 G18 G19
set_option maxRecDepth 100000
namespace G20
/-- All that the answers hang on. -/
structure Img (r c : Pts) (f g : Pt → Pt) : Prop where
  n3 : 3 ≤ r.n
  tr : ∃ s, Tr r c f s
  tw : twV c = twV r
  on : ∀ m, onV c (g m) = onV r m
  wd : ∀ m, onV r m = false → wdV c (g m) = wdV r m
structure Mvs (f g : Pt → Pt) : Prop where
  iso : ∃ e, Iso f e
  add : ∀ s t, addP (f s) (f t) = g (addP s t)
  dbl : ∀ p, dbP (f p) = g (dbP p)
section
variable {r c q d : Pts} {f g : Pt → Pt} (hf : Mvs f g) (h : Img r c f g) (h' : Img q d f g)
include hf h
theorem Img.val : valV c = valV r := by
  obtain ⟨e, hi⟩ := hf.iso
  obtain ⟨s, ht⟩ := h.tr
  unfold valV
  rw [ht.off, h.tw, ht.sim hi h.n3, ht.n]
omit hf in
theorem Img.out (m : Pt) : outV c (g m) = outV r m := by
  unfold outV
  rw [h.on m]
  cases ho : onV r m with
  | true => simp
  | false => rw [h.wd m ho]
omit hf in
theorem Img.ins (m : Pt) : insV c (g m) = insV r m := by
  unfold insV
  rw [h.on m]
  cases ho : onV r m with
  | true => simp
  | false => rw [h.wd m ho]
theorem Img.twi : twiV c = twiV r := by unfold twiV; rw [h.val hf, h.tw]
theorem Img.whe {p : Pt} (hp : onB p = true) (hp' : onB (f p) = true) : wheV c (f p) = wheV r p := by
  unfold wheV
  rw [h.val hf, hp, hp', hf.dbl, h.out, h.ins]
include h'
theorem Img.any (w : Pts → Pt → Bool) (hw : ∀ m, w d (g m) = w q m) : (midL c d).any (w d) = (midL r q).any (w q) := by
  obtain ⟨e, hi⟩ := hf.iso
  obtain ⟨s, ht⟩ := h.tr
  obtain ⟨t, ht'⟩ := h'.tr
  rw [Bool.eq_iff_iff, List.any_eq_true, List.any_eq_true]
  constructor
  · rintro ⟨m, h1, h2⟩
    obtain ⟨m', h3, rfl⟩ := (ht.mid hi ht' hf.add m).1 h1
    exact ⟨m', h3, by rw [← hw]; exact h2⟩
  · rintro ⟨m, h1, h2⟩
    exact ⟨g m, (ht.mid hi ht' hf.add _).2 ⟨m, h1, rfl⟩, by rw [hw]; exact h2⟩
theorem Img.crs : crossB c d = crossB r q := by
  obtain ⟨e, hi⟩ := hf.iso
  obtain ⟨s, ht⟩ := h.tr
  obtain ⟨t, ht'⟩ := h'.tr
  exact ht.cross hi ht'
theorem Img.wit : witV c d = witV r q := by
  unfold witV
  rw [h.val hf, h'.val hf, h.crs hf h', h.any hf h' outV h'.out]
theorem Img.apa : apaV c d = apaV r q := by
  unfold apaV
  rw [h.val hf, h'.val hf, h.crs hf h', h.any hf h' outV h'.out, h.any hf h' insV h'.ins, h'.any hf h insV h.ins]
end
theorem mvs_mv (t : Pt) : Mvs (mv t) (mv (dbT t)) where
  iso := ⟨1, iso_mv t⟩
  add s u := by unfold addP mv dbT; exact Prod.ext (by dsimp only; omega) (by dsimp only; omega)
  dbl p := by unfold dbP mv dbT; exact Prod.ext (by dsimp only; omega) (by dsimp only; omega)
theorem mvs_sw : Mvs sw sw where
  iso := ⟨-1, iso_sw⟩
  add _ _ := rfl
  dbl _ := rfl
theorem img_mv {t : Pt} {r : Pts} (hv : valV r = true) (hr' : ∀ i, i < r.n → onB (mv t (r.p i)) = true) : Img r (mvR t r) (mv t) (mv (dbT t)) where
  n3 := (val_ok hv).2.1.1
  tr := ⟨_, tr_mv (val_ok hv).1.2 hr'⟩
  tw := mv_tw (by have := (val_ok hv).2.1.1; omega)
  on m := mv_on t r m
  wd m _ := mv_wd t r m
theorem img_sw {r : Pts} (hv : valV r = true) : Img r (swR r) sw sw where
  n3 := (val_ok hv).2.1.1
  tr := ⟨_, tr_sw (val_ok hv).2.1.1 (val_ok hv).1.2⟩
  tw := sw_tw (val_ok hv).2.1.1
  on m := sw_on (val_ok hv).2.1.1 m
  wd _ hm := sw_wd (val_ok hv).2.1.1 hm
/-- All that a law says of two rings and a point that are moved. -/
theorem img_all {a b c d : Pts} {f g : Pt → Pt} (hf : Mvs f g) (ha : valV a = true) (hb : valV b = true) (h : Img a c f g) (h' : Img b d f g) {p : Pt} (hp : onB p = true) (hp' : onB (f p) = true) :
    valX c = true ∧ valX d = true ∧ twiX a = twiX c ∧ wheX a p = wheX c (f p) ∧ witX a b = witX c d ∧ apaX a b = apaX c d := by
  rw [valX_eq, twiX_eq, wheX_eq, witX_eq, apaX_eq]
  exact ⟨(h.val hf).trans ha, (h'.val hf).trans hb, (h.twi hf).symm, (h.whe hf hp hp').symm, (h.wit hf h').symm, (h.apa hf h').symm⟩
end G20
