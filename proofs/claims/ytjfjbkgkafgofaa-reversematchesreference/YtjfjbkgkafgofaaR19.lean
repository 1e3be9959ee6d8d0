/- A part of the proof: see the last text. -/
import Derived.Test.YtjfjbkgkafgofaaR18
open Go Go.Eng Go.Proofs R2 R3 R4 R1 R5 R6 R7 R8 R9 R10 R10b R11 R12 R13 R14 R15 R16 R17 R18
set_option maxRecDepth 100000
namespace R19
/-- Of a sorted list without repetition each is before the next. -/
theorem strict {S : List Fnd} (h : Srt S) (nS : S.Nodup) {i j : Nat} (hij : i < j) (hj : j < S.length) : befB (S.getD i ([], 0)) (S.getD j ([], 0)) = true := by
  have hi : i < S.length := by omega
  rw [List.getD_eq_getElem?_getD, List.getD_eq_getElem?_getD, List.getElem?_eq_getElem hi, List.getElem?_eq_getElem hj]
  have h1 := List.pairwise_iff_getElem.1 h i j hi hj hij
  cases h2 : befB S[i] S[j] with
  | true => exact h2
  | false => exact absurd (bef_conn h2 h1) (List.pairwise_iff_getElem.1 nS i j hi hj hij)
theorem DX_keys {x : Adrs} (h : ∀ j, j < x.n → codeN x.a j = 0) : ((DX x).map (·.1)).Nodup := by
  have := DG_keys (putN_ok x.a x.n)
  rwa [new_D h] at this
abbrev ownF (l : Adrs) (p : Int × Int) (i : Nat) : Fnd := fndE p (DA (l.a i))
theorem own_in (l : Adrs) (p : Int × Int) {i : Nat} (h : i < l.n) : ownF l p i ∈ allS (DX l) p :=
  allS_mem.2 ⟨DA (l.a i), List.mem_map.2 ⟨i, List.mem_range.2 h, rfl⟩, rfl⟩
/-- How many of the first i are among the answers. -/
def fndN (l : Adrs) (p : Int × Int) (L : List Fnd) (i : Nat) : Nat := (List.range i).countP fun j => decide (ownF l p j ∈ L)
theorem fndN_le (l : Adrs) (p : Int × Int) (L : List Fnd) (i : Nat) : fndN l p L i ≤ i := by
  have := List.countP_le_length (p := fun j => decide (ownF l p j ∈ L)) (l := List.range i)
  rwa [List.length_range] at this
theorem fndN_t {l : Adrs} {p : Int × Int} {L : List Fnd} {i : Nat} (h : ownF l p i ∈ L) : fndN l p L (i + 1) = fndN l p L i + 1 := by
  unfold fndN
  rw [List.range_succ, List.countP_append, List.countP_cons_of_pos (by simpa using h)]
  rfl
theorem fndN_f {l : Adrs} {p : Int × Int} {L : List Fnd} {i : Nat} (h : ¬ ownF l p i ∈ L) : fndN l p L (i + 1) = fndN l p L i := by
  unfold fndN
  rw [List.range_succ, List.countP_append, List.countP_cons_of_neg (by simpa using h)]
  rfl
theorem count_take {S : List Fnd} (nS : S.Nodup) (k : Nat) : S.countP (fun f => decide (f ∈ S.take k)) = (S.take k).length := by
  have e : S.countP (fun f => decide (f ∈ S.take k)) = (S.take k).countP (fun f => decide (f ∈ S.take k)) + (S.drop k).countP (fun f => decide (f ∈ S.take k)) := by
    rw [← List.countP_append, List.take_append_drop]
  have h1 : (S.take k).countP (fun f => decide (f ∈ S.take k)) = (S.take k).length := by
    rw [List.countP_eq_length]
    intro a ha
    simpa using ha
  have h2 : (S.drop k).countP (fun f => decide (f ∈ S.take k)) = 0 := by
    rw [List.countP_eq_zero]
    intro a ha hb
    have hb' : a ∈ S.take k := by simpa using hb
    have := nS
    rw [← List.take_append_drop k S] at this
    exact (List.nodup_append.1 this).2.2 a hb' a ha rfl
  omega
theorem fndN_all {l : Adrs} {p : Int × Int} (hn : (allS (DX l) p).Nodup) (k : Nat) : fndN l p ((allS (DX l) p).take k) l.n = ((allS (DX l) p).take k).length := by
  have h := count_take hn k
  rw [(allS_perm (DX l) p).countP_eq] at h
  unfold DX at h
  rw [List.map_map, List.countP_map] at h
  exact h
/-- What is not among the answers is behind the last. -/
theorem last_bef {S : List Fnd} (h : Srt S) (nS : S.Nodup) {k : Nat} {f : Fnd} (hf : f ∈ S) (hn : ¬ f ∈ S.take k) (h0 : 0 < (S.take k).length) : befB ((S.take k).getD ((S.take k).length - 1) ([], 0)) f = true := by
  obtain ⟨j, hj, rfl⟩ := List.getElem_of_mem hf
  have hl := List.length_take (l := S) (i := k)
  have hkj : k ≤ j := by
    refine Classical.byContradiction fun hlt => hn ?_
    have : j < (S.take k).length := by omega
    have h2 := List.getElem_mem this
    rwa [List.getElem_take] at h2
  rw [getD_take (by omega)]
  have := strict h nS (i := (S.take k).length - 1) (j := j) (by omega) hj
  have e : S.getD j ([], 0) = S[j] := by rw [List.getD_eq_getElem?_getD, List.getElem?_eq_getElem hj]; rfl
  rwa [e] at this
/-- Is it among the first k? -/
def hereB (L : List Fnd) (f : Fnd) (k : Nat) : Bool := decide (f ∈ L.take k)
theorem here_all {L : List Fnd} {f : Fnd} : hereB L f L.length = decide (f ∈ L) := by unfold hereB; rw [List.take_length]
theorem here_0 {L : List Fnd} {f : Fnd} : hereB L f 0 = false := by unfold hereB; simp
theorem here_step {L : List Fnd} {f : Fnd} {k : Nat} (h : k < L.length) : hereB L f (k + 1) = (hereB L f k || decide (L.getD k ([], 0) = f)) := by
  unfold hereB
  rw [List.take_succ_eq_append_getElem h, List.getD_eq_getElem?_getD, List.getElem?_eq_getElem h, Bool.eq_iff_iff]
  simp only [decide_eq_true_eq, List.mem_append, List.mem_singleton, Bool.or_eq_true, Option.getD_some]
  constructor
  · rintro (h | h)
    · exact .inl h
    · exact .inr h.symm
  · rintro (h | h)
    · exact .inl h
    · exact .inr h.symm
theorem adj {S : List Fnd} (h : Srt S) (nS : S.Nodup) {k i : Nat} (h1 : 1 ≤ i) (hi : i < (S.take k).length) : befB ((S.take k).getD ((i : Int) - 1).toNat ([], 0)) ((S.take k).getD ((i : Nat) : Int).toNat ([], 0)) = true := by
  have e : ((i : Int) - 1).toNat = i - 1 := by omega
  rw [e, Int.toNat_natCast, getD_take (by omega), getD_take hi]
  rw [List.length_take] at hi
  exact strict h nS (by omega) (by omega)
theorem same_rr (k : Keep) (hp : List (Nat × HObj)) (l r l' r' : List (Nat × Nat)) (o : Option (IL × Nat)) : subMem k hp (rnO l r (inO o)) (rnO l' r' (inO o)) := by
  cases o with
  | none => trivial
  | some x => exact ⟨rfl, rfl, rfl, fun i y z h1 h2 => by cases Option.some.inj (h1.symm.trans h2); exact ⟨rfl, rfl, rfl⟩⟩
theorem nb {b : Bool} (h : b = true) (hb : (!b) = true) : False := by
  rw [h] at hb
  cases hb
end R19
