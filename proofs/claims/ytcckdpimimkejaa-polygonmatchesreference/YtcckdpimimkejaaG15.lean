/- A part of the proof: see the last text. -/
import Derived.Test.YtcckdpimimkejaaG14
open Go Go.Eng Go.Proofs G1 G2 G3 G4 G5 G6 G7 G8 G9 G10 G11 G12 G13 G14
set_option maxRecDepth 100000
namespace G15
def few (a b : Pts) : Bool := decide ((a.n : Int) ≤ 50) && decide ((b.n : Int) ≤ 50)
def Few : Eng.Spec where
  X := Pts × Pts
  args := fun x => .cons (rgE x.1) (.cons (rgE x.2) .nil)
  pre := fun _ => True
  res := fun x => .bool (few x.1 x.2)
  inst := twoR
/-- gazetteer/gazetteerref08.Few -/
def g12 : List Nat := [0, 1, 4]
def c12 : SCode :=
  .seq (.region g12 [⟨some 4, none, .move (.c (.bool false)), []⟩]) (.seq (.region g12 [⟨some 5, none, .move (.s 0), []⟩, ⟨some 6, none, .lenSl (.s 5), []⟩, ⟨some 7, none, .bin (.leq) (.s 6) (.c (.int .i64 50)), []⟩, ⟨some 8, none, .move (.s 7), []⟩, ⟨some 9, some (8, true), .move (.s 1), []⟩, ⟨some 10, some (8, true), .lenSl (.s 9), []⟩, ⟨some 11, some (8, true), .bin (.leq) (.s 10) (.c (.int .i64 50)), []⟩, ⟨some 12, none, .pick (.s 8) (.s 11) (.c (.bool false)), []⟩, ⟨some 4, none, .move (.s 12), []⟩]) .ret)
def r12 : List SRes := [.slot 4]
def k12 : List (Nat × Nat × SCode × Nat) := []
theorem e12 : cFunc Try.prog 12 g12 [] [] k12 = some (c12, r12, 13) := by kernel_rfl
theorem q12 : RgOk Try.prog k12 := RgOk.nil
theorem Few_ok : Few.Ok Try.prog 12 := by
  refine Eng.Spec.ok_of e12 q12 (fun _ => []) (fun _ _ => TabOk.nil) ?_
  rintro ⟨a, b⟩ _
  have e : ∀ i j, pickB (decide ((a.n : Int) ≤ 50)) (.s i) (.c (.bool false)) (decide ((b.n : Int) ≤ 50)) j = few a b := fun i j => pickB_and _ _ _ _
  refine ⟨trivial, ?_⟩
  repeat' (first | exact e _ _ | refine And.intro ?_ ?_ | exact trivial | exact rfl)
/-- A ring from its point k on. -/
def rot (r : Pts) (k : Nat) : Pts := ⟨r.n, fun i => r.p ((i + k) % r.n)⟩
def turned : Eng.Spec where
  X := Pts × Int
  args := fun x => .cons (rgE x.1) (.cons (.int .i64 x.2) .nil)
  pre := fun x => x.1.n ≤ 50 ∧ 0 ≤ x.2 ∧ x.2 < (x.1.n : Int)
  res := fun x => rgE (rot x.1 x.2.toNat)
  inst := fun
    | .cons a (.cons (.int _ k) .nil) => match ptsD a with
      | some r => some (r, k)
      | none => none
    | _ => none
/-- gazetteer/gazetteerlaw08.turned -/
def g25 : List Nat := [0, 1, 4]
def c25 : SCode :=
  .seq (.region g25 [⟨some 4, none, .move (.c (.nilsl)), []⟩]) (.seq (.drawn g25 (.pure 0 ⟨some 5, none, .buildSl 24 2 0 (.cons (.int .i64 0) (.cons (.int .i64 0) .nil)) [], []⟩ (.pure 1 ⟨some 6, none, .move (.s 0), []⟩ (.pure 2 ⟨some 7, none, .move (.s 1), []⟩ (.pure 3 ⟨some 8, none, .sliceSl 2 (.s 6) (some (.s 7)) none, []⟩ (.pure 5 ⟨some 10, none, .move (.s 0), []⟩ (.pure 6 ⟨some 11, none, .move (.s 1), []⟩ (.pure 7 ⟨some 12, none, .sliceSl 2 (.s 10) none (some (.s 11)), []⟩ (.eff 4 ⟨some 9, none, .app 24 2 16 (.s 5) (.s 8), []⟩ [] (.eff 8 ⟨some 13, none, .app 24 2 16 (.s 9) (.s 12), []⟩ [] (.pure 9 ⟨some 4, none, .move (.s 13), []⟩ .done) .none) .none))))))))) .ret)
def r25 : List SRes := [.slot 4]
def k25 : List (Nat × Nat × SCode × Nat) := []
theorem e25 : cFunc Try.prog 25 g25 [] [] k25 = some (c25, r25, 14) := by kernel_rfl
theorem q25 : RgOk Try.prog k25 := RgOk.nil
theorem sub_rot {K : Keep} {hp : List (Nat × HObj)} {m : Nat} {r : Pts} {k : Int} (h0 : 0 ≤ k) (hk : k < (r.n : Int)) : ∀ j, j < r.n → SubC K (sub K hp (m + 4)) (appE (r.n - k.toNat) (fun i => ptL (r.p (k.toNat + i))) (fun i => ptL (r.p i)) (0 + j)) (ptL ((rot r k.toNat).p j)) := by
  intro j hj
  have : appE (r.n - k.toNat) (fun i => ptL (r.p (k.toNat + i))) (fun i => ptL (r.p i)) (0 + j) = ptL ((rot r k.toNat).p j) := by
    unfold appE rot
    rw [Nat.zero_add]
    dsimp only
    by_cases hl : j < r.n - k.toNat
    · have hb : Nat.blt j (r.n - k.toNat) = true := by rw [Nat.blt_eq]; exact hl
      rw [hb, cond_true, Nat.mod_eq_of_lt (by omega), Nat.add_comm]
    · have hb : Nat.blt j (r.n - k.toNat) = false := by
        cases h : Nat.blt j (r.n - k.toNat) with
        | false => rfl
        | true => rw [Nat.blt_eq] at h; exact absurd h hl
      rw [hb, cond_false]
      congr 2
      rw [Nat.mod_eq_sub_mod (by omega), Nat.mod_eq_of_lt (by omega)]
      omega
  rw [this]
  exact Or.inl (sub_ptN _ _ _ _)
theorem turned_ok : turned.Ok Try.prog 25 := by
  refine Eng.Spec.ok_of e25 q25 (fun _ => []) (fun _ _ => TabOk.nil) ?_
  rintro ⟨r, k⟩ ⟨hn, h0, hk⟩
  replace hn : r.n ≤ 50 := hn
  replace h0 : 0 ≤ k := h0
  replace hk : k < (r.n : Int) := hk
  have hk2 : k ≤ (r.n : Int) := by omega
  refine ⟨trivial, ?_⟩
  have kn : k.toNat ≤ r.n := by omega
  have e1 : r.n - k.toNat + k.toNat = r.n := by omega
  have f1 : r.n - k.toNat ≤ 9223372036854775807 := by omega
  have f2 : (r.n - k.toNat) * 16 ≤ 140737488355328 := by omega
  have f3 : r.n - k.toNat + k.toNat ≤ 9223372036854775807 := by omega
  have f4 : (r.n - k.toNat + k.toNat) * 16 ≤ 140737488355328 := by omega
  have f5 : 0 + (r.n - k.toNat + k.toNat) ≤ r.n - k.toNat + k.toNat := by omega
  have hs : ∀ (K : Keep) (hp : List (Nat × HObj)) (m : Nat) (j : Nat), j < r.n - k.toNat + k.toNat → SubC K (sub K hp (m + 4)) (appE (r.n - k.toNat) (fun i => ptL (r.p (k.toNat + i))) (fun i => ptL (r.p i)) (0 + j)) (ptL ((rot r k.toNat).p j)) := fun K hp m j hj => sub_rot h0 hk j (by omega)
  repeat' (first | with_reducible exact h0 | with_reducible exact hk2 | with_reducible exact f1 | with_reducible exact f2 | with_reducible exact f3 | with_reducible exact f4 | with_reducible exact f5 | exact fun (j : Nat) (_ : j < _) => rfl | exact e1 | exact hs _ _ _ | refine And.intro ?_ ?_ | exact trivial | exact rfl)
end G15
