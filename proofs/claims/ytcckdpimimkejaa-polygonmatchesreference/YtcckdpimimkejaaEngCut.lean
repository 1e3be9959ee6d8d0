/- The engine: walks cut into pieces. What comes behind a piece has a name, so that it stays small. -/
import Derived.Test.YtcckdpimimkejaaEngN
namespace Go.Eng
open Go Go.RowKit
def seqK (b : SCode) (T : Tb) (k : SExit → St → Prop) : SExit → St → Prop := fun e st' =>
  match e with
  | .normal => evC b T st' k
  | .exit id => k (.exit id) st'
  | .ret => k .ret st'
def blockK (id : Nat) (k : SExit → St → Prop) : SExit → St → Prop := fun e st' =>
  match e with
  | .normal => k .normal st'
  | .exit j => bif Nat.beq j id then k .normal st' else k (.exit j) st'
  | .ret => k .ret st'
def loopK (V : Inv) (x : V.X) (asg : List Nat) (T : Tb) (st : St) (k : SExit → St → Prop) : SExit → St → Prop := fun e st' =>
  match e with
  | .normal => ∃ x', V.I x' ∧ headK T.bnd asg st (V.fr x') (V.hp x') (fun h' => subSt T.np T.bnd st' h') ∧ V.meas x' < V.meas x
  | .exit id => k (.exit id) st'
  | .ret => k .ret st'
section
variable {a b : SCode} {T : Tb} {st : St} {k : SExit → St → Prop} {id n : Nat} {asg : List Nat} {V : Inv} {x : V.X}
theorem seq_i (h : evC a T st (seqK b T k)) : evC (.seq a b) T st k := h
theorem seqK_n (h : evC b T st k) : seqK b T k .normal st := h
theorem seqK_e (h : k (.exit id) st) : seqK b T k (.exit id) st := h
theorem seqK_r (h : k .ret st) : seqK b T k .ret st := h
theorem block_i (h : evC a T st (blockK id k)) : evC (.block id a) T st k := h
theorem blockK_n (h : k .normal st) : blockK id k .normal st := h
theorem blockK_r (h : k .ret st) : blockK id k .ret st := h
theorem blockK_e (h : k .normal st) : blockK id k (.exit id) st := by
  unfold blockK
  simp only [Nat.beq_refl, cond_true]
  exact h
theorem blockK_o {j : Nat} (hj : Nat.beq j id = false) (h : k (.exit j) st) : blockK id k (.exit j) st := by
  unfold blockK
  simp only [hj, cond_false]
  exact h
theorem loop_i (V : Inv) (x : V.X) (h0 : V.I x) (h1 : headK T.bnd asg st (V.fr x) (V.hp x) (fun h => subSt T.np T.bnd st h))
    (h2 : ∀ x, V.I x → headK T.bnd asg st (V.fr x) (V.hp x) fun h => stF h fun h => evC a T h (loopK V x asg T st k)) : evC (.loop n asg a) T st k := ⟨V, x, h0, h1, h2⟩
theorem loopK_n {st' : St} (x' : V.X) (h0 : V.I x') (h1 : headK T.bnd asg st (V.fr x') (V.hp x') (fun h' => subSt T.np T.bnd st' h')) (h2 : V.meas x' < V.meas x) : loopK V x asg T st k .normal st' := ⟨x', h0, h1, h2⟩
theorem loopK_e {st' : St} (h : k (.exit id) st') : loopK V x asg T st k (.exit id) st' := h
theorem loopK_r {st' : St} (h : k .ret st') : loopK V x asg T st k .ret st' := h
theorem ret_i (h : k .ret st) : evC .ret T st k := h
theorem skip_i (h : k .normal st) : evC .skip T st k := h
theorem cond_i {p : Bool} (hl : look st.fr n = .bool p) (h1 : p = true → evC a T st k) (h2 : p = false → evC b T st k) : evC (.cond (.s n) a b) T st k := by
  simp only [evC, hl]
  exact ⟨h1, h2⟩
end
end Go.Eng
