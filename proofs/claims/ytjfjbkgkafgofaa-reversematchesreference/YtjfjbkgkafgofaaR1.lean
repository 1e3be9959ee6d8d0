/- A part of the proof: see the last text. -/
import Derived.Test.YtjfjbkgkafgofaaProg
import Derived.KernelRfl
import Derived.Test.YtjfjbkgkafgofaaEngN
open Go Go.Eng Go.Proofs
set_option maxRecDepth 100000
namespace R1
/-- gazetteer/reverse.isName -/
def g24 : List Nat := [7, 9, 5, 3, 4, 45, 8, 0, 2]
def c24 : SCode :=
  .seq (.region g24 [⟨some 2, none, .move (.c (.bool false)), []⟩]) (.seq (.seq (.region g24 [⟨some 6, none, .move (.s 0), []⟩, ⟨some 7, none, .lenStr (.s 6), []⟩, ⟨some 8, none, .move (.c (.int .i64 0)), []⟩]) (.block 0 (.loop 0 [9, 10, 3, 11, 12, 13, 4, 14, 15, 16, 17, 18, 19, 20, 21, 22, 23, 24, 25, 26, 27, 5, 28, 29, 30, 31, 32, 33, 34, 35, 36, 37, 38, 39, 40, 41, 42, 43, 44, 45, 2, 46, 8] (.seq (.region g24 [⟨some 9, none, .bin (.lss) (.s 8) (.s 7), []⟩]) (.seq (.cond (.s 9) .skip (.exit 0)) (.seq (.block 1 (.seq (.region g24 [⟨some 10, none, .move (.s 8), []⟩, ⟨some 3, none, .move (.s 10), []⟩]) (.seq (.region g24 [⟨some 11, none, .move (.s 0), []⟩, ⟨some 12, none, .move (.s 3), []⟩, ⟨some 13, none, .idxStr (.s 11) (.s 12), []⟩, ⟨some 4, none, .move (.s 13), []⟩]) (.seq (.region g24 [⟨some 14, none, .move (.s 4), []⟩, ⟨some 15, none, .bin (.geq) (.s 14) (.c (.int (.u8) 97)), []⟩, ⟨some 16, none, .move (.s 15), []⟩, ⟨some 17, some (16, true), .move (.s 4), []⟩, ⟨some 18, some (16, true), .bin (.leq) (.s 17) (.c (.int (.u8) 122)), []⟩, ⟨some 19, none, .pick (.s 16) (.s 18) (.c (.bool false)), []⟩, ⟨some 20, none, .move (.s 19), []⟩, ⟨some 21, some (20, false), .move (.s 4), []⟩, ⟨some 22, some (20, false), .bin (.geq) (.s 21) (.c (.int (.u8) 65)), []⟩, ⟨some 23, some (20, false), .move (.s 22), []⟩, ⟨some 24, some (23, true), .move (.s 4), []⟩, ⟨some 25, some (23, true), .bin (.leq) (.s 24) (.c (.int (.u8) 90)), []⟩, ⟨some 26, some (20, false), .pick (.s 23) (.s 25) (.c (.bool false)), []⟩, ⟨some 27, none, .pick (.s 20) (.c (.bool true)) (.s 26), []⟩, ⟨some 5, none, .move (.s 27), []⟩]) (.seq (.region g24 [⟨some 28, none, .move (.s 5), []⟩, ⟨some 29, none, .not (.s 28), []⟩, ⟨some 30, none, .move (.s 29), []⟩, ⟨some 31, some (30, true), .move (.s 3), []⟩, ⟨some 32, some (30, true), .bin (.eql) (.s 31) (.c (.int .i64 0)), []⟩, ⟨some 33, some (30, true), .move (.s 32), []⟩, ⟨some 34, some (33, false), .move (.s 4), []⟩, ⟨some 35, some (33, false), .bin (.neq) (.s 34) (.c (.int (.u8) 95)), []⟩, ⟨some 36, some (33, false), .move (.s 35), []⟩, ⟨some 37, some (36, true), .move (.s 4), []⟩, ⟨some 38, some (36, true), .bin (.lss) (.s 37) (.c (.int (.u8) 48)), []⟩, ⟨some 39, some (36, true), .move (.s 38), []⟩, ⟨some 40, some (39, false), .move (.s 4), []⟩, ⟨some 41, some (39, false), .bin (.gtr) (.s 40) (.c (.int (.u8) 57)), []⟩, ⟨some 42, some (36, true), .pick (.s 39) (.c (.bool true)) (.s 41), []⟩, ⟨some 43, some (33, false), .pick (.s 36) (.s 42) (.c (.bool false)), []⟩, ⟨some 44, some (30, true), .pick (.s 33) (.c (.bool true)) (.s 43), []⟩, ⟨some 45, none, .pick (.s 30) (.s 44) (.c (.bool false)), []⟩]) (.cond (.s 45) (.seq (.region g24 [⟨some 2, none, .move (.c (.bool false)), []⟩]) .ret) .skip)))))) (.region g24 [⟨some 46, none, .bin (.add) (.s 8) (.c (.int .i64 1)), []⟩, ⟨some 8, none, .move (.s 46), []⟩]))))))) (.seq (.region g24 [⟨some 47, none, .move (.s 0), []⟩, ⟨some 48, none, .bin (.neq) (.s 47) (.c (.str [])), []⟩, ⟨some 49, none, .move (.s 48), []⟩, ⟨some 50, some (49, true), .move (.s 0), []⟩, ⟨some 51, some (49, true), .lenStr (.s 50), []⟩, ⟨some 52, some (49, true), .bin (.leq) (.s 51) (.c (.int .i64 24)), []⟩, ⟨some 53, none, .pick (.s 49) (.s 52) (.c (.bool false)), []⟩, ⟨some 2, none, .move (.s 53), []⟩]) .ret))
def r24 : List SRes := [.slot 2]
def k24 : List (Nat × Nat × SCode × Nat) := []
theorem e24 : cFunc Try.prog 24 g24 [] [] k24 = some (c24, r24, 54) := by kernel_rfl
theorem q24 : RgOk Try.prog k24 := RgOk.nil

def okC (i : Nat) (c : UInt8) : Bool := !(!(decide ((97:Int) ≤ (c.toNat : Int)) && decide ((c.toNat : Int) ≤ 122) || decide ((65:Int) ≤ (c.toNat : Int)) && decide ((c.toNat : Int) ≤ 90)) && (decide ((i : Int) = 0) || !decide ((c.toNat : Int) = 95) && (decide ((c.toNat : Int) < 48) || decide ((57 : Int) < (c.toNat : Int)))))
def isNameB (s : List UInt8) : Bool := decide (∀ i, i < s.length → okC i (s.getD i 0) = true) && (!decide (s = []) && decide ((s.length : Int) ≤ 24))
def isName : Eng.Spec where
  X := List UInt8
  args := fun x => .cons (.str x) .nil
  pre := fun x => (x.length : Int) ≤ 9223372036854775807
  res := fun x => .bool (isNameB x)
  inst := fun
    | .cons (.str s) .nil => some s
    | _ => none
theorem isName_ok : isName.Ok Try.prog 24 := by
  refine Eng.Spec.ok_of e24 q24 (fun _ => []) (fun _ _ f S h => by cases h) ?_
  intro (s : List UInt8) hs
  replace hs : (s.length : Int) ≤ 9223372036854775807 := hs
  refine ⟨trivial, ?_⟩
  refine ⟨⟨Nat, fun i => i ≤ s.length ∧ ∀ j, j < i → okC j (s.getD j 0) = true, fun i => [(8, .int .i64 (i : Int))], fun _ => [], fun i => s.length - i⟩, 0, ⟨Nat.zero_le _, fun j hj => by omega⟩, ?_, ?_⟩
  · repeat' (first | exact trivial | refine And.intro ?_ ?_ | refine fun h => ?_ | exact rfl)
  rintro (i : Nat) ⟨hi, hall⟩
  replace hi : i ≤ s.length := hi
  replace hall : ∀ j, j < i → okC j (s.getD j 0) = true := hall
  refine ⟨fun hlt => ?_, fun hge => ?_⟩
  · have hlt' : i < s.length := by simpa using hlt
    refine ⟨⟨by omega, by omega⟩, fun hb => ?_, fun hb => ?_⟩
    · simp only [pickB_and, pickB_or, Int.toNat_natCast] at hb
      have hno : okC i (s.getD i 0) = false := by
        unfold okC
        rw [hb]; rfl
      have e : isNameB s = false := by
        unfold isNameB
        rw [decide_eq_false (fun h => by rw [h i hlt'] at hno; cases hno)]
        rfl
      show _ = _
      exact e.symm
    · simp only [pickB_and, pickB_or, Int.toNat_natCast] at hb
      have hno : okC i (s.getD i 0) = true := by
        unfold okC
        rw [hb]; rfl
      refine ⟨⟨by omega, by omega⟩, ?_⟩
      refine ⟨i + 1, ⟨by omega, fun j hj => ?_⟩, ?_, ?_⟩
      · by_cases e : j = i
        · subst e; exact hno
        · exact hall j (by omega)
      · repeat' (first | exact trivial | refine And.intro ?_ ?_ | refine fun h => ?_ | exact rfl)
      · show s.length - (i + 1) < s.length - i
        omega
  · have hge' : ¬ i < s.length := by simpa using hge
    have e : isNameB s = (!decide (s = []) && decide ((s.length : Int) ≤ 24)) := by
      unfold isNameB
      rw [decide_eq_true (fun j hj => hall j (by omega))]
      simp only [Bool.true_and]
    show _ = _
    exact (pickB_and _ _ _ _).trans e.symm
end R1
