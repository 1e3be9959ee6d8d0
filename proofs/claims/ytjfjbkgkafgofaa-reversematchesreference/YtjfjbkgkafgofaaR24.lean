/- A part of the proof: see the last text. -/
import Derived.Test.YtjfjbkgkafgofaaR19
open Go Go.Eng Go.Proofs R2 R3 R4 R1 R5 R6 R7 R8 R9 R10 R10b R11 R12 R13 R14 R15 R16 R17 R18 R19
set_option maxRecDepth 100000
namespace R24
/-! The methods of an index that is none. -/
theorem nil_t {b c : Bool} {i j : Nat} : pickB (pickB true (.c (.bool true)) (.s i) true b) (.c (.bool true)) (.s j) true c = true := by
  rw [pickB_or, pickB_or]
  rfl
def PutNil : Eng.Spec where
  X := Adr
  args := fun x => .cons (.val (.pointer none)) (.cons (adE x) .nil)
  pre := fun x => (x.door.length : Int) ≤ 9223372036854775807
  res := fun _ => .int .i64 1
  inst := fun
    | .cons (.val (.pointer none)) (.cons (.agg a) .nil) => some (adOf a)
    | _ => none
theorem PutNil_ok : PutNil.Ok Try.prog 12 := by
  refine Eng.Spec.ok_of e12 q12 (fun _ => [(24, .p isName), (19, .p On), (25, .p ofP)]) (fun _ _ => TabOk.p isName_ok (TabOk.p On_ok (TabOk.p ofP_ok TabOk.nil))) ?_
  intro (x : Adr) hs
  replace hs : (x.door.length : Int) ≤ 9223372036854775807 := hs
  refine ⟨trivial, ?_⟩
  repeat' (first | refine And.intro ?_ ?_ | exact trivial | exact rfl | exact hs | (refine fun (_ : guardP _ _ _ _) => ?_) | (refine fun (h : false = true) => absurd h (by decide)) | (refine fun (_ : false = false) => ?_) | (refine fun (_ : true = true) => ?_) | (refine fun (h : true = false) => absurd h (by decide)) | omega | (dsimp only; omega))
def DropNil : Eng.Spec where
  X := List UInt8
  args := fun x => .cons (.val (.pointer none)) (.cons (.str x) .nil)
  pre := fun _ => True
  res := fun _ => .int .i64 1
  inst := fun
    | .cons (.val (.pointer none)) (.cons (.str a) .nil) => some a
    | _ => none
theorem DropNil_ok : DropNil.Ok Try.prog 14 := by
  refine Eng.Spec.ok_of e14 q14 (fun _ => [(25, .p ofP)]) (fun _ _ => TabOk.p ofP_ok TabOk.nil) ?_
  intro (x : List UInt8) _
  refine ⟨trivial, ?_⟩
  repeat' (first | refine And.intro ?_ ?_ | exact trivial | exact rfl | (refine fun (_ : guardP _ _ _ _) => ?_) | (refine fun (h : false = true) => absurd h (by decide)) | (refine fun (_ : false = false) => ?_) | (refine fun (_ : true = true) => ?_) | (refine fun (h : true = false) => absurd h (by decide)) | omega | (dsimp only; omega))
def RPutNil : Eng.Spec where
  X := Adr
  args := fun x => .cons (.val (.pointer none)) (.cons (adE x) .nil)
  pre := fun x => (x.door.length : Int) ≤ 9223372036854775807
  res := fun _ => .int .i64 1
  inst := fun
    | .cons (.val (.pointer none)) (.cons (.agg a) .nil) => some (adOf a)
    | _ => none
theorem RPutNil_ok : RPutNil.Ok Try.prog 13 := by
  refine Eng.Spec.ok_of e13 q13 (fun _ => [(26, .p Name), (27, .p OnR), (28, .m index)]) (fun _ _ => TabOk.p Name_ok (TabOk.p OnR_ok (TabOk.m index_ok TabOk.nil))) ?_
  intro (x : Adr) hs
  replace hs : (x.door.length : Int) ≤ 9223372036854775807 := hs
  refine ⟨trivial, ?_⟩
  repeat' (first | refine And.intro ?_ ?_ | exact trivial | exact rfl | exact hs | (refine fun (_ : guardP _ _ _ _) => ?_) | (refine fun (h : false = true) => absurd h (by decide)) | (refine fun (_ : false = false) => ?_) | (refine fun (_ : true = true) => ?_) | (refine fun (h : true = false) => absurd h (by decide)) | omega | (dsimp only; omega))
def RDropNil : Eng.Spec where
  X := List UInt8
  args := fun x => .cons (.val (.pointer none)) (.cons (.str x) .nil)
  pre := fun _ => True
  res := fun _ => .int .i64 1
  inst := fun
    | .cons (.val (.pointer none)) (.cons (.str a) .nil) => some a
    | _ => none
theorem RDropNil_ok : RDropNil.Ok Try.prog 15 := by
  refine Eng.Spec.ok_of e15 q15 (fun _ => [(28, .m index)]) (fun _ _ => TabOk.m index_ok TabOk.nil) ?_
  intro (x : List UInt8) _
  refine ⟨trivial, ?_⟩
  repeat' (first | refine And.intro ?_ ?_ | exact trivial | exact rfl | (refine fun (_ : guardP _ _ _ _) => ?_) | (refine fun (h : false = true) => absurd h (by decide)) | (refine fun (_ : false = false) => ?_) | (refine fun (_ : true = true) => ?_) | (refine fun (h : true = false) => absurd h (by decide)) | omega | (dsimp only; omega))
def RNearNil : Eng.Spec where
  X := (Int × Int) × Int
  args := fun x => .cons (.val (.pointer none)) (.cons (ptE x.1) (.cons (.int .i64 x.2) .nil))
  pre := fun _ => True
  res := fun _ => .tup (.cons (R14.listE []) (.cons (.int .i64 0) (.cons (.int .i64 1) .nil)))
  inst := fun
    | .cons (.val (.pointer none)) (.cons a (.cons (.int .i64 m) .nil)) => match ptD a with
      | some p => some (p, m)
      | none => none
    | _ => none
theorem RNearNil_ok : RNearNil.Ok Try.prog 17 := by
  refine Eng.Spec.ok_of e17 q17 (fun _ => [(27, .p OnR), (35, .p DistR), (20, .p Before), (36, .p cellsR), (37, .p reachR)]) (fun _ _ => TabOk.p OnR_ok (TabOk.p DistR_ok (TabOk.p Before_ok (TabOk.p cellsR_ok (TabOk.p reachR_ok TabOk.nil))))) ?_
  intro (x : (Int × Int) × Int) _
  refine ⟨trivial, ?_⟩
  repeat' (first | refine And.intro ?_ ?_ | exact trivial | exact rfl | (refine fun (_ : guardP _ _ _ _) => ?_) | (refine fun (h : false = true) => absurd h (by decide)) | (refine fun (_ : false = false) => ?_) | (refine fun (_ : true = true) => ?_) | (refine fun (h : true = false) => absurd h (by decide)) | omega | (dsimp only; omega))
def NearNil : Eng.Spec where
  X := (Int × Int) × Int
  args := fun x => .cons (.val (.pointer none)) (.cons (ptE x.1) (.cons (.int .i64 x.2) .nil))
  pre := fun _ => True
  res := fun _ => .tup (.cons (R11.listE []) (.cons (.int .i64 0) (.cons (.int .i64 1) .nil)))
  inst := fun
    | .cons (.val (.pointer none)) (.cons a (.cons (.int .i64 m) .nil)) => match ptD a with
      | some p => some (p, m)
      | none => none
    | _ => none
theorem NearNil_ok : NearNil.Ok Try.prog 16 := by
  refine Eng.Spec.ok_of e16 q16 (fun _ => [(19, .p On), (25, .p ofP), (29, .p ringS), (21, .p Dist), (30, .p reach), (31, .m SortF)]) (fun _ _ => TabOk.p On_ok (TabOk.p ofP_ok (TabOk.p ringS_ok (TabOk.p Dist_ok (TabOk.p reach_ok (TabOk.m SortF_ok TabOk.nil)))))) ?_
  intro (x : (Int × Int) × Int) _
  refine ⟨trivial, ?_⟩
  repeat' (first | refine And.intro ?_ ?_ | exact trivial | exact rfl | (refine fun (_ : guardP _ _ _ _) => ?_) | (refine fun (h : false = true) => absurd h (by decide)) | (refine fun (_ : false = false) => ?_) | (refine fun (_ : true = true) => ?_) | (refine fun (h : true = false) => absurd h (by decide)) | omega | (dsimp only; omega))
end R24
