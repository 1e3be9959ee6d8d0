/- A part of the proof: see the last text. -/
import Derived.Test.YtjfjbkgkafgofaaR13
import Derived.Test.YtjfjbkgkafgofaaR10b
open Go Go.Eng Go.Proofs R2 R3 R4 R1 R5 R6 R7 R8 R9 R10 R10b R12 R13
set_option maxRecDepth 100000
namespace R14
/-- (*gazetteer/gazetteerref39.Grid).Near -/
def g17 : List Nat := [1, 29, 36, 0, 70, 11, 12, 10, 94, 14, 119, 2, 9, 4, 13, 6, 7, 8]
def c17 : SCode :=
  .seq (.region g17 [⟨some 4, none, .box 38 (.s 1), []⟩, ⟨some 6, none, .move (.c (.nilsl)), []⟩, ⟨some 7, none, .move (.c (.int .i64 0)), []⟩, ⟨some 8, none, .move (.c (.int .i64 0)), []⟩]) (.seq (.seq (.region g17 [⟨some 15, none, .move (.s 0), []⟩, ⟨some 16, none, .ptrEq false (.s 15) (.c (.nilptr)), []⟩, ⟨some 17, none, .move (.s 16), []⟩, ⟨some 18, some (17, false), .load 2 true (.s 4), []⟩, ⟨some 19, some (17, false), .call (.c (.fn 27)) [.s 18], []⟩, ⟨some 20, some (17, false), .not (.s 19), []⟩, ⟨some 21, none, .pick (.s 17) (.c (.bool true)) (.s 20), []⟩, ⟨some 22, none, .move (.s 21), []⟩, ⟨some 23, some (22, false), .move (.s 2), []⟩, ⟨some 24, some (22, false), .bin (.lss) (.s 23) (.c (.int .i64 1)), []⟩, ⟨some 25, none, .pick (.s 22) (.c (.bool true)) (.s 24), []⟩, ⟨some 26, none, .move (.s 25), []⟩, ⟨some 27, some (26, false), .move (.s 2), []⟩, ⟨some 28, some (26, false), .bin (.gtr) (.s 27) (.c (.int .i64 8)), []⟩, ⟨some 29, none, .pick (.s 26) (.c (.bool true)) (.s 28), []⟩]) (.cond (.s 29) (.seq (.region g17 [⟨some 6, none, .move (.c (.nilsl)), []⟩, ⟨some 7, none, .move (.c (.int .i64 0)), []⟩, ⟨some 8, none, .move (.c (.int .i64 1)), []⟩]) .ret) .skip)) (.seq (.region g17 [⟨some 9, none, .move (.c (.nilsl)), []⟩]) (.seq (.seq (.region g17 [⟨some 10, none, .move (.c (.int .i64 0)), []⟩]) (.block 0 (.loop 0 [30, 31, 32, 33, 34, 35, 36, 39, 40, 41, 42, 43, 44, 45, 46, 47, 48, 49, 50, 51, 52, 53, 54, 55, 56, 57, 11, 58, 59, 60, 61, 62, 63, 64, 65, 66, 67, 68, 69, 70, 71, 72, 12, 73, 74, 75, 76, 77, 78, 79, 80, 81, 82, 83, 84, 9, 37, 38, 10] (.seq (.seq (.region g17 [⟨some 30, none, .move (.s 10), []⟩, ⟨some 31, none, .move (.s 0), []⟩, ⟨some 32, none, .nilCheck (.s 31), []⟩, ⟨some 33, none, .fldA 0 (.s 32), []⟩, ⟨some 34, none, .load 1 false (.s 33), []⟩, ⟨some 35, none, .lenSl (.s 34), []⟩, ⟨some 36, none, .bin (.lss) (.s 30) (.s 35), []⟩]) (.cond (.s 36) .skip (.exit 0))) (.seq (.block 1 (.seq (.drawn g17 (.pure 0 ⟨some 39, none, .move (.s 0), []⟩ (.pure 1 ⟨some 40, none, .nilCheck (.s 39), []⟩ (.pure 2 ⟨some 41, none, .fldA 0 (.s 40), []⟩ (.pure 3 ⟨some 42, none, .load 1 false (.s 41), []⟩ (.pure 4 ⟨some 43, none, .move (.s 10), []⟩ (.pure 5 ⟨some 44, none, .idxSl 11 (.s 42) (.s 43), []⟩ (.pure 6 ⟨some 45, none, .fldA 0 (.s 44), []⟩ (.pure 7 ⟨some 46, none, .load 1 false (.s 45), []⟩ (.pure 8 ⟨some 47, none, .move (.s 0), []⟩ (.pure 9 ⟨some 48, none, .nilCheck (.s 47), []⟩ (.pure 10 ⟨some 49, none, .fldA 0 (.s 48), []⟩ (.pure 11 ⟨some 50, none, .load 1 false (.s 49), []⟩ (.pure 12 ⟨some 51, none, .move (.s 10), []⟩ (.pure 13 ⟨some 52, none, .idxSl 11 (.s 50) (.s 51), []⟩ (.pure 14 ⟨some 53, none, .fldA 9 (.s 52), []⟩ (.pure 15 ⟨some 54, none, .load 2 true (.s 53), []⟩ (.pure 16 ⟨some 55, none, .load 2 true (.s 4), []⟩ (.pure 17 ⟨some 56, none, .call (.c (.fn 35)) [.s 54, .s 55], []⟩ (.pure 18 ⟨some 57, none, .build (.cons (.str []) (.cons (.int .i64 0) .nil)) [(0, 1, .s 46), (1, 1, .s 56)], []⟩ (.eff 19 ⟨some 11, none, .alloc 50 (.cons (.str []) (.cons (.int .i64 0) .nil)), []⟩ [⟨some 56, none, .call (.c (.fn 35)) [.s 54, .s 55], []⟩, ⟨some 55, none, .load 2 true (.s 4), []⟩, ⟨some 54, none, .load 2 true (.s 53), []⟩, ⟨some 50, none, .load 1 false (.s 49), []⟩, ⟨some 46, none, .load 1 false (.s 45), []⟩, ⟨some 42, none, .load 1 false (.s 41), []⟩] (.eff 20 ⟨none, none, .store 2 (.s 11) (.s 57), []⟩ [] .done .none) .none))))))))))))))))))))) (.seq (.region g17 [⟨some 58, none, .move (.s 9), []⟩, ⟨some 59, none, .lenSl (.s 58), []⟩, ⟨some 12, none, .move (.s 59), []⟩]) (.seq (.block 2 (.loop 1 [60, 61, 62, 63, 64, 65, 66, 67, 68, 69, 70, 71, 72, 12] (.seq (.seq (.drawn g17 (.pure 0 ⟨some 60, none, .move (.s 12), []⟩ (.pure 1 ⟨some 61, none, .bin (.gtr) (.s 60) (.c (.int .i64 0)), []⟩ (.pure 2 ⟨some 62, none, .move (.s 61), []⟩ (.pure 3 ⟨some 63, some (62, true), .load 2 true (.s 11), []⟩ (.pure 4 ⟨some 64, some (62, true), .move (.s 9), []⟩ (.pure 5 ⟨some 65, some (62, true), .move (.s 12), []⟩ (.pure 6 ⟨some 66, some (62, true), .bin (.sub) (.s 65) (.c (.int .i64 1)), []⟩ (.pure 7 ⟨some 67, some (62, true), .idxSl 2 (.s 64) (.s 66), []⟩ (.pure 8 ⟨some 68, some (62, true), .load 2 true (.s 67), []⟩ (.pure 9 ⟨some 69, some (62, true), .call (.c (.fn 20)) [.s 63, .s 68], []⟩ (.pure 10 ⟨some 70, none, .pick (.s 62) (.s 69) (.c (.bool false)), []⟩ .done)))))))))))) (.cond (.s 70) .skip (.exit 2))) (.block 3 (.region g17 [⟨some 71, none, .move (.s 12), []⟩, ⟨some 72, none, .bin (.sub) (.s 71) (.c (.int .i64 1)), []⟩, ⟨some 12, none, .move (.s 72), []⟩]))))) (.seq (.drawn [1, 29, 36, 0, 70, 11, 12, 10, 94, 14, 119, 2, 9, 4, 13, 6, 7, 8, 84] (.pure 0 ⟨some 73, none, .buildSl 50 2 0 (.cons (.str []) (.cons (.int .i64 0) .nil)) [], []⟩ (.pure 1 ⟨some 74, none, .move (.s 9), []⟩ (.pure 2 ⟨some 75, none, .move (.s 12), []⟩ (.pure 3 ⟨some 76, none, .sliceSl 2 (.s 74) none (some (.s 75)), []⟩ (.pure 5 ⟨some 78, none, .load 2 true (.s 11), []⟩ (.pure 6 ⟨some 79, none, .buildSl 50 2 1 (.cons (.str []) (.cons (.int .i64 0) .nil)) [(0, 2, .s 78)], []⟩ (.pure 8 ⟨some 81, none, .move (.s 9), []⟩ (.pure 9 ⟨some 82, none, .move (.s 12), []⟩ (.pure 10 ⟨some 83, none, .sliceSl 2 (.s 81) (some (.s 82)) none, []⟩ (.eff 4 ⟨some 77, none, .app 50 2 24 (.s 73) (.s 76), []⟩ [⟨some 78, none, .load 2 true (.s 11), []⟩] (.eff 7 ⟨some 80, none, .app 50 2 24 (.s 77) (.s 79), []⟩ [] (.eff 11 ⟨some 84, none, .app 50 2 24 (.s 80) (.s 83), []⟩ [] .done .none) .none) .none))))))))))) (.region g17 [⟨some 9, none, .move (.s 84), []⟩])))))) (.region g17 [⟨some 37, none, .move (.s 10), []⟩, ⟨some 38, none, .bin (.add) (.s 37) (.c (.int .i64 1)), []⟩, ⟨some 10, none, .move (.s 38), []⟩])))))) (.seq (.region g17 [⟨some 13, none, .move (.c (.int .i64 0)), []⟩]) (.seq (.block 4 (.loop 2 [85, 86, 87, 88, 89, 90, 91, 92, 93, 94, 95, 96, 97, 98, 99, 100, 101, 102, 103, 14, 104, 105, 106, 107, 108, 109, 110, 111, 112, 113, 114, 115, 116, 117, 118, 119, 120, 121, 13] (.seq (.seq (.drawn g17 (.pure 0 ⟨some 85, none, .fldA 0 (.s 4), []⟩ (.pure 1 ⟨some 86, none, .load 1 false (.s 85), []⟩ (.pure 2 ⟨some 87, none, .move (.s 13), []⟩ (.pure 3 ⟨some 88, none, .call (.c (.fn 36)) [.s 86, .s 87], []⟩ (.pure 4 ⟨some 89, none, .fldA 1 (.s 4), []⟩ (.pure 5 ⟨some 90, none, .load 1 false (.s 89), []⟩ (.pure 6 ⟨some 91, none, .move (.s 13), []⟩ (.pure 7 ⟨some 92, none, .call (.c (.fn 36)) [.s 90, .s 91], []⟩ (.pure 8 ⟨some 93, none, .bin (.mul) (.s 88) (.s 92), []⟩ (.pure 9 ⟨some 94, none, .bin (.lss) (.s 93) (.c (.int .i64 1024)), []⟩ .done))))))))))) (.cond (.s 94) .skip (.exit 4))) (.block 5 (.seq (.drawn g17 (.pure 0 ⟨some 95, none, .fldA 0 (.s 4), []⟩ (.pure 1 ⟨some 96, none, .load 1 false (.s 95), []⟩ (.pure 2 ⟨some 97, none, .move (.s 13), []⟩ (.pure 3 ⟨some 98, none, .call (.c (.fn 37)) [.s 96, .s 97], []⟩ (.pure 4 ⟨some 99, none, .fldA 1 (.s 4), []⟩ (.pure 5 ⟨some 100, none, .load 1 false (.s 99), []⟩ (.pure 6 ⟨some 101, none, .move (.s 13), []⟩ (.pure 7 ⟨some 102, none, .call (.c (.fn 37)) [.s 100, .s 101], []⟩ (.pure 8 ⟨some 103, none, .mm false (.s 98) (.s 102), []⟩ (.pure 9 ⟨some 14, none, .move (.s 103), []⟩ .done))))))))))) (.seq (.seq (.region g17 [⟨some 104, none, .move (.s 9), []⟩, ⟨some 105, none, .lenSl (.s 104), []⟩, ⟨some 106, none, .move (.s 2), []⟩, ⟨some 107, none, .bin (.geq) (.s 105) (.s 106), []⟩, ⟨some 108, none, .move (.s 107), []⟩, ⟨some 109, some (108, true), .move (.s 9), []⟩, ⟨some 110, some (108, true), .move (.s 2), []⟩, ⟨some 111, some (108, true), .bin (.sub) (.s 110) (.c (.int .i64 1)), []⟩, ⟨some 112, some (108, true), .idxSl 2 (.s 109) (.s 111), []⟩, ⟨some 113, some (108, true), .fldA 1 (.s 112), []⟩, ⟨some 114, some (108, true), .load 1 false (.s 113), []⟩, ⟨some 115, some (108, true), .move (.s 14), []⟩, ⟨some 116, some (108, true), .move (.s 14), []⟩, ⟨some 117, some (108, true), .bin (.mul) (.s 115) (.s 116), []⟩, ⟨some 118, some (108, true), .bin (.lss) (.s 114) (.s 117), []⟩, ⟨some 119, none, .pick (.s 108) (.s 118) (.c (.bool false)), []⟩]) (.cond (.s 119) (.exit 4) .skip)) (.region g17 [⟨some 120, none, .move (.s 13), []⟩, ⟨some 121, none, .bin (.add) (.s 120) (.c (.int .i64 1)), []⟩, ⟨some 13, none, .move (.s 121), []⟩]))))))) (.seq (.drawn g17 (.pure 0 ⟨some 122, none, .move (.s 9), []⟩ (.pure 1 ⟨some 123, none, .move (.s 2), []⟩ (.pure 2 ⟨some 124, none, .move (.s 9), []⟩ (.pure 3 ⟨some 125, none, .lenSl (.s 124), []⟩ (.pure 4 ⟨some 126, none, .mm false (.s 123) (.s 125), []⟩ (.pure 5 ⟨some 127, none, .sliceSl 2 (.s 122) none (some (.s 126)), []⟩ (.pure 6 ⟨some 128, none, .fldA 0 (.s 4), []⟩ (.pure 7 ⟨some 129, none, .load 1 false (.s 128), []⟩ (.pure 8 ⟨some 130, none, .move (.s 13), []⟩ (.pure 9 ⟨some 131, none, .call (.c (.fn 36)) [.s 129, .s 130], []⟩ (.pure 10 ⟨some 132, none, .fldA 1 (.s 4), []⟩ (.pure 11 ⟨some 133, none, .load 1 false (.s 132), []⟩ (.pure 12 ⟨some 134, none, .move (.s 13), []⟩ (.pure 13 ⟨some 135, none, .call (.c (.fn 36)) [.s 133, .s 134], []⟩ (.pure 14 ⟨some 136, none, .bin (.mul) (.s 131) (.s 135), []⟩ (.pure 15 ⟨some 6, none, .move (.s 127), []⟩ (.pure 16 ⟨some 7, none, .move (.s 136), []⟩ (.pure 17 ⟨some 8, none, .move (.c (.int .i64 0)), []⟩ .done))))))))))))))))))) .ret))))))
def r17 : List SRes := [.slot 6, .slot 7, .slot 8]
def k17 : List (Nat × Nat × SCode × Nat) := []
theorem e17 : cFunc Try.prog 17 g17 [] [] k17 = some (c17, r17, 137) := by kernel_rfl
theorem q17 : RgOk Try.prog k17 := RgOk.nil

def listE (L : List Fnd) : SV := .slice 2 L.length (fnAt L)
def fndA (p : Int × Int) (a : Adr) : Fnd := (a.door, distV a.p p)
/-- Is the reference's search at its end behind ring r? -/
def stopL (S : List Fnd) (p : Int × Int) (most : Int) (r : Int) : Prop := (most ≤ (S.length : Int) ∧ (S.getD (most.toNat - 1) ([], 0)).2 < reachP p r * reachP p r) ∨ cellsN p r = 1024
structure RNearOk (l : List Adr) (p : Int × Int) (most : Int) (y : List Fnd × Int × Int) : Prop where
  ex : ∃ (r : Nat) (S : List Fnd), r ≤ 31 ∧ S.Perm (l.map (fndA p)) ∧ S.Pairwise (fun a b => befB b a = false) ∧ (∀ r' : Nat, r' < r → ¬ stopL S p most r') ∧ stopL S p most r ∧ y = (S.take most.toNat, cellsN p r, 0)
def rnearP (l : List Adr) (p : Int × Int) (most : Int) (y : List Fnd × Int × Int) : Prop :=
  if onB p = true ∧ 1 ≤ most ∧ most ≤ 8 then RNearOk l p most y else y = ([], 0, 1)
def RNear : Eng.MSpec where
  X := List Adr × (Int × Int) × Int
  Y := List Fnd × Int × Int
  args := fun x => .cons (.own 0 0) (.cons (ptE x.2.1) (.cons (.int .i64 x.2.2) .nil))
  pre := fun x => x.1.length ≤ 20000
  h0 := fun x => rH 1 x.1
  nx0 := 2
  post := fun x y => rnearP x.1 x.2.1 x.2.2 y
  res := fun _ y => .tup (.cons (listE y.1) (.cons (.int .i64 y.2.1) (.cons (.int .i64 y.2.2) .nil)))
  h1 := fun x _ => rH 1 x.1
  nx1 := 2
/-- Where an answer goes. -/
def Kx (S : List Fnd) (f : Fnd) (k : Nat) : Prop := k ≤ S.length ∧ ∀ j, k ≤ j → j < S.length → befB f (S.getD j ([], 0)) = true
structure XS where
  i : Nat
  S : List Fnd
def IS (l : List Adr) (p : Int × Int) (x : XS) : Prop := x.i ≤ l.length ∧ x.S.Perm ((l.take x.i).map (fndA p)) ∧ x.S.Pairwise (fun a b => befB b a = false)
theorem bef_ntrans {a b c : Fnd} (h1 : befB a b = false) (h2 : befB b c = false) : befB a c = false := by
  cases h : befB a c with
  | false => rfl
  | true =>
    cases h3 : befB b a with
    | true => rw [bef_trans h3 h] at h2; cases h2
    | false =>
      have := bef_conn h1 h3
      subst this
      rw [h] at h2
      cases h2
theorem bef_asymm {a b : Fnd} (h : befB a b = true) : befB b a = false := by
  cases h2 : befB b a with
  | false => rfl
  | true => have := bef_trans h h2; rw [bef_irrefl] at this; cases this
/-- An answer in its place. -/
theorem ins_ok {S : List Fnd} {f : Fnd} {k : Nat} (hS : S.Pairwise (fun a b => befB b a = false)) (hk : Kx S f k) (hb : k = 0 ∨ befB f (S.getD (k - 1) ([], 0)) = false) : (S.take k ++ [f] ++ S.drop k).Pairwise (fun a b => befB b a = false) := by
  have hkl := hk.1
  have lo : ∀ a ∈ S.take k, befB f a = false := by
    intro a ha
    obtain ⟨j, hj, rfl⟩ := List.getElem_of_mem ha
    have hj' : j < k := by have h1 : (S.take k).length ≤ k := List.length_take_le _ _; omega
    rw [List.getElem_take]
    rcases hb with hb | hb
    · omega
    · have hk1 : k - 1 < S.length := by omega
      rw [List.getD_eq_getElem?_getD, List.getElem?_eq_getElem hk1] at hb
      by_cases e : j = k - 1
      · subst e; exact hb
      · exact bef_ntrans hb (List.pairwise_iff_getElem.1 hS j (k - 1) (by omega) hk1 (by omega))
  have hi : ∀ a ∈ S.drop k, befB f a = true := by
    intro a ha
    obtain ⟨j, hj, rfl⟩ := List.getElem_of_mem ha
    rw [List.length_drop] at hj
    rw [List.getElem_drop]
    have := hk.2 (k + j) (by omega) (by omega)
    rw [List.getD_eq_getElem?_getD, List.getElem?_eq_getElem (show k + j < S.length by omega)] at this
    exact this
  rw [List.append_assoc, List.pairwise_append]
  refine ⟨hS.sublist (List.take_sublist _ _), ?_, ?_⟩
  · rw [List.singleton_append, List.pairwise_cons]
    exact ⟨fun a ha => bef_asymm (hi a ha), hS.sublist (List.drop_sublist _ _)⟩
  · intro a ha b hb'
    rw [List.singleton_append, List.mem_cons] at hb'
    rcases hb' with rfl | hb'
    · exact lo a ha
    · rw [← List.take_append_drop k S, List.pairwise_append] at hS
      exact hS.2.2 a ha b hb'
theorem ins_perm {l : List Adr} {p : Int × Int} {S : List Fnd} {i k : Nat} (hi : i < l.length) (h : S.Perm ((l.take i).map (fndA p))) : (S.take k ++ [fndA p (l.getD i ad0)] ++ S.drop k).Perm ((l.take (i + 1)).map (fndA p)) := by
  rw [List.take_succ_eq_append_getElem hi, List.map_append, List.map_singleton, List.getD_eq_getElem?_getD, List.getElem?_eq_getElem hi]
  refine List.Perm.trans ?_ (List.Perm.append_right _ h)
  refine List.Perm.trans ?_ (List.Perm.append_right _ (List.Perm.of_eq (List.take_append_drop k S)))
  rw [List.append_assoc, List.append_assoc]
  exact List.Perm.append_left _ List.perm_append_comm
theorem ins_len {S : List Fnd} {f : Fnd} {k : Nat} (h : k ≤ S.length) : ((k : Nat) : Int).toNat + 1 + (S.length - ((k : Nat) : Int).toNat) = (S.take k ++ [f] ++ S.drop k).length := by
  simp only [List.length_append, List.length_take, List.length_drop, List.length_singleton]
  omega
theorem ins_sub {q : Keep} {hp : List (Nat × HObj)} {S : List Fnd} {f : Fnd} {k n : Nat} {e : Nat → SV} (he : e 0 = fnL f) (h : k ≤ S.length) (hn : n = (S.take k ++ [f] ++ S.drop k).length) :
    ∀ j, j < n → sub q hp 20 (appE (((k : Nat) : Int).toNat + 1) (appE ((k : Nat) : Int).toNat (fun j => fnAt S (0 + j)) e) (fun j => fnAt S (0 + ((k : Nat) : Int).toNat + j)) j) (fnAt (S.take k ++ [f] ++ S.drop k) j) := by
  intro j hj
  have e : appE (((k : Nat) : Int).toNat + 1) (appE ((k : Nat) : Int).toNat (fun j => fnAt S (0 + j)) e) (fun j => fnAt S (0 + ((k : Nat) : Int).toNat + j)) j = fnAt (S.take k ++ [f] ++ S.drop k) j := by
    unfold appE fnAt
    dsimp only
    rw [Int.toNat_natCast, List.getD_eq_getElem?_getD, List.getD_eq_getElem?_getD, List.getD_eq_getElem?_getD]
    have bt : ∀ {a b : Nat}, a < b → Nat.blt a b = true := fun h => by rw [Nat.blt_eq]; exact h
    have bf : ∀ {a b : Nat}, ¬ a < b → Nat.blt a b = false := fun {a b} h => by
      cases hb : Nat.blt a b with
      | false => rfl
      | true => exact absurd (by rw [Nat.blt_eq] at hb; exact hb) h
    have lt : (S.take k).length = k := by rw [List.length_take]; omega
    by_cases h1 : j < k
    · rw [bt (show j < k + 1 by omega), bt h1, cond_true, cond_true, List.append_assoc, List.getElem?_append_left (by omega), List.getElem?_take_of_lt h1, Nat.zero_add]
    · by_cases h2 : j = k
      · subst h2
        rw [bt (show j < j + 1 by omega), bf (Nat.lt_irrefl j), cond_true, cond_false, Nat.sub_self, he, List.append_assoc, List.getElem?_append_right (by omega), lt, Nat.sub_self]
        rfl
      · rw [bf (show ¬ j < k + 1 by omega), cond_false, List.getElem?_append_right (by rw [List.length_append, lt, List.length_singleton]; omega), List.length_append, lt, List.length_singleton, List.getElem?_drop]
        congr 3
        omega
  rw [e]
  exact sub_fn q hp 17 _
theorem fnall {S : List Fnd} {m n : Nat} : ∀ j, j < n → allOne (fnAt S (m + j)) = true := fun _ _ => rfl
theorem cw_bd {p : Int × Int} (hp : onB p = true) {r : Nat} (hr : r ≤ 31) : (1 ≤ cw (p.1 / 1024) r ∧ cw (p.1 / 1024) r ≤ 32) ∧ (1 ≤ cw (p.2 / 1024) r ∧ cw (p.2 / 1024) r ≤ 32) := by
  have hc := on_cell hp
  unfold cw
  omega
theorem cells_bd {p : Int × Int} (hp : onB p = true) {r : Nat} (hr : r ≤ 31) : 0 ≤ cellsN p r ∧ cellsN p r ≤ 1024 := by
  have h := cw_bd hp hr
  have := mul_bd (a := cw (p.1 / 1024) r) (b := cw (p.2 / 1024) r) (B := 32) (by omega) (by omega) (by omega) (by omega)
  unfold cellsN
  have h0 : 0 ≤ cw (p.1 / 1024) r * cw (p.2 / 1024) r := Int.mul_nonneg (by omega) (by omega)
  omega
theorem more_ringsL {S : List Fnd} {p : Int × Int} {most : Int} {r : Nat} (hp : onB p = true) (hr : r ≤ 31) (h : ¬ stopL S p most r) : r + 1 ≤ 31 := by
  by_cases e : r = 31
  · exact absurd (.inr (cells_all hp (by omega))) h
  · omega
theorem not_beforeL {S : List Fnd} {p : Int × Int} {most : Int} {r : Nat} (h : ∀ r' : Nat, r' < r → ¬ stopL S p most r') (h2 : ¬ stopL S p most r) : ∀ r' : Nat, r' < r + 1 → ¬ stopL S p most r' := by
  intro r' hr'
  by_cases e : r' = r
  · rw [e]; exact h2
  · exact h r' (by omega)
theorem kxA {k n : Nat} (h : k ≤ n) (hn : n ≤ 20000) (hg : decide ((0 : Int) < (k : Int)) = true) : InR .i64 ((k : Int) - 1) := by
  have := of_decide_eq_true hg
  exact ⟨by show -9223372036854775808 ≤ (k : Int) - 1; omega, by show (k : Int) - 1 ≤ 9223372036854775807; omega⟩
theorem kxB {k n : Nat} (h : k ≤ n) (hg : decide ((0 : Int) < (k : Int)) = true) : 0 ≤ (k : Int) - 1 ∧ (k : Int) - 1 < (n : Int) := by
  have := of_decide_eq_true hg
  omega
theorem kxC {k n : Nat} (h : k ≤ n) (hg : decide ((0 : Int) < (k : Int)) = true) : 0 + ((k : Int) - 1).toNat < n := by
  have := of_decide_eq_true hg
  omega
theorem kx_true {S : List Fnd} {f : Fnd} {k a : Nat} {b : Bool} (hk : Kx S f k) (hb : b = befB f (S.getD (0 + ((k : Int) - 1).toNat) ([], 0))) (h : pickB (decide ((0 : Int) < (k : Int))) (.s a) (.c (.bool false)) b false = true) : 0 < k ∧ Kx S f (k - 1) := by
  rw [pickB_and] at h
  simp only [Bool.and_eq_true, decide_eq_true_eq] at h
  have h0 : 0 < k := by omega
  refine ⟨h0, by have := hk.1; omega, fun j h1 h2 => ?_⟩
  by_cases e : j = k - 1
  · have e2 : 0 + ((k : Int) - 1).toNat = k - 1 := by omega
    rw [hb, e2] at h
    rw [e]
    exact h.2
  · exact hk.2 j (by omega) h2
theorem kx_false {S : List Fnd} {f : Fnd} {k a : Nat} {b : Bool} (hb : b = befB f (S.getD (0 + ((k : Int) - 1).toNat) ([], 0))) (h : pickB (decide ((0 : Int) < (k : Int))) (.s a) (.c (.bool false)) b false = false) : k = 0 ∨ befB f (S.getD (k - 1) ([], 0)) = false := by
  rw [pickB_and] at h
  simp only [Bool.and_eq_false_iff, decide_eq_false_iff_not] at h
  by_cases h0 : k = 0
  · exact .inl h0
  · right
    have e2 : 0 + ((k : Int) - 1).toNat = k - 1 := by omega
    rw [hb, e2] at h
    rcases h with h | h
    · omega
    · exact h
theorem stopL_iff {S : List Fnd} {p : Int × Int} {most : Int} {r : Nat} {a : Nat} {d : Int} (hv : onB p = true ∧ 1 ≤ most ∧ most ≤ 8) (hd : d = reachP p r) {b : Bool} (hc : cellsN p r < 1024)
    (h : pickB (decide (most ≤ (S.length : Int))) (.s a) (.c (.bool false)) (decide ((S.getD (0 + (most - 1).toNat) ([], 0)).2 < d * d)) false = b) : stopL S p most r ↔ b = true := by
  rw [pickB_and] at h
  have e : 0 + (most - 1).toNat = most.toNat - 1 := by omega
  rw [e, hd] at h
  rw [← h, Bool.and_eq_true, decide_eq_true_eq, decide_eq_true_eq]
  unfold stopL
  constructor
  · rintro (h | h)
    · exact h
    · omega
  · exact .inl
theorem mostA {most : Int} {n : Nat} (hv : 1 ≤ most ∧ most ≤ 8) (hg : decide (most ≤ (n : Int)) = true) : 0 ≤ most - 1 ∧ most - 1 < (n : Int) := by
  have := of_decide_eq_true hg
  omega
theorem mostB {most : Int} {n : Nat} (hv : 1 ≤ most ∧ most ≤ 8) (hg : decide (most ≤ (n : Int)) = true) : 0 + (most - 1).toNat < n := by
  have := of_decide_eq_true hg
  omega
theorem mostC {most : Int} (hv : 1 ≤ most ∧ most ≤ 8) : InR .i64 (most - 1) := ⟨by show -9223372036854775808 ≤ most - 1; omega, by show most - 1 ≤ 9223372036854775807; omega⟩
theorem res_subL {k : Keep} {hp : List (Nat × HObj)} {S : List Fnd} {m i n : Nat} (h : i < (S.take m).length) : sub k hp (n + 3) (fnAt S (0 + i)) (fnAt (S.take m) i) := by
  rw [List.length_take] at h
  have e : fnAt (S.take m) i = fnAt S i := by
    unfold fnAt
    rw [List.getD_eq_getElem?_getD, List.getD_eq_getElem?_getD, List.getElem?_take_of_lt (by omega)]
  rw [e, Nat.zero_add]
  exact sub_fn k hp n _
theorem lenL {most : Int} {S : List Fnd} (hm : 1 ≤ most) : (min most ((S.length : Nat) : Int)).toNat = (S.take most.toNat).length := by
  rw [List.length_take]
  omega
theorem rnear_mk {l : List Adr} {p : Int × Int} {most : Int} {y : List Fnd × Int × Int} (hv : onB p = true ∧ 1 ≤ most ∧ most ≤ 8) (h : RNearOk l p most y) : rnearP l p most y := by
  unfold rnearP
  rw [if_pos hv]
  exact h
set_option maxHeartbeats 4000000 in
theorem RNear_ok : RNear.Ok Try.prog 17 := by
  refine Eng.MSpec.ok_of e17 q17 (fun _ => [(27, .p OnR), (35, .p DistR), (20, .p Before), (36, .p cellsR), (37, .p reachR)]) (fun _ _ => TabOk.p OnR_ok (TabOk.p DistR_ok (TabOk.p Before_ok (TabOk.p cellsR_ok (TabOk.p reachR_ok TabOk.nil))))) ?_
  rintro ⟨l, p, most⟩ hl
  replace hl : l.length ≤ 20000 := hl
  refine ⟨trivial, ?_⟩
  have hcond : ∀ a b c, pickB (pickB (pickB false (.c (.bool true)) (.s a) true (!onB p)) (.c (.bool true)) (.s b) true (decide (most < 1))) (.c (.bool true)) (.s c) true (decide (8 < most)) = !decide (onB p = true ∧ 1 ≤ most ∧ most ≤ 8) := by
    intro a b c
    rw [pickB_or, pickB_or, pickB_or]
    cases onB p <;> simp
    by_cases h1 : most < 1 <;> by_cases h2 : 8 < most <;> simp [h1, h2] <;> omega
  by_cases hv : onB p = true ∧ 1 ≤ most ∧ most ≤ 8
  · have hb0 := fun a b c => (hcond a b c).trans (by rw [decide_eq_true hv]; rfl : _ = false)
    repeat' (first | refine And.intro ?_ ?_ | exact trivial | exact rfl | (refine fun (_ : guardP _ _ _ _) => ?_) | (refine fun (hb : pickB _ _ _ _ _ = true) => absurd (hb.symm.trans (hb0 _ _ _)) (by decide)) | (refine fun (hb : pickB _ _ _ _ _ = false) => ?_))
    clear hcond hb0
    refine ⟨⟨XS, IS l p, fun x => [(10, .int .i64 (x.i : Int)), (9, .lsl 20 2 x.S.length)], fun x => [(20, .arr 50 2 x.S.length (fnAt x.S))], fun x => l.length - x.i⟩, ⟨0, []⟩, ⟨Nat.zero_le _, List.Perm.refl _, List.Pairwise.nil⟩, ?_, ?_⟩
    · repeat' (first | refine And.intro ?_ ?_ | exact trivial | exact rfl | exact fun (j : Nat) (hj : j < _) => sub_adAt _ _ 7 _ hj | exact fun (j : Nat) (hj : j < _) => sub_at _ _ 17 _ hj)
    rintro ⟨i, S⟩ ⟨hi, hperm, hsort⟩
    replace hi : i ≤ l.length := hi
    replace hperm : S.Perm ((l.take i).map (fndA p)) := hperm
    replace hsort : S.Pairwise (fun a b => befB b a = false) := hsort
    have hSl : S.length = i := by rw [hperm.length_eq, List.length_map, List.length_take]; omega
    refine And.intro (fun hb => ?_) (fun hb => ?_)
    · have hil : i < l.length := by have h1 : (i : Int) < ((l.length : Nat) : Int) := of_decide_eq_true hb; omega
      repeat' (first | refine And.intro ?_ ?_ | exact trivial | exact rfl | omega | (dsimp only; omega))
      refine ⟨⟨Nat, Kx S (fndA p (l.getD (0 + ((i : Nat) : Int).toNat) ad0)), fun k => [(12, .int .i64 (k : Int))], fun _ => [], fun k => k⟩, S.length, ⟨Nat.le_refl _, fun j h1 h2 => absurd h2 (by omega)⟩, ?_, ?_⟩
      · repeat' (first | refine And.intro ?_ ?_ | exact trivial | exact rfl | exact fun (j : Nat) (hj : j < _) => sub_adAt _ _ 7 _ hj | exact fun (j : Nat) (hj : j < _) => sub_at _ _ 17 _ hj | omega | (dsimp only; omega))
      rintro (k : Nat) hk
      replace hk : Kx S (fndA p (l.getD (0 + ((i : Nat) : Int).toNat) ad0)) k := hk
      have hk1 := hk.1
      have hS2 : S.length ≤ 20000 := by omega
      repeat' (first | refine And.intro ?_ ?_ | exact trivial | exact rfl | exact kxA hk1 hS2 | exact kxB hk1 | exact kxC hk1 | (refine fun (_ : guardP _ _ _ _) => ?_) | omega | (dsimp only; omega))
      · refine fun hw => ?_
        have hw1 := kx_true hk rfl hw
        have hk0 := hw1.1
        repeat' (first | refine And.intro ?_ ?_ | exact trivial | exact rfl | omega | (dsimp only; omega))
        refine Exists.intro (k - 1) (And.intro hw1.2 (And.intro ?_ ?_))
        · have hkc : ((k : Nat) : Int) - 1 = ((k - 1 : Nat) : Int) := by omega
          repeat' (first | refine And.intro ?_ ?_ | exact trivial | exact rfl | exact hkc | exact fun (j : Nat) (hj : j < _) => sub_adAt _ _ 7 _ hj | exact fun (j : Nat) (hj : j < _) => sub_at _ _ 17 _ hj | omega | (dsimp only; omega))
        · show k - 1 < k
          omega
      · refine fun hw => ?_
        have hw1 := kx_false rfl hw
        have hI : IS l p ⟨i + 1, S.take k ++ [fndA p (l.getD (0 + ((i : Nat) : Int).toNat) ad0)] ++ S.drop k⟩ := by
          refine ⟨hil, ?_, ins_ok hsort hk hw1⟩
          rw [Nat.zero_add, Int.toNat_natCast]
          exact ins_perm hil hperm
        repeat' (first | refine And.intro ?_ ?_ | exact trivial | exact rfl | exact fnall | omega | (dsimp only; omega))
        refine Exists.intro (XS.mk (i + 1) (S.take k ++ [fndA p (l.getD (0 + ((i : Nat) : Int).toNat) ad0)] ++ S.drop k)) (And.intro hI (And.intro ?_ ?_))
        · repeat' (first | refine And.intro ?_ ?_ | exact trivial | exact rfl)
          · exact ins_len hk1
          · exact ins_len hk1
          · exact ins_sub (f := fndA p (l.getD (0 + ((i : Nat) : Int).toNat) ad0)) rfl hk1 (ins_len hk1)
          · first | exact fun (j : Nat) (hj : j < _) => sub_adAt _ _ 7 _ hj | exact fun (j : Nat) (hj : j < _) => sub_at _ _ 17 _ hj
        · show l.length - (i + 1) < l.length - i
          omega
    · have hin : i = l.length := by have h1 : ¬ (i : Int) < ((l.length : Nat) : Int) := of_decide_eq_false hb; omega
      have hperm2 : S.Perm (l.map (fndA p)) := by
        rw [hin, List.take_length] at hperm
        exact hperm
      have hon := onB_iff.1 hv.1
      have hS2 : S.length ≤ 20000 := by omega
      repeat' (first | refine And.intro ?_ ?_ | exact trivial | exact rfl | omega | (dsimp only; omega))
      refine ⟨⟨Nat, fun r => r ≤ 31 ∧ ∀ r' : Nat, r' < r → ¬ stopL S p most r', fun r => [(13, .int .i64 (r : Int))], fun _ => [], fun r => 32 - r⟩, 0, ⟨Nat.zero_le _, fun r' h => absurd h (Nat.not_lt_zero r')⟩, ?_, ?_⟩
      · repeat' (first | refine And.intro ?_ ?_ | exact trivial | exact rfl | exact fun (j : Nat) (hj : j < _) => sub_adAt _ _ 7 _ hj | exact fun (j : Nat) (hj : j < _) => sub_at _ _ 17 _ hj | omega | (dsimp only; omega))
      rintro (r : Nat) ⟨hr, hns⟩
      replace hr : r ≤ 31 := hr
      replace hns : ∀ r' : Nat, r' < r → ¬ stopL S p most r' := hns
      have hcb := cells_bd hv.1 hr
      have hcb1 : InR .i64 (cellsN p r) := ⟨by show -9223372036854775808 ≤ cellsN p r; omega, by show cellsN p r ≤ 9223372036854775807; omega⟩
      repeat' (first | refine And.intro ?_ ?_ | exact trivial | exact rfl | exact hcb1.1 | exact hcb1.2 | omega | (dsimp only; omega))
      · refine fun hw => ?_
        have hc : cellsN p r < 1024 := of_decide_eq_true hw
        have hlim := reach_bd hv.1 hr
        have hsq := mul_bd (a := reachP p r) (b := reachP p r) (B := 32768) (by omega) (by omega) (by omega) (by omega)
        have hsq1 : InR .i64 (reachP p r * reachP p r) := ⟨by show -9223372036854775808 ≤ reachP p r * reachP p r; omega, by show reachP p r * reachP p r ≤ 9223372036854775807; omega⟩
        repeat' (first | refine And.intro ?_ ?_ | exact trivial | exact rfl | omega | (dsimp only; omega))
        · exact fun (_ : guardP _ _ _ _) => mostC hv.2
        · exact fun (hg : decide (most ≤ (S.length : Int)) = true) => mostA hv.2 hg
        · exact fun (hg : decide (most ≤ (S.length : Int)) = true) => mostB hv.2 hg
        · exact fun (_ : guardP _ _ _ _) => hsq1
        · refine fun hz => ?_
          have hs : stopL S p most r := (stopL_iff hv rfl hc rfl).2 hz
          repeat' (first | refine And.intro ?_ ?_ | exact trivial | exact rfl | omega | (dsimp only; omega))
          · exact hcb1.1
          · exact hcb1.2
          refine Exists.intro (S.take most.toNat, cellsN p r, 0) (And.intro (rnear_mk hv ⟨⟨r, S, hr, hperm2, hsort, hns, hs, rfl⟩⟩) ?_)
          have hkn := lenL (S := S) (most := most) hv.2.1
          have hkl : 0 + (min most ((S.length : Nat) : Int)).toNat ≤ S.length := by omega
          repeat' (first | refine And.intro ?_ ?_ | exact trivial | exact rfl)
          · exact hkn
          · exact hkl
          · exact fun (i : Nat) (hi : i < _) => res_subL (Nat.lt_of_lt_of_eq hi hkn)
          · first | exact fun (j : Nat) (hj : j < _) => sub_adAt _ _ 7 _ hj | exact fun (j : Nat) (hj : j < _) => sub_at _ _ 17 _ hj
        · refine fun hz => ?_
          have hs : ¬ stopL S p most r := fun h => by have h2 := (stopL_iff hv rfl hc hz).1 h; cases h2
          repeat' (first | refine And.intro ?_ ?_ | exact trivial | exact rfl | omega | (dsimp only; omega))
          refine Exists.intro (r + 1) (And.intro ⟨more_ringsL hv.1 hr hs, not_beforeL hns hs⟩ (And.intro ?_ ?_))
          · repeat' (first | refine And.intro ?_ ?_ | exact trivial | exact rfl)
            all_goals (first | exact fun (j : Nat) (hj : j < _) => sub_adAt _ _ 7 _ hj | exact fun (j : Nat) (hj : j < _) => sub_at _ _ 17 _ hj)
          · show 32 - (r + 1) < 32 - r
            omega
      · refine fun hw => ?_
        have hc : ¬ cellsN p r < 1024 := of_decide_eq_false hw
        have hs : stopL S p most r := .inr (by omega)
        repeat' (first | refine And.intro ?_ ?_ | exact trivial | exact rfl | omega | (dsimp only; omega))
        · exact hcb1.1
        · exact hcb1.2
        refine Exists.intro (S.take most.toNat, cellsN p r, 0) (And.intro (rnear_mk hv ⟨⟨r, S, hr, hperm2, hsort, hns, hs, rfl⟩⟩) ?_)
        have hkn := lenL (S := S) (most := most) hv.2.1
        have hkl : 0 + (min most ((S.length : Nat) : Int)).toNat ≤ S.length := by omega
        repeat' (first | refine And.intro ?_ ?_ | exact trivial | exact rfl)
        · exact hkn
        · exact hkl
        · exact fun (i : Nat) (hi : i < _) => res_subL (Nat.lt_of_lt_of_eq hi hkn)
        · first | exact fun (j : Nat) (hj : j < _) => sub_adAt _ _ 7 _ hj | exact fun (j : Nat) (hj : j < _) => sub_at _ _ 17 _ hj
  · have e : rnearP l p most ([], 0, 1) := by unfold rnearP; rw [if_neg hv]
    have hb1 := fun a b c => (hcond a b c).trans (by rw [decide_eq_false hv]; rfl : _ = true)
    repeat' (first | refine And.intro ?_ ?_ | exact trivial | exact rfl | (refine fun (_ : guardP _ _ _ _) => ?_) | (refine fun (hb : pickB _ _ _ _ _ = false) => absurd (hb.symm.trans (hb1 _ _ _)) (by decide)) | refine Exists.intro ([], 0, 1) (And.intro e ?_) | exact fun (j : Nat) (hj : j < _) => sub_adAt _ _ 7 _ hj | exact fun (j : Nat) (hj : j < _) => sub_at _ _ 17 _ hj | (refine fun (hb : pickB _ _ _ _ _ = true) => ?_))
end R14
