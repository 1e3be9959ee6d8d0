/- A part of the proof: see the last text. -/
import Derived.Test.YtjfjbkgkafgofaaR24
import Derived.Test.YtjfjbkgkafgofaaRC
open Go Go.Eng Go.Proofs R2 R3 R4 R1 R5 R6 R7 R8 R9 R10 R10b R11 R12 R13 R14 R15 R16 R17 R18 R19 R24 RC
set_option maxRecDepth 100000
namespace R25
theorem code_eq (a : Nat → Adr) (i : Nat) : codeLN a i = codeN a i := by rw [codeN_M, codeLN_M]
theorem rnew_ok {x : Adrs} {Q : Int × Option (List Adr) → Prop} (hc : ∀ j, j < x.n → codeN x.a j = 0) (hQ : Q (0, some (putLN x.a x.n))) : ∀ y, newVL x y → Q y := by
  intro y hy
  rcases hy with ⟨_, rfl⟩ | ⟨i, hi, _, h, _⟩
  · exact hQ
  · exact absurd ((code_eq x.a i).trans (hc i hi)) h
/-- Both fail with the same number. -/
theorem both_bad {x : Adrs} (h : ¬ ∀ j, j < x.n → codeN x.a j = 0) : ∃ c : Int, c ≠ 0 ∧ (∀ y, newV x y → y = (c, none)) ∧ ∀ y, newVL x y → y = (c, none) := by
  -- the first that fails
  have hex : ∃ i, i < x.n ∧ codeN x.a i ≠ 0 ∧ ∀ j, j < i → codeN x.a j = 0 := by
    refine Classical.byContradiction fun hn => h fun j => ?_
    induction j using Nat.strongRecOn with
    | ind j ih =>
      intro hj
      refine Classical.byContradiction fun hne => hn ⟨j, hj, hne, fun k hk => ih k hk (by omega)⟩
  obtain ⟨i, hi, hne, hb⟩ := hex
  have same : ∀ k, k < x.n → (∀ j, j < k → codeN x.a j = 0) → codeN x.a k ≠ 0 → k = i := by
    intro k _ h1 h2
    rcases Nat.lt_trichotomy k i with h3 | h3 | h3
    · exact absurd (hb k h3) h2
    · exact h3
    · exact absurd (h1 i h3) hne
  refine ⟨codeN x.a i, hne, ?_, ?_⟩
  · rintro y (⟨h1, _⟩ | ⟨k, hk, h1, h2, rfl⟩)
    · exact absurd (h1 i hi) hne
    · rw [same k hk h1 h2]
  · rintro y (⟨h1, _⟩ | ⟨k, hk, h1, h2, rfl⟩)
    · exact absurd ((code_eq x.a i).symm.trans (h1 i hi)) hne
    · rw [code_eq] at h2 ⊢
      rw [same k hk (fun j hj => (code_eq x.a j).symm.trans (h1 j hj)) h2]
theorem val_all {α : Type} {P : α → Prop} {a : α} {Q : α → Prop} (h : ∀ y, P y → y = a) (hQ : Q a) : ∀ y, P y → Q y := by
  intro y hy
  rw [h y hy]
  exact hQ
structure X3 where
  l : Adrs
  m : Adrs
  s : Strs
  q : RC.Pts
  most : Int
/-- gazetteer/gazetteerlaw39.ReverseMatchesReference -/
def g3 : List Nat := [41, 0, 15, 13, 62, 78, 1, 2, 120, 124, 12, 14, 3, 4, 17, 20, 18, 21, 19, 22, 160, 16, 11, 10]
def c3 : SCode :=
  .seq (.region g3 [⟨some 10, none, .move (.c (.bool false)), []⟩]) (.seq (.region g3 [⟨some 23, none, .call (.c (.fn 8)) [], []⟩, ⟨some 11, none, .move (.s 23), []⟩]) (.seq (.seq (.region g3 [⟨some 24, none, .move (.s 0), []⟩, ⟨some 25, none, .call (.c (.fn 9)) [.s 24], []⟩, ⟨some 26, none, .not (.s 25), []⟩, ⟨some 27, none, .move (.s 26), []⟩, ⟨some 28, some (27, false), .move (.s 1), []⟩, ⟨some 29, some (27, false), .call (.c (.fn 9)) [.s 28], []⟩, ⟨some 30, some (27, false), .not (.s 29), []⟩, ⟨some 31, none, .pick (.s 27) (.c (.bool true)) (.s 30), []⟩, ⟨some 32, none, .move (.s 31), []⟩, ⟨some 33, some (32, false), .move (.s 2), []⟩, ⟨some 34, some (32, false), .lenSl (.s 33), []⟩, ⟨some 35, some (32, false), .bin (.gtr) (.s 34) (.c (.int .i64 30)), []⟩, ⟨some 36, none, .pick (.s 32) (.c (.bool true)) (.s 35), []⟩, ⟨some 37, none, .move (.s 36), []⟩, ⟨some 38, some (37, false), .move (.s 3), []⟩, ⟨some 39, some (37, false), .lenSl (.s 38), []⟩, ⟨some 40, some (37, false), .bin (.gtr) (.s 39) (.c (.int .i64 30)), []⟩, ⟨some 41, none, .pick (.s 37) (.c (.bool true)) (.s 40), []⟩]) (.cond (.s 41) (.seq (.region g3 [⟨some 42, none, .move (.s 11), []⟩, ⟨some 10, none, .move (.s 42), []⟩]) .ret) .skip)) (.seq (.region g3 [⟨some 44, none, .move (.s 0), []⟩, ⟨some 45, none, .call (.c (.fn 10)) [.s 44], []⟩, ⟨some 43, none, .move (.s 45), []⟩, ⟨some 46, none, .extract 0 (.s 43), []⟩, ⟨some 47, none, .extract 1 (.s 43), []⟩, ⟨some 12, none, .move (.s 46), []⟩, ⟨some 13, none, .move (.s 47), []⟩]) (.seq (.region g3 [⟨some 49, none, .move (.s 0), []⟩, ⟨some 50, none, .call (.c (.fn 11)) [.s 49], []⟩, ⟨some 48, none, .move (.s 50), []⟩, ⟨some 51, none, .extract 0 (.s 48), []⟩, ⟨some 52, none, .extract 1 (.s 48), []⟩, ⟨some 14, none, .move (.s 51), []⟩, ⟨some 15, none, .move (.s 52), []⟩]) (.seq (.seq (.region g3 [⟨some 53, none, .move (.s 13), []⟩, ⟨some 54, none, .move (.s 15), []⟩, ⟨some 55, none, .bin (.neq) (.s 53) (.s 54), []⟩, ⟨some 56, none, .move (.s 55), []⟩, ⟨some 57, some (56, false), .move (.s 12), []⟩, ⟨some 58, some (56, false), .ptrEq false (.s 57) (.c (.nilptr)), []⟩, ⟨some 59, some (56, false), .move (.s 13), []⟩, ⟨some 60, some (56, false), .bin (.neq) (.s 59) (.c (.int .i64 0)), []⟩, ⟨some 61, some (56, false), .eqB true (.s 58) (.s 60), []⟩, ⟨some 62, none, .pick (.s 56) (.c (.bool true)) (.s 61), []⟩]) (.cond (.s 62) (.seq (.region g3 [⟨some 10, none, .move (.c (.bool false)), []⟩]) .ret) .skip)) (.seq (.seq (.region g3 [⟨some 16, none, .move (.c (.int .i64 0)), []⟩]) (.block 0 (.loop 0 [63, 64, 65, 66, 67, 68, 69, 70, 71, 72, 73, 74, 75, 76, 77, 78, 81, 82, 83, 84, 85, 86, 87, 88, 89, 90, 91, 92, 93, 94, 95, 96, 97, 98, 99, 100, 101, 102, 103, 104, 105, 106, 107, 108, 109, 110, 111, 112, 113, 114, 115, 116, 117, 118, 119, 120, 121, 122, 123, 124, 126, 127, 128, 129, 130, 131, 132, 125, 133, 134, 135, 17, 18, 19, 137, 138, 139, 140, 141, 142, 143, 136, 144, 145, 146, 20, 21, 22, 147, 148, 149, 150, 151, 152, 153, 154, 155, 156, 157, 158, 159, 160, 10, 79, 80, 16] (.seq (.seq (.region g3 [⟨some 63, none, .move (.s 16), []⟩, ⟨some 64, none, .move (.s 1), []⟩, ⟨some 65, none, .lenSl (.s 64), []⟩, ⟨some 66, none, .bin (.lss) (.s 63) (.s 65), []⟩, ⟨some 67, none, .move (.s 66), []⟩, ⟨some 68, some (67, false), .move (.s 16), []⟩, ⟨some 69, some (67, false), .move (.s 2), []⟩, ⟨some 70, some (67, false), .lenSl (.s 69), []⟩, ⟨some 71, some (67, false), .bin (.lss) (.s 68) (.s 70), []⟩, ⟨some 72, none, .pick (.s 67) (.c (.bool true)) (.s 71), []⟩, ⟨some 73, none, .move (.s 72), []⟩, ⟨some 74, some (73, false), .move (.s 16), []⟩, ⟨some 75, some (73, false), .move (.s 3), []⟩, ⟨some 76, some (73, false), .lenSl (.s 75), []⟩, ⟨some 77, some (73, false), .bin (.lss) (.s 74) (.s 76), []⟩, ⟨some 78, none, .pick (.s 73) (.c (.bool true)) (.s 77), []⟩]) (.cond (.s 78) .skip (.exit 0))) (.seq (.block 1 (.seq (.seq (.drawn g3 (.pure 0 ⟨some 81, none, .move (.s 16), []⟩ (.pure 1 ⟨some 82, none, .move (.s 1), []⟩ (.pure 2 ⟨some 83, none, .lenSl (.s 82), []⟩ (.pure 3 ⟨some 84, none, .bin (.lss) (.s 81) (.s 83), []⟩ (.pure 4 ⟨some 85, none, .move (.s 84), []⟩ (.pure 5 ⟨some 86, some (85, true), .move (.s 12), []⟩ (.pure 6 ⟨some 87, some (85, true), .move (.s 1), []⟩ (.pure 7 ⟨some 88, some (85, true), .move (.s 16), []⟩ (.pure 8 ⟨some 89, some (85, true), .idxSl 11 (.s 87) (.s 88), []⟩ (.pure 9 ⟨some 90, some (85, true), .load 11 true (.s 89), []⟩ (.pure 10 ⟨some 91, some (85, true), .call (.c (.fn 12)) [.s 86, .s 90], []⟩ (.pure 11 ⟨some 92, some (85, true), .move (.s 14), []⟩ (.pure 12 ⟨some 93, some (85, true), .move (.s 1), []⟩ (.pure 13 ⟨some 94, some (85, true), .move (.s 16), []⟩ (.pure 14 ⟨some 95, some (85, true), .idxSl 11 (.s 93) (.s 94), []⟩ (.pure 15 ⟨some 96, some (85, true), .load 11 true (.s 95), []⟩ (.pure 16 ⟨some 97, some (85, true), .call (.c (.fn 13)) [.s 92, .s 96], []⟩ (.pure 17 ⟨some 98, some (85, true), .bin (.neq) (.s 91) (.s 97), []⟩ (.pure 18 ⟨some 99, none, .pick (.s 85) (.s 98) (.c (.bool false)), []⟩ (.pure 19 ⟨some 100, none, .move (.s 99), []⟩ (.pure 20 ⟨some 101, some (100, false), .move (.s 16), []⟩ (.pure 21 ⟨some 102, some (100, false), .move (.s 2), []⟩ (.pure 22 ⟨some 103, some (100, false), .lenSl (.s 102), []⟩ (.pure 23 ⟨some 104, some (100, false), .bin (.lss) (.s 101) (.s 103), []⟩ (.pure 24 ⟨some 105, some (100, false), .move (.s 104), []⟩ (.pure 25 ⟨some 106, some (105, true), .move (.s 12), []⟩ (.pure 26 ⟨some 107, some (105, true), .move (.s 2), []⟩ (.pure 27 ⟨some 108, some (105, true), .move (.s 16), []⟩ (.pure 28 ⟨some 109, some (105, true), .idxSl 1 (.s 107) (.s 108), []⟩ (.pure 29 ⟨some 110, some (105, true), .load 1 false (.s 109), []⟩ (.pure 30 ⟨some 111, some (105, true), .call (.c (.fn 14)) [.s 106, .s 110], []⟩ (.pure 31 ⟨some 112, some (105, true), .move (.s 14), []⟩ (.pure 32 ⟨some 113, some (105, true), .move (.s 2), []⟩ (.pure 33 ⟨some 114, some (105, true), .move (.s 16), []⟩ (.pure 34 ⟨some 115, some (105, true), .idxSl 1 (.s 113) (.s 114), []⟩ (.pure 35 ⟨some 116, some (105, true), .load 1 false (.s 115), []⟩ (.pure 36 ⟨some 117, some (105, true), .call (.c (.fn 15)) [.s 112, .s 116], []⟩ (.pure 37 ⟨some 118, some (105, true), .bin (.neq) (.s 111) (.s 117), []⟩ (.pure 38 ⟨some 119, some (100, false), .pick (.s 105) (.s 118) (.c (.bool false)), []⟩ (.pure 39 ⟨some 120, none, .pick (.s 100) (.c (.bool true)) (.s 119), []⟩ .done))))))))))))))))))))))))))))))))))))))))) (.cond (.s 120) (.seq (.region g3 [⟨some 10, none, .move (.c (.bool false)), []⟩]) .ret) .skip)) (.seq (.region g3 [⟨some 121, none, .move (.s 16), []⟩, ⟨some 122, none, .move (.s 3), []⟩, ⟨some 123, none, .lenSl (.s 122), []⟩, ⟨some 124, none, .bin (.lss) (.s 121) (.s 123), []⟩]) (.cond (.s 124) (.seq (.region g3 [⟨some 126, none, .move (.s 12), []⟩, ⟨some 127, none, .move (.s 3), []⟩, ⟨some 128, none, .move (.s 16), []⟩, ⟨some 129, none, .idxSl 2 (.s 127) (.s 128), []⟩, ⟨some 130, none, .load 2 true (.s 129), []⟩, ⟨some 131, none, .move (.s 4), []⟩, ⟨some 132, none, .call (.c (.fn 16)) [.s 126, .s 130, .s 131], []⟩, ⟨some 125, none, .move (.s 132), []⟩, ⟨some 133, none, .extract 0 (.s 125), []⟩, ⟨some 134, none, .extract 1 (.s 125), []⟩, ⟨some 135, none, .extract 2 (.s 125), []⟩, ⟨some 17, none, .move (.s 133), []⟩, ⟨some 18, none, .move (.s 134), []⟩, ⟨some 19, none, .move (.s 135), []⟩]) (.seq (.region g3 [⟨some 137, none, .move (.s 14), []⟩, ⟨some 138, none, .move (.s 3), []⟩, ⟨some 139, none, .move (.s 16), []⟩, ⟨some 140, none, .idxSl 2 (.s 138) (.s 139), []⟩, ⟨some 141, none, .load 2 true (.s 140), []⟩, ⟨some 142, none, .move (.s 4), []⟩, ⟨some 143, none, .call (.c (.fn 17)) [.s 137, .s 141, .s 142], []⟩, ⟨some 136, none, .move (.s 143), []⟩, ⟨some 144, none, .extract 0 (.s 136), []⟩, ⟨some 145, none, .extract 1 (.s 136), []⟩, ⟨some 146, none, .extract 2 (.s 136), []⟩, ⟨some 20, none, .move (.s 144), []⟩, ⟨some 21, none, .move (.s 145), []⟩, ⟨some 22, none, .move (.s 146), []⟩]) (.seq (.region g3 [⟨some 147, none, .move (.s 17), []⟩, ⟨some 148, none, .move (.s 20), []⟩, ⟨some 149, none, .call (.c (.fn 18)) [.s 147, .s 148], []⟩, ⟨some 150, none, .not (.s 149), []⟩, ⟨some 151, none, .move (.s 150), []⟩, ⟨some 152, some (151, false), .move (.s 18), []⟩, ⟨some 153, some (151, false), .move (.s 21), []⟩, ⟨some 154, some (151, false), .bin (.neq) (.s 152) (.s 153), []⟩, ⟨some 155, none, .pick (.s 151) (.c (.bool true)) (.s 154), []⟩, ⟨some 156, none, .move (.s 155), []⟩, ⟨some 157, some (156, false), .move (.s 19), []⟩, ⟨some 158, some (156, false), .move (.s 22), []⟩, ⟨some 159, some (156, false), .bin (.neq) (.s 157) (.s 158), []⟩, ⟨some 160, none, .pick (.s 156) (.c (.bool true)) (.s 159), []⟩]) (.cond (.s 160) (.seq (.region g3 [⟨some 10, none, .move (.c (.bool false)), []⟩]) .ret) .skip)))) .skip)))) (.region g3 [⟨some 79, none, .move (.s 16), []⟩, ⟨some 80, none, .bin (.add) (.s 79) (.c (.int .i64 1)), []⟩, ⟨some 16, none, .move (.s 80), []⟩])))))) (.seq (.region g3 [⟨some 161, none, .move (.s 11), []⟩, ⟨some 10, none, .move (.s 161), []⟩]) .ret)))))))
def r3 : List SRes := [.slot 10]
def k3 : List (Nat × Nat × SCode × Nat) := []
theorem e3 : cFunc Try.prog 3 g3 [] [] k3 = some (c3, r3, 162) := by kernel_rfl
theorem q3 : RgOk Try.prog k3 := RgOk.nil

def law3 : Eng.Spec where
  X := X3
  args := fun x => .cons (.slice 11 x.l.n fun i => adL (x.l.a i)) (.cons (.slice 11 x.m.n fun i => adL (x.m.a i)) (.cons (.slice 1 x.s.n fun i => strL (x.s.s i)) (.cons (.slice 2 x.q.n fun i => ptL (x.q.p i)) (.cons (.int .i64 x.most) .nil))))
  pre := fun x => ((x.l.n : Int) ≤ 9223372036854775806 ∧ ∀ i, i < x.l.n → ((x.l.a i).door.length : Int) ≤ 9223372036854775807) ∧ ((x.m.n : Int) ≤ 9223372036854775806 ∧ ∀ i, i < x.m.n → ((x.m.a i).door.length : Int) ≤ 9223372036854775807) ∧ (x.s.n : Int) ≤ 9223372036854775806 ∧ (x.q.n : Int) ≤ 9223372036854775806
  res := fun _ => .bool true
  inst := fun _ => none
open Classical in
noncomputable def tab3 (x : X3) : List (Nat × FSpec) :=
  [(8, .p headS), (10, .m New), (11, .m RNew), (9, .p Few), (18, .p Same)] ++ (if ∀ j, j < x.l.n → codeN x.l.a j = 0 then [(12, .m Put), (13, .m RPut), (14, .m Drop), (15, .m RDrop), (16, .m Near), (17, .m RNear)] else [(12, .p PutNil), (13, .p RPutNil), (14, .p DropNil), (15, .p RDropNil), (16, .p NearNil), (17, .p RNearNil)])
theorem tab3_ok (x : X3) : TabOk Try.prog (tab3 x) := by
  unfold tab3
  split
  · exact TabOk.p head_ok (TabOk.m New_ok (TabOk.m RNew_ok (TabOk.p Few_ok (TabOk.p Same_ok (TabOk.m Put_ok (TabOk.m RPut_ok (TabOk.m Drop_ok (TabOk.m RDrop_ok (TabOk.m Near_ok (TabOk.m RNear_ok TabOk.nil))))))))))
  · exact TabOk.p head_ok (TabOk.m New_ok (TabOk.m RNew_ok (TabOk.p Few_ok (TabOk.p Same_ok (TabOk.p PutNil_ok (TabOk.p RPutNil_ok (TabOk.p DropNil_ok (TabOk.p RDropNil_ok (TabOk.p NearNil_ok (TabOk.p RNearNil_ok TabOk.nil))))))))))
end R25
