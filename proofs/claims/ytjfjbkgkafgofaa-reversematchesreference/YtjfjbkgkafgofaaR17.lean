/- A part of the proof: see the last text. -/
import Derived.Test.YtjfjbkgkafgofaaR16
import Derived.Test.YtjfjbkgkafgofaaR11
open Go Go.Eng Go.Proofs R2 R3 R4 R1 R5 R6 R7 R8 R9 R10 R10b R11 R12 R13 R14 R15 R16
set_option maxRecDepth 100000
namespace R17
theorem near_all {g : G} {D : List En} {p : Int × Int} {most : Int} {y0 : List Fnd × Int × Int} {Q : List Fnd × Int × Int → Prop} (hg : GOk g) (hD : DG g = D) (h0 : NM D p most y0) (hQ : Q y0) : ∀ y, nearP g p most y → Q y := by
  intro y hy
  have := NM.of_near hg hy
  rw [hD] at this
  rw [this.uniq h0]
  exact hQ
theorem new_ok {x : Adrs} {Q : Int × Option G → Prop} (hc : ∀ j, j < x.n → codeN x.a j = 0) (hQ : Q (0, some (putN x.a x.n))) : ∀ y, newV x y → Q y := by
  intro y hy
  rcases hy with ⟨_, rfl⟩ | ⟨i, hi, _, h, _⟩
  · exact hQ
  · exact absurd (hc i hi) h
theorem eq_all {α : Type} {a : α} {Q : α → Prop} (h : Q a) : ∀ y, y = a → Q y := by
  rintro y rfl
  exact h
def adr3 (s : List UInt8) (x y : Int) : Adr := ⟨s, [], [], [], [], 0, [], 0, 0, (x, y)⟩
def ex3 : Nat → Adr
  | 0 => adr3 [99] 5000 10
  | 1 => adr3 [98] 10 14
  | _ => adr3 [97] 10 10
def exD : List En := [([99], (5000, 10)), ([98], (10, 14)), ([97], (10, 10))]
theorem ex_code : ∀ j, j < 3 → codeN ex3 j = 0 := by
  have h0 : codeM (putMN (fun j => DA (ex3 j)) 0) (DA (ex3 0)) = 0 := by kernel_rfl
  have h1 : codeM (putMN (fun j => DA (ex3 j)) 1) (DA (ex3 1)) = 0 := by kernel_rfl
  have h2 : codeM (putMN (fun j => DA (ex3 j)) 2) (DA (ex3 2)) = 0 := by kernel_rfl
  intro j hj
  rw [codeN_M]
  match j, hj with
  | 0, _ => exact h0
  | 1, _ => exact h1
  | 2, _ => exact h2
theorem ex_D : DG (putN ex3 3) = exD := by
  rw [putN_M]
  kernel_rfl
theorem ex_len : ∀ i, i < 3 → ((ex3 i).door.length : Int) ≤ 9223372036854775807 := by
  intro i hi
  match i, hi with
  | 0, _ => decide
  | 1, _ => decide
  | 2, _ => decide
theorem ex_dlen : (putN ex3 3).d.length ≤ 20000 := by
  rw [← DG_len, ex_D]
  decide
theorem nm_of {D : List En} {p : Int × Int} {most : Int} {y : List Fnd × Int × Int} (r : Nat) (hv : onB p = true ∧ 1 ≤ most ∧ most ≤ 8) (hr : r ≤ 31) (h1 : ∀ r' : Nat, r' < r → ¬ stopL (allS D p) p most r') (h2 : stopL (allS D p) p most r) (hy : y = ((allS D p).take most.toNat, cellsN p r, 0)) : NM D p most y := by
  unfold NM
  rw [if_pos hv]
  exact ⟨r, hr, h1, h2, hy⟩
theorem ex_S : allS exD (10, 11) = [([97], 1), ([98], 9), ([99], 24900101)] := by kernel_rfl
theorem ex_2 : NM exD (10, 11) 2 ([([97], 1), ([98], 9)], 1, 0) := by
  refine nm_of 0 (by decide) (by decide) (fun r' h => absurd h (Nat.not_lt_zero r')) ?_ ?_
  · rw [ex_S]; decide
  · rw [ex_S]; decide
theorem ex_3 : NM exD (10, 11) 3 ([([97], 1), ([98], 9), ([99], 24900101)], 36, 0) := by
  refine nm_of 5 (by decide) (by decide) ?_ ?_ ?_
  · rw [ex_S]
    intro r' h
    match r', h with
    | 0, _ => decide
    | 1, _ => decide
    | 2, _ => decide
    | 3, _ => decide
    | 4, _ => decide
  · rw [ex_S]; decide
  · rw [ex_S]; decide
theorem ex_9 : NM exD (10, 11) 9 ([], 0, 1) := by
  unfold NM
  rw [if_neg (by decide)]
theorem ex_put : putG (putN ex3 3) (adr3 [97] 1 1) = (8, putN ex3 3) := by
  have h := put_M (putN_ok ex3 3) (adr3 [97] 1 1)
  rw [ex_D] at h
  have h1 : codeM exD (DA (adr3 [97] 1 1)) = 8 := by kernel_rfl
  have h2 : (putG (putN ex3 3) (adr3 [97] 1 1)).1 = 8 := h.1.trans h1
  refine Prod.ext h2 ?_
  revert h2
  unfold putG
  split
  · split
    · intro _; rfl
    · split
      · intro h; cases h
      · intro h; cases h
  · intro h; cases h
theorem ex_drop1 : dropG (putN ex3 3) [100] = (10, putN ex3 3) := by
  have h := drop_M (putN_ok ex3 3) [100]
  rw [ex_D] at h
  have h1 : codeD exD [100] = 10 := by kernel_rfl
  have h2 : (dropG (putN ex3 3) [100]).1 = 10 := h.1.trans h1
  refine Prod.ext h2 ?_
  revert h2
  unfold dropG
  split
  · intro _; rfl
  · intro h; cases h
theorem ex_drop2 : (dropG (putN ex3 3) [97]).1 = 0 := by
  have h := drop_M (putN_ok ex3 3) [97]
  rw [ex_D] at h
  exact h.1.trans (by kernel_rfl)
theorem two_le : ((2 : Nat) : Int) ≤ 9223372036854775806 := by decide
theorem three_le : ((3 : Nat) : Int) ≤ 9223372036854775806 := by decide
theorem to_val {α : Type} {a b : α} {Q : α → Prop} (e : a = b) (h : Q b) : ∀ y, y = a → Q y := by
  rintro y rfl
  rw [e]
  exact h
theorem one_le : (([97] : List UInt8).length : Int) ≤ 9223372036854775807 := by decide
def headS : Eng.Spec where
  X := Unit
  args := fun _ => .nil
  pre := fun _ => True
  res := fun _ => .bool true
  inst := fun
    | .nil => some ()
    | _ => none
/-- gazetteer/gazetteerlaw39.head -/
def g8 : List Nat := [2, 23, 5, 4, 3, 8, 7, 6, 12, 13, 11, 1, 0]
def c8 : SCode :=
  .seq (.region g8 [⟨some 0, none, .move (.c (.bool false)), []⟩]) (.seq (.region g8 [⟨some 15, none, .call (.c (.fn 23)) [.c (.str [99]), .c (.int .i64 5000), .c (.int .i64 10)], []⟩, ⟨some 16, none, .call (.c (.fn 23)) [.c (.str [98]), .c (.int .i64 10), .c (.int .i64 14)], []⟩, ⟨some 17, none, .call (.c (.fn 23)) [.c (.str [97]), .c (.int .i64 10), .c (.int .i64 10)], []⟩, ⟨some 18, none, .buildSl 40 11 3 (.cons (.str []) (.cons (.str []) (.cons (.str []) (.cons (.str []) (.cons (.str []) (.cons (.int .i64 0) (.cons (.str []) (.cons (.int .i64 0) (.cons (.int .i64 0) (.cons (.int .i64 0) (.cons (.int .i64 0) .nil))))))))))) [(0, 11, .s 15), (11, 11, .s 16), (22, 11, .s 17)], []⟩, ⟨some 19, none, .call (.c (.fn 10)) [.s 18], []⟩, ⟨some 14, none, .move (.s 19), []⟩, ⟨some 20, none, .extract 0 (.s 14), []⟩, ⟨some 21, none, .extract 1 (.s 14), []⟩, ⟨some 1, none, .move (.s 20), []⟩, ⟨some 2, none, .move (.s 21), []⟩]) (.seq (.seq (.region g8 [⟨some 22, none, .move (.s 2), []⟩, ⟨some 23, none, .bin (.neq) (.s 22) (.c (.int .i64 0)), []⟩]) (.cond (.s 23) (.seq (.region g8 [⟨some 0, none, .move (.c (.bool false)), []⟩]) .ret) .skip)) (.seq (.region g8 [⟨some 25, none, .move (.s 1), []⟩, ⟨some 26, none, .build (.cons (.int .i64 0) (.cons (.int .i64 0) .nil)) [(0, 1, .c (.int .i64 10)), (1, 1, .c (.int .i64 11))], []⟩, ⟨some 27, none, .call (.c (.fn 16)) [.s 25, .s 26, .c (.int .i64 2)], []⟩, ⟨some 24, none, .move (.s 27), []⟩, ⟨some 28, none, .extract 0 (.s 24), []⟩, ⟨some 29, none, .extract 1 (.s 24), []⟩, ⟨some 30, none, .extract 2 (.s 24), []⟩, ⟨some 3, none, .move (.s 28), []⟩, ⟨some 4, none, .move (.s 29), []⟩, ⟨some 5, none, .move (.s 30), []⟩]) (.seq (.region g8 [⟨some 32, none, .move (.s 1), []⟩, ⟨some 33, none, .build (.cons (.int .i64 0) (.cons (.int .i64 0) .nil)) [(0, 1, .c (.int .i64 10)), (1, 1, .c (.int .i64 11))], []⟩, ⟨some 34, none, .call (.c (.fn 16)) [.s 32, .s 33, .c (.int .i64 3)], []⟩, ⟨some 31, none, .move (.s 34), []⟩, ⟨some 35, none, .extract 0 (.s 31), []⟩, ⟨some 36, none, .extract 1 (.s 31), []⟩, ⟨some 37, none, .extract 2 (.s 31), []⟩, ⟨some 6, none, .move (.s 35), []⟩, ⟨some 7, none, .move (.s 36), []⟩, ⟨some 8, none, .move (.s 37), []⟩]) (.seq (.region g8 [⟨some 39, none, .move (.s 1), []⟩, ⟨some 40, none, .build (.cons (.int .i64 0) (.cons (.int .i64 0) .nil)) [(0, 1, .c (.int .i64 10)), (1, 1, .c (.int .i64 11))], []⟩, ⟨some 41, none, .call (.c (.fn 16)) [.s 39, .s 40, .c (.int .i64 9)], []⟩, ⟨some 38, none, .move (.s 41), []⟩, ⟨some 42, none, .extract 0 (.s 38), []⟩, ⟨some 43, none, .extract 1 (.s 38), []⟩, ⟨some 44, none, .extract 2 (.s 38), []⟩, ⟨some 9, none, .move (.s 42), []⟩, ⟨some 10, none, .move (.s 43), []⟩, ⟨some 11, none, .move (.s 44), []⟩]) (.seq (.region g8 [⟨some 45, none, .move (.s 5), []⟩, ⟨some 46, none, .bin (.eql) (.s 45) (.c (.int .i64 0)), []⟩, ⟨some 47, none, .move (.s 46), []⟩, ⟨some 48, some (47, true), .move (.s 4), []⟩, ⟨some 49, some (47, true), .bin (.eql) (.s 48) (.c (.int .i64 1)), []⟩, ⟨some 50, none, .pick (.s 47) (.s 49) (.c (.bool false)), []⟩, ⟨some 51, none, .move (.s 50), []⟩, ⟨some 52, some (51, true), .move (.s 3), []⟩, ⟨some 53, some (51, true), .build (.cons (.str []) (.cons (.int .i64 0) .nil)) [(0, 1, .c (.str [97])), (1, 1, .c (.int .i64 1))], []⟩, ⟨some 54, some (51, true), .build (.cons (.str []) (.cons (.int .i64 0) .nil)) [(0, 1, .c (.str [98])), (1, 1, .c (.int .i64 9))], []⟩, ⟨some 55, some (51, true), .buildSl 50 2 2 (.cons (.str []) (.cons (.int .i64 0) .nil)) [(0, 2, .s 53), (2, 2, .s 54)], []⟩, ⟨some 56, some (51, true), .call (.c (.fn 18)) [.s 52, .s 55], []⟩, ⟨some 57, none, .pick (.s 51) (.s 56) (.c (.bool false)), []⟩, ⟨some 12, none, .move (.s 57), []⟩]) (.seq (.region g8 [⟨some 58, none, .move (.s 8), []⟩, ⟨some 59, none, .bin (.eql) (.s 58) (.c (.int .i64 0)), []⟩, ⟨some 60, none, .move (.s 59), []⟩, ⟨some 61, some (60, true), .move (.s 7), []⟩, ⟨some 62, some (60, true), .bin (.eql) (.s 61) (.c (.int .i64 36)), []⟩, ⟨some 63, none, .pick (.s 60) (.s 62) (.c (.bool false)), []⟩, ⟨some 64, none, .move (.s 63), []⟩, ⟨some 65, some (64, true), .move (.s 6), []⟩, ⟨some 66, some (64, true), .build (.cons (.str []) (.cons (.int .i64 0) .nil)) [(0, 1, .c (.str [97])), (1, 1, .c (.int .i64 1))], []⟩, ⟨some 67, some (64, true), .build (.cons (.str []) (.cons (.int .i64 0) .nil)) [(0, 1, .c (.str [98])), (1, 1, .c (.int .i64 9))], []⟩, ⟨some 68, some (64, true), .build (.cons (.str []) (.cons (.int .i64 0) .nil)) [(0, 1, .c (.str [99])), (1, 1, .c (.int .i64 24900101))], []⟩, ⟨some 69, some (64, true), .buildSl 50 2 3 (.cons (.str []) (.cons (.int .i64 0) .nil)) [(0, 2, .s 66), (2, 2, .s 67), (4, 2, .s 68)], []⟩, ⟨some 70, some (64, true), .call (.c (.fn 18)) [.s 65, .s 69], []⟩, ⟨some 71, none, .pick (.s 64) (.s 70) (.c (.bool false)), []⟩, ⟨some 13, none, .move (.s 71), []⟩]) (.seq (.region g8 [⟨some 72, none, .move (.s 12), []⟩, ⟨some 73, none, .move (.s 72), []⟩, ⟨some 74, some (73, true), .move (.s 13), []⟩, ⟨some 75, none, .pick (.s 73) (.s 74) (.c (.bool false)), []⟩, ⟨some 76, none, .move (.s 75), []⟩, ⟨some 77, some (76, true), .move (.s 11), []⟩, ⟨some 78, some (76, true), .bin (.eql) (.s 77) (.c (.int .i64 1)), []⟩, ⟨some 79, none, .pick (.s 76) (.s 78) (.c (.bool false)), []⟩, ⟨some 80, none, .move (.s 79), []⟩, ⟨some 81, some (80, true), .move (.s 1), []⟩, ⟨some 82, some (80, true), .call (.c (.fn 23)) [.c (.str [97]), .c (.int .i64 1), .c (.int .i64 1)], []⟩, ⟨some 83, some (80, true), .call (.c (.fn 12)) [.s 81, .s 82], []⟩, ⟨some 84, some (80, true), .bin (.eql) (.s 83) (.c (.int .i64 8)), []⟩, ⟨some 85, none, .pick (.s 80) (.s 84) (.c (.bool false)), []⟩, ⟨some 86, none, .move (.s 85), []⟩, ⟨some 87, some (86, true), .move (.s 1), []⟩, ⟨some 88, some (86, true), .call (.c (.fn 14)) [.s 87, .c (.str [100])], []⟩, ⟨some 89, some (86, true), .bin (.eql) (.s 88) (.c (.int .i64 10)), []⟩, ⟨some 90, none, .pick (.s 86) (.s 89) (.c (.bool false)), []⟩, ⟨some 91, none, .move (.s 90), []⟩, ⟨some 92, some (91, true), .move (.s 1), []⟩, ⟨some 93, some (91, true), .call (.c (.fn 14)) [.s 92, .c (.str [97])], []⟩, ⟨some 94, some (91, true), .bin (.eql) (.s 93) (.c (.int .i64 0)), []⟩, ⟨some 95, none, .pick (.s 91) (.s 94) (.c (.bool false)), []⟩, ⟨some 0, none, .move (.s 95), []⟩]) .ret))))))))
def r8 : List SRes := [.slot 0]
def k8 : List (Nat × Nat × SCode × Nat) := []
theorem e8 : cFunc Try.prog 8 g8 [] [] k8 = some (c8, r8, 96) := by kernel_rfl
theorem q8 : RgOk Try.prog k8 := RgOk.nil

set_option maxHeartbeats 4000000 in
theorem head_ok : headS.Ok Try.prog 8 := by
  refine Eng.Spec.ok_of e8 q8 (fun _ => [(23, .p at_), (10, .m New), (16, .m Near), (18, .p Same), (12, .m Put), (14, .m Drop)]) (fun _ _ => TabOk.p at_ok (TabOk.m New_ok (TabOk.m Near_ok (TabOk.p Same_ok (TabOk.m Put_ok (TabOk.m Drop_ok TabOk.nil)))))) ?_
  rintro ⟨⟩ _
  refine ⟨trivial, ?_⟩
  repeat' (first | refine And.intro ?_ ?_ | exact trivial | exact rfl)
  refine Exists.intro (Adrs.mk 3 ex3) (Exists.intro [] ?_)
  repeat' (first | refine And.intro ?_ ?_ | exact trivial | exact rfl | omega | (dsimp only; omega) | exact ex_len)
  refine new_ok ex_code ?_
  repeat' (first | refine And.intro ?_ ?_ | exact trivial | exact rfl | (refine fun (h : false = true) => absurd h (by decide)) | (refine fun (_ : false = false) => ?_) | (refine fun (_ : true = true) => ?_) | (refine fun (h : true = false) => absurd h (by decide)))
  refine Exists.intro (putN ex3 3, (10, 11), 2) (Exists.intro [0, 1, 2, 3] ?_)
  repeat' (first | refine And.intro ?_ ?_ | exact trivial | exact rfl | exact same_ent (p := sub _ _ 20) (sub_pt _ _) | (refine same_ent (p := sub _ _ 20) ?_; exact fun v => And.intro rfl rfl) | exact fun (i : Nat) => same_in _ _ _ | exact fun (i : Nat) => same_rn _ _ _ _ _ | exact putN_ok ex3 3 | exact ex_dlen)
  refine near_all (putN_ok ex3 3) ex_D ex_2 ?_
  repeat' (first | refine And.intro ?_ ?_ | exact trivial | exact rfl | (refine fun (h : false = true) => absurd h (by decide)) | (refine fun (_ : false = false) => ?_) | (refine fun (_ : true = true) => ?_) | (refine fun (h : true = false) => absurd h (by decide)))
  refine Exists.intro (putN ex3 3, (10, 11), 3) (Exists.intro [0, 1, 2, 3] ?_)
  repeat' (first | refine And.intro ?_ ?_ | exact trivial | exact rfl | exact same_ent (p := sub _ _ 20) (sub_pt _ _) | (refine same_ent (p := sub _ _ 20) ?_; exact fun v => And.intro rfl rfl) | exact fun (i : Nat) => same_in _ _ _ | exact fun (i : Nat) => same_rn _ _ _ _ _ | exact putN_ok ex3 3 | exact ex_dlen)
  refine near_all (putN_ok ex3 3) ex_D ex_3 ?_
  repeat' (first | refine And.intro ?_ ?_ | exact trivial | exact rfl | (refine fun (h : false = true) => absurd h (by decide)) | (refine fun (_ : false = false) => ?_) | (refine fun (_ : true = true) => ?_) | (refine fun (h : true = false) => absurd h (by decide)))
  refine Exists.intro (putN ex3 3, (10, 11), 9) (Exists.intro [0, 1, 2, 3] ?_)
  repeat' (first | refine And.intro ?_ ?_ | exact trivial | exact rfl | exact same_ent (p := sub _ _ 20) (sub_pt _ _) | (refine same_ent (p := sub _ _ 20) ?_; exact fun v => And.intro rfl rfl) | exact fun (i : Nat) => same_in _ _ _ | exact fun (i : Nat) => same_rn _ _ _ _ _ | exact putN_ok ex3 3 | exact ex_dlen)
  refine near_all (putN_ok ex3 3) ex_D ex_9 ?_
  repeat' (first | refine And.intro ?_ ?_ | exact trivial | exact rfl | (refine fun (h : false = true) => absurd h (by decide)) | (refine fun (_ : false = false) => ?_) | (refine fun (_ : true = true) => ?_) | (refine fun (h : true = false) => absurd h (by decide)) | exact two_le | exact three_le | refine fun (i : Nat) (_ : i < _) => ?_)
  refine Exists.intro (putN ex3 3, adr3 [97] 1 1) (Exists.intro [0, 1, 2, 3] ?_)
  repeat' (first | refine And.intro ?_ ?_ | exact trivial | exact rfl | exact same_ent (p := sub _ _ 20) (sub_pt _ _) | (refine same_ent (p := sub _ _ 20) ?_; exact fun v => And.intro rfl rfl) | exact fun (i : Nat) => same_in _ _ _ | exact fun (i : Nat) => same_rn _ _ _ _ _ | exact putN_ok ex3 3 | exact one_le)
  refine to_val ex_put ?_
  repeat' (first | refine And.intro ?_ ?_ | exact trivial | exact rfl | (refine fun (h : false = true) => absurd h (by decide)) | (refine fun (_ : false = false) => ?_) | (refine fun (_ : true = true) => ?_) | (refine fun (h : true = false) => absurd h (by decide)))
  refine Exists.intro (putN ex3 3, [100]) (Exists.intro [0, 1, 2, 3] ?_)
  repeat' (first | refine And.intro ?_ ?_ | exact trivial | exact rfl | exact same_ent (p := sub _ _ 20) (sub_pt _ _) | (refine same_ent (p := sub _ _ 20) ?_; exact fun v => And.intro rfl rfl) | exact fun (i : Nat) => same_in _ _ _ | exact fun (i : Nat) => same_rn _ _ _ _ _ | exact putN_ok ex3 3)
  refine to_val ex_drop1 ?_
  repeat' (first | refine And.intro ?_ ?_ | exact trivial | exact rfl | (refine fun (h : false = true) => absurd h (by decide)) | (refine fun (_ : false = false) => ?_) | (refine fun (_ : true = true) => ?_) | (refine fun (h : true = false) => absurd h (by decide)))
  refine Exists.intro (putN ex3 3, [97]) (Exists.intro [0, 1, 2, 3] ?_)
  repeat' (first | refine And.intro ?_ ?_ | exact trivial | exact rfl | exact same_ent (p := sub _ _ 20) (sub_pt _ _) | (refine same_ent (p := sub _ _ 20) ?_; exact fun v => And.intro rfl rfl) | exact fun (i : Nat) => same_in _ _ _ | exact fun (i : Nat) => same_rn _ _ _ _ _ | exact putN_ok ex3 3)
  refine to_val (Prod.ext ex_drop2 rfl : dropG (putN ex3 3) [97] = (0, (dropG (putN ex3 3) [97]).2)) ?_
  repeat' (first | refine And.intro ?_ ?_ | exact trivial | exact rfl | (refine fun (h : false = true) => absurd h (by decide)) | (refine fun (_ : false = false) => ?_) | (refine fun (_ : true = true) => ?_) | (refine fun (h : true = false) => absurd h (by decide)))
end R17
