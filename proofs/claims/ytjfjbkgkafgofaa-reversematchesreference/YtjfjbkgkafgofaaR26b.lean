/- A part of the proof: see the last text. -/
import Derived.Test.YtjfjbkgkafgofaaR25
open Go Go.Eng Go.Proofs R2 R3 R4 R1 R5 R6 R7 R8 R9 R10 R10b R11 R12 R13 R14 R15 R16 R17 R18 R19 R24 R25
set_option maxRecDepth 100000
namespace R26
/-- gazetteer/gazetteerlaw39.ReverseMatchesReference -/
def g3h : List Nat := [41, 0, 15, 13, 62, 78, 1, 2, 120, 124, 12, 14, 3, 4, 17, 20, 18, 21, 19, 22, 160, 16, 11, 10]
def c3h : SCode :=
  .seq (.region g3h [⟨some 10, none, .move (.c (.bool false)), []⟩]) (.seq (.region g3h [⟨some 23, none, .call (.c (.fn 8)) [], []⟩, ⟨some 11, none, .move (.s 23), []⟩]) (.seq (.seq (.region g3h [⟨some 24, none, .move (.s 0), []⟩, ⟨some 25, none, .call (.c (.fn 9)) [.s 24], []⟩, ⟨some 26, none, .not (.s 25), []⟩, ⟨some 27, none, .move (.s 26), []⟩, ⟨some 28, some (27, false), .move (.s 1), []⟩, ⟨some 29, some (27, false), .call (.c (.fn 9)) [.s 28], []⟩, ⟨some 30, some (27, false), .not (.s 29), []⟩, ⟨some 31, none, .pick (.s 27) (.c (.bool true)) (.s 30), []⟩, ⟨some 32, none, .move (.s 31), []⟩, ⟨some 33, some (32, false), .move (.s 2), []⟩, ⟨some 34, some (32, false), .lenSl (.s 33), []⟩, ⟨some 35, some (32, false), .bin (.gtr) (.s 34) (.c (.int .i64 30)), []⟩, ⟨some 36, none, .pick (.s 32) (.c (.bool true)) (.s 35), []⟩, ⟨some 37, none, .move (.s 36), []⟩, ⟨some 38, some (37, false), .move (.s 3), []⟩, ⟨some 39, some (37, false), .lenSl (.s 38), []⟩, ⟨some 40, some (37, false), .bin (.gtr) (.s 39) (.c (.int .i64 30)), []⟩, ⟨some 41, none, .pick (.s 37) (.c (.bool true)) (.s 40), []⟩]) (.cond (.s 41) (.seq (.region g3h [⟨some 42, none, .move (.s 11), []⟩, ⟨some 10, none, .move (.s 42), []⟩]) .ret) .skip)) (.seq (.region g3h [⟨some 44, none, .move (.s 0), []⟩, ⟨some 45, none, .call (.c (.fn 10)) [.s 44], []⟩, ⟨some 43, none, .move (.s 45), []⟩, ⟨some 46, none, .extract 0 (.s 43), []⟩, ⟨some 47, none, .extract 1 (.s 43), []⟩, ⟨some 12, none, .move (.s 46), []⟩, ⟨some 13, none, .move (.s 47), []⟩]) (.seq (.region g3h [⟨some 49, none, .move (.s 0), []⟩, ⟨some 50, none, .call (.c (.fn 11)) [.s 49], []⟩, ⟨some 48, none, .move (.s 50), []⟩, ⟨some 51, none, .extract 0 (.s 48), []⟩, ⟨some 52, none, .extract 1 (.s 48), []⟩, ⟨some 14, none, .move (.s 51), []⟩, ⟨some 15, none, .move (.s 52), []⟩]) (.seq (.seq (.region g3h [⟨some 53, none, .move (.s 13), []⟩, ⟨some 54, none, .move (.s 15), []⟩, ⟨some 55, none, .bin (.neq) (.s 53) (.s 54), []⟩, ⟨some 56, none, .move (.s 55), []⟩, ⟨some 57, some (56, false), .move (.s 12), []⟩, ⟨some 58, some (56, false), .ptrEq false (.s 57) (.c (.nilptr)), []⟩, ⟨some 59, some (56, false), .move (.s 13), []⟩, ⟨some 60, some (56, false), .bin (.neq) (.s 59) (.c (.int .i64 0)), []⟩, ⟨some 61, some (56, false), .eqB true (.s 58) (.s 60), []⟩, ⟨some 62, none, .pick (.s 56) (.c (.bool true)) (.s 61), []⟩]) (.cond (.s 62) (.seq (.region g3h [⟨some 10, none, .move (.c (.bool false)), []⟩]) .ret) .skip)) (.seq (.seq (.region g3h [⟨some 16, none, .move (.c (.int .i64 0)), []⟩]) (.block 0 (.loop 0 [63, 64, 65, 66, 67, 68, 69, 70, 71, 72, 73, 74, 75, 76, 77, 78, 81, 82, 83, 84, 85, 86, 87, 88, 89, 90, 91, 92, 93, 94, 95, 96, 97, 98, 99, 100, 101, 102, 103, 104, 105, 106, 107, 108, 109, 110, 111, 112, 113, 114, 115, 116, 117, 118, 119, 120, 121, 122, 123, 124, 126, 127, 128, 129, 130, 131, 132, 125, 133, 134, 135, 17, 18, 19, 137, 138, 139, 140, 141, 142, 143, 136, 144, 145, 146, 20, 21, 22, 147, 148, 149, 150, 151, 152, 153, 154, 155, 156, 157, 158, 159, 160, 10, 79, 80, 16] (.seq (.seq (.region g3h [⟨some 63, none, .move (.s 16), []⟩, ⟨some 64, none, .move (.s 1), []⟩, ⟨some 65, none, .lenSl (.s 64), []⟩, ⟨some 66, none, .bin (.lss) (.s 63) (.s 65), []⟩, ⟨some 67, none, .move (.s 66), []⟩, ⟨some 68, some (67, false), .move (.s 16), []⟩, ⟨some 69, some (67, false), .move (.s 2), []⟩, ⟨some 70, some (67, false), .lenSl (.s 69), []⟩, ⟨some 71, some (67, false), .bin (.lss) (.s 68) (.s 70), []⟩, ⟨some 72, none, .pick (.s 67) (.c (.bool true)) (.s 71), []⟩, ⟨some 73, none, .move (.s 72), []⟩, ⟨some 74, some (73, false), .move (.s 16), []⟩, ⟨some 75, some (73, false), .move (.s 3), []⟩, ⟨some 76, some (73, false), .lenSl (.s 75), []⟩, ⟨some 77, some (73, false), .bin (.lss) (.s 74) (.s 76), []⟩, ⟨some 78, none, .pick (.s 73) (.c (.bool true)) (.s 77), []⟩]) (.cond (.s 78) .skip (.exit 0))) (.seq (.block 1 (.seq (.seq (.drawn g3h (.pure 0 ⟨some 81, none, .move (.s 16), []⟩ (.pure 1 ⟨some 82, none, .move (.s 1), []⟩ (.pure 2 ⟨some 83, none, .lenSl (.s 82), []⟩ (.pure 3 ⟨some 84, none, .bin (.lss) (.s 81) (.s 83), []⟩ (.pure 4 ⟨some 85, none, .move (.s 84), []⟩ (.pure 5 ⟨some 86, some (85, true), .move (.s 12), []⟩ (.pure 6 ⟨some 87, some (85, true), .move (.s 1), []⟩ (.pure 7 ⟨some 88, some (85, true), .move (.s 16), []⟩ (.pure 8 ⟨some 89, some (85, true), .idxSl 11 (.s 87) (.s 88), []⟩ (.pure 9 ⟨some 90, some (85, true), .load 11 true (.s 89), []⟩ (.pure 11 ⟨some 92, some (85, true), .move (.s 14), []⟩ (.pure 12 ⟨some 93, some (85, true), .move (.s 1), []⟩ (.pure 13 ⟨some 94, some (85, true), .move (.s 16), []⟩ (.pure 14 ⟨some 95, some (85, true), .idxSl 11 (.s 93) (.s 94), []⟩ (.pure 15 ⟨some 96, some (85, true), .load 11 true (.s 95), []⟩ (.eff 10 ⟨some 91, some (85, true), .call (.c (.fn 12)) [.s 86, .s 90], []⟩ [⟨some 96, some (85, true), .load 11 true (.s 95), []⟩] (.eff 16 ⟨some 97, some (85, true), .call (.c (.fn 13)) [.s 92, .s 96], []⟩ [] (.pure 17 ⟨some 98, some (85, true), .bin (.neq) (.s 91) (.s 97), []⟩ (.pure 18 ⟨some 99, none, .pick (.s 85) (.s 98) (.c (.bool false)), []⟩ (.pure 19 ⟨some 100, none, .move (.s 99), []⟩ (.pure 20 ⟨some 101, some (100, false), .move (.s 16), []⟩ (.pure 21 ⟨some 102, some (100, false), .move (.s 2), []⟩ (.pure 22 ⟨some 103, some (100, false), .lenSl (.s 102), []⟩ (.pure 23 ⟨some 104, some (100, false), .bin (.lss) (.s 101) (.s 103), []⟩ (.pure 24 ⟨some 105, some (100, false), .move (.s 104), []⟩ (.pure 25 ⟨some 106, some (105, true), .move (.s 12), []⟩ (.pure 26 ⟨some 107, some (105, true), .move (.s 2), []⟩ (.pure 27 ⟨some 108, some (105, true), .move (.s 16), []⟩ (.pure 28 ⟨some 109, some (105, true), .idxSl 1 (.s 107) (.s 108), []⟩ (.pure 29 ⟨some 110, some (105, true), .load 1 false (.s 109), []⟩ (.pure 31 ⟨some 112, some (105, true), .move (.s 14), []⟩ (.pure 32 ⟨some 113, some (105, true), .move (.s 2), []⟩ (.pure 33 ⟨some 114, some (105, true), .move (.s 16), []⟩ (.pure 34 ⟨some 115, some (105, true), .idxSl 1 (.s 113) (.s 114), []⟩ (.pure 35 ⟨some 116, some (105, true), .load 1 false (.s 115), []⟩ (.eff 30 ⟨some 111, some (105, true), .call (.c (.fn 14)) [.s 106, .s 110], []⟩ [⟨some 116, some (105, true), .load 1 false (.s 115), []⟩] (.eff 36 ⟨some 117, some (105, true), .call (.c (.fn 15)) [.s 112, .s 116], []⟩ [] (.pure 37 ⟨some 118, some (105, true), .bin (.neq) (.s 111) (.s 117), []⟩ (.pure 38 ⟨some 119, some (100, false), .pick (.s 105) (.s 118) (.c (.bool false)), []⟩ (.pure 39 ⟨some 120, none, .pick (.s 100) (.c (.bool true)) (.s 119), []⟩ .done))) .none) .none))))))))))))))))))) .none) .none))))))))))))))))) (.cond (.s 120) (.seq (.region g3h [⟨some 10, none, .move (.c (.bool false)), []⟩]) .ret) .skip)) (.seq (.region g3h [⟨some 121, none, .move (.s 16), []⟩, ⟨some 122, none, .move (.s 3), []⟩, ⟨some 123, none, .lenSl (.s 122), []⟩, ⟨some 124, none, .bin (.lss) (.s 121) (.s 123), []⟩]) (.cond (.s 124) (.seq (.region g3h [⟨some 126, none, .move (.s 12), []⟩, ⟨some 127, none, .move (.s 3), []⟩, ⟨some 128, none, .move (.s 16), []⟩, ⟨some 129, none, .idxSl 2 (.s 127) (.s 128), []⟩, ⟨some 130, none, .load 2 true (.s 129), []⟩, ⟨some 131, none, .move (.s 4), []⟩, ⟨some 132, none, .call (.c (.fn 16)) [.s 126, .s 130, .s 131], []⟩, ⟨some 125, none, .move (.s 132), []⟩, ⟨some 133, none, .extract 0 (.s 125), []⟩, ⟨some 134, none, .extract 1 (.s 125), []⟩, ⟨some 135, none, .extract 2 (.s 125), []⟩, ⟨some 17, none, .move (.s 133), []⟩, ⟨some 18, none, .move (.s 134), []⟩, ⟨some 19, none, .move (.s 135), []⟩]) (.seq (.region g3h [⟨some 137, none, .move (.s 14), []⟩, ⟨some 138, none, .move (.s 3), []⟩, ⟨some 139, none, .move (.s 16), []⟩, ⟨some 140, none, .idxSl 2 (.s 138) (.s 139), []⟩, ⟨some 141, none, .load 2 true (.s 140), []⟩, ⟨some 142, none, .move (.s 4), []⟩, ⟨some 143, none, .call (.c (.fn 17)) [.s 137, .s 141, .s 142], []⟩, ⟨some 136, none, .move (.s 143), []⟩, ⟨some 144, none, .extract 0 (.s 136), []⟩, ⟨some 145, none, .extract 1 (.s 136), []⟩, ⟨some 146, none, .extract 2 (.s 136), []⟩, ⟨some 20, none, .move (.s 144), []⟩, ⟨some 21, none, .move (.s 145), []⟩, ⟨some 22, none, .move (.s 146), []⟩]) (.seq (.region g3h [⟨some 147, none, .move (.s 17), []⟩, ⟨some 148, none, .move (.s 20), []⟩, ⟨some 149, none, .call (.c (.fn 18)) [.s 147, .s 148], []⟩, ⟨some 150, none, .not (.s 149), []⟩, ⟨some 151, none, .move (.s 150), []⟩, ⟨some 152, some (151, false), .move (.s 18), []⟩, ⟨some 153, some (151, false), .move (.s 21), []⟩, ⟨some 154, some (151, false), .bin (.neq) (.s 152) (.s 153), []⟩, ⟨some 155, none, .pick (.s 151) (.c (.bool true)) (.s 154), []⟩, ⟨some 156, none, .move (.s 155), []⟩, ⟨some 157, some (156, false), .move (.s 19), []⟩, ⟨some 158, some (156, false), .move (.s 22), []⟩, ⟨some 159, some (156, false), .bin (.neq) (.s 157) (.s 158), []⟩, ⟨some 160, none, .pick (.s 156) (.c (.bool true)) (.s 159), []⟩]) (.cond (.s 160) (.seq (.region g3h [⟨some 10, none, .move (.c (.bool false)), []⟩]) .ret) .skip)))) .skip)))) (.region g3h [⟨some 79, none, .move (.s 16), []⟩, ⟨some 80, none, .bin (.add) (.s 79) (.c (.int .i64 1)), []⟩, ⟨some 16, none, .move (.s 80), []⟩])))))) (.seq (.region g3h [⟨some 161, none, .move (.s 11), []⟩, ⟨some 10, none, .move (.s 161), []⟩]) .ret)))))))
def r3h : List SRes := [.slot 10]
def k3h : List (Nat × Nat × SCode × Nat) := []
theorem e3h : cFunc Try.prog 3 g3h [] [91, 97, 111, 117] k3h = some (c3h, r3h, 162) := by kernel_rfl
theorem q3h : RgOk Try.prog k3h := RgOk.nil
theorem tab3_good {x : X3} (h : ∀ j, j < x.l.n → codeN x.l.a j = 0) : tab3 x = [(8, .p headS), (10, .m New), (11, .m RNew), (9, .p Few), (18, .p Same), (12, .m Put), (13, .m RPut), (14, .m Drop), (15, .m RDrop), (16, .m Near), (17, .m RNear)] := by
  unfold tab3
  rw [if_pos h]
  rfl
theorem sub_str (k : Keep) (hp : List (Nat × HObj)) (n : Nat) (s : List UInt8) : sub k hp (n + 3) (RC.strL s) (RC.strL s) := ⟨rfl, trivial⟩
theorem sub_ptl (k : Keep) (hp : List (Nat × HObj)) (n : Nat) (p : Int × Int) : sub k hp (n + 3) (ptL p) (ptL p) := ⟨⟨rfl, rfl⟩, ⟨rfl, rfl⟩, trivial⟩
theorem loop3 {i a b c : Nat} {u v : Nat} (h : pickB (pickB (decide ((i : Int) < (a : Int))) (.c (.bool true)) (.s u) true (decide ((i : Int) < (b : Int)))) (.c (.bool true)) (.s v) true (decide ((i : Int) < (c : Int))) = true) (h1 : a ≤ 30) (h2 : b ≤ 30) (h3 : c ≤ 30) : i < 30 := by
  rw [pickB_or, pickB_or] at h
  simp only [Bool.or_eq_true, decide_eq_true_eq] at h
  omega
theorem few3 {a b : Bool} {m n : Nat} {i j k : Nat} (h : pickB (pickB (pickB (!a) (.c (.bool true)) (.s i) true (!b)) (.c (.bool true)) (.s j) true (decide (30 < (m : Int)))) (.c (.bool true)) (.s k) true (decide (30 < (n : Int))) = false) : a = true ∧ b = true ∧ m ≤ 30 ∧ n ≤ 30 := by
  rw [pickB_or, pickB_or, pickB_or] at h
  simp only [Bool.or_eq_false_iff, Bool.not_eq_false', decide_eq_false_iff_not] at h
  exact ⟨h.1.1.1, h.1.1.2, by omega, by omega⟩
theorem good_chk (i : Nat) : pickB (!decide ((0 : Int) = 0)) (.c (.bool true)) (.s i) true ((!false) == !decide ((0 : Int) = 0)) = true → False := by
  rw [pickB_or]
  exact fun h => absurd h (by decide)
structure XL where
  i : Nat
  g : G
  L : List Adr
structure IL3 (x : XL) : Prop where
  i : x.i ≤ 30
  g : GOk x.g
  D : DG x.g = x.L.map DA
  n : x.L.length ≤ 30 + x.i
theorem il3_0 {l : Adrs} (hall : ∀ j, j < l.n → codeN l.a j = 0) (hn : l.n ≤ 30) : IL3 ⟨0, putN l.a l.n, putLN l.a l.n⟩ := by
  have h1 : DG (putN l.a l.n) = (putLN l.a l.n).map DA := by rw [putN_M, putLN_M]
  refine ⟨Nat.zero_le _, putN_ok _ _, h1, ?_⟩
  have h2 := congrArg List.length h1
  rw [new_D hall, DX_len, List.length_map] at h2
  show (putLN l.a l.n).length ≤ 30 + 0
  omega
def heap3 (g : G) (L : List Adr) (k : Nat) : List (Nat × HObj) := [(1, .map (Int × Int) .s g.d g.dc ptE ptD), (2, .map Nat .a g.c g.cc cfE cfD), (3, .fam fun i => inO (g.f i)), (4, .cells 61 (.cons (.lsl k 11 L.length) .nil)), (k, .arr 40 11 L.length (adAt L))]
theorem ok_split {P : Program} {f : Nat} {S : Eng.Spec} {p : S.X → Prop} (h1 : Eng.Spec.Ok P f { S with pre := fun x => S.pre x ∧ p x }) (h2 : Eng.Spec.Ok P f { S with pre := fun x => S.pre x ∧ ¬ p x }) : S.Ok P f :=
  ⟨h1.call, fun x w vs U hU hp hr => by
    by_cases h : p x
    · exact h1.does x w vs U hU ⟨hp, h⟩ hr
    · exact h2.does x w vs U hU ⟨hp, h⟩ hr⟩
theorem idx_ok {i n : Nat} (h : decide ((i : Int) < (n : Int)) = true) : (0 : Int) ≤ (i : Int) ∧ (i : Int) < (n : Int) := ⟨by omega, of_decide_eq_true h⟩
theorem put0 {g : G} {L : List Adr} {a : Adr} {Q : Int × G → Prop} (hg : GOk g) (hD : DG g = L.map DA) (h0 : codeM (L.map DA) (DA a) = 0) (hQ : ∀ g' : G, GOk g' → DG g' = (L ++ [a]).map DA → Q (0, g')) : ∀ y, y = putG g a → Q y := by
  intro y hy
  have h := put_M hg a
  have hk := put_ok hg a
  rw [hD] at h
  rw [← hy] at h hk
  obtain ⟨c, g'⟩ := y
  have hc : c = codeM (L.map DA) (DA a) := h.1
  have hm : DG g' = putM (L.map DA) (DA a) := h.2
  rw [hc, h0]
  refine hQ g' hk ?_
  rw [hm, List.map_append]
  unfold putM
  rw [if_pos h0]
  rfl
theorem put1 {g : G} {L : List Adr} {a : Adr} {c : Int} {Q : Int × G → Prop} (hg : GOk g) (hD : DG g = L.map DA) (h0 : codeM (L.map DA) (DA a) = c) (hc0 : c ≠ 0) (hQ : ∀ g' : G, GOk g' → DG g' = L.map DA → Q (c, g')) : ∀ y, y = putG g a → Q y := by
  intro y hy
  have h := put_M hg a
  have hk := put_ok hg a
  rw [hD] at h
  rw [← hy] at h hk
  obtain ⟨c', g'⟩ := y
  have hc : c' = codeM (L.map DA) (DA a) := h.1
  have hm : DG g' = putM (L.map DA) (DA a) := h.2
  rw [hc, h0]
  refine hQ g' hk ?_
  rw [hm]
  unfold putM
  rw [if_neg (by rw [h0]; exact hc0)]
theorem rput0 {L : List Adr} {a : Adr} {Q : Int × List Adr × Nat → Prop} (h0 : codeM (L.map DA) (DA a) = 0) (hQ : Q (0, L ++ [a], 2)) : ∀ y : Int × List Adr × Nat, ((y.1, y.2.1) = R12.putL L a ∧ y.2.2 = if y.1 = 0 then 2 else 1) → Q y := by
  have h := putL_M L a
  rw [h0] at h
  have h1 : (R12.putL L a).2 = L ++ [a] := by
    have := h.1
    unfold R12.putL at this ⊢
    split
    · rename_i hv
      rw [if_pos hv] at this
      split
      · rename_i ht
        rw [if_pos ht] at this
        cases this
      · rename_i ht
        rw [if_neg ht] at this
        split
        · rename_i hl
          rw [if_pos hl] at this
          cases this
        · rfl
    · rename_i hv
      rw [if_neg hv] at this
      cases this
  refine putR_all (fun _ => by rw [h1]; exact hQ) (fun h2 _ => absurd h.1 h2)
theorem rput1 {L : List Adr} {a : Adr} {c : Int} {Q : Int × List Adr × Nat → Prop} (h0 : codeM (L.map DA) (DA a) = c) (hc0 : c ≠ 0) (hQ : Q (c, L, 1)) : ∀ y : Int × List Adr × Nat, ((y.1, y.2.1) = R12.putL L a ∧ y.2.2 = if y.1 = 0 then 2 else 1) → Q y := by
  have h := putL_M L a
  rw [h0] at h
  refine putR_all (fun h2 => absurd (h.1.symm.trans h2) hc0) (fun _ _ => by rw [h.1]; exact hQ)
theorem chkA0 {p : Bool} {i : Nat} : pickB p (.s i) (.c (.bool false)) (!decide ((0 : Int) = 0)) false = false := by
  rw [pickB_and]
  cases p <;> rfl
theorem chkA1 {p : Bool} {i : Nat} {c : Int} : pickB p (.s i) (.c (.bool false)) (!decide (c = c)) false = false := by
  rw [pickB_and, decide_eq_true rfl]
  cases p <;> rfl
theorem chkR {b x : Bool} {i : Nat} (hb : b = false) (hx : x = false) : pickB b (.c (.bool true)) (.s i) true x = false := by
  rw [pickB_or, hb, hx]
  rfl
theorem dropL0 {L : List Adr} {t : List UInt8} (h0 : codeD (L.map DA) t = 0) : R13.dropL L t = (0, (R13.dropL L t).2) := by rw [← h0, ← (dropL_M L t).1]
theorem dropL1 {L : List Adr} {t : List UInt8} (h0 : codeD (L.map DA) t ≠ 0) : R13.dropL L t = (10, L) := by
  refine R13.drop_no fun j hj e => h0 ?_
  unfold codeD
  rw [if_pos (there_mem.1 ⟨j, hj, e⟩)]
theorem code10 {D : List En} {t : List UInt8} (h0 : codeD D t ≠ 0) : codeD D t = 10 ∧ dropM D t = D := by
  unfold codeD at h0 ⊢
  split at h0
  · exact absurd rfl h0
  · rename_i hn
    refine ⟨if_neg hn, ?_⟩
    unfold dropM
    exact List.eraseP_of_forall_not fun e he => by
      rw [decide_eq_true_eq]
      exact fun h => hn (List.mem_map.2 ⟨e, he, h⟩)
theorem drop0 {g : G} {L : List Adr} {t : List UInt8} {Q : Int × G → Prop} (hg : GOk g) (hD : DG g = L.map DA) (h0 : codeD (L.map DA) t = 0) (hQ : ∀ g' : G, GOk g' → DG g' = (R13.dropL L t).2.map DA → Q (0, g')) : ∀ y, y = dropG g t → Q y := by
  intro y hy
  have h := drop_M hg t
  have hk := drop_ok hg t
  rw [hD] at h
  rw [← hy] at h hk
  obtain ⟨c, g'⟩ := y
  have hc : c = codeD (L.map DA) t := h.1
  have hm : DG g' = dropM (L.map DA) t := h.2
  rw [hc, h0]
  exact hQ g' hk (hm.trans (dropL_M L t).2.symm)
theorem drop1 {g : G} {L : List Adr} {t : List UInt8} {Q : Int × G → Prop} (hg : GOk g) (hD : DG g = L.map DA) (h0 : codeD (L.map DA) t ≠ 0) (hQ : ∀ g' : G, GOk g' → DG g' = L.map DA → Q (10, g')) : ∀ y, y = dropG g t → Q y := by
  intro y hy
  have h := drop_M hg t
  have hk := drop_ok hg t
  rw [hD, (code10 h0).1, (code10 h0).2] at h
  rw [← hy] at h hk
  obtain ⟨c, g'⟩ := y
  have hc : c = 10 := h.1
  rw [hc]
  exact hQ g' hk h.2
theorem rdrop0 {L : List Adr} {t : List UInt8} {Q : Int × List Adr × Nat → Prop} (h0 : codeD (L.map DA) t = 0) (hQ : Q (0, (R13.dropL L t).2, 3)) : ∀ y : Int × List Adr × Nat, ((y.1, y.2.1) = R13.dropL L t ∧ y.2.2 = if y.1 = 0 then 3 else 1) → Q y := by
  rintro ⟨c, M, k⟩ ⟨e, hk⟩
  have h1 := e.trans (dropL0 h0)
  have h2 : c = 0 := congrArg Prod.fst h1
  have h3 : M = (R13.dropL L t).2 := congrArg Prod.snd h1
  have hk : k = if c = 0 then 3 else 1 := hk
  rw [h2, if_pos rfl] at hk
  rw [h2, h3, hk]
  exact hQ
theorem rdrop1 {L : List Adr} {t : List UInt8} {Q : Int × List Adr × Nat → Prop} (h0 : codeD (L.map DA) t ≠ 0) (hQ : Q (10, L, 1)) : ∀ y : Int × List Adr × Nat, ((y.1, y.2.1) = R13.dropL L t ∧ y.2.2 = if y.1 = 0 then 3 else 1) → Q y := by
  rintro ⟨c, M, k⟩ ⟨e, hk⟩
  have h1 := e.trans (dropL1 h0)
  have h2 : c = 10 := congrArg Prod.fst h1
  have h3 : M = L := congrArg Prod.snd h1
  have hk : k = if c = 0 then 3 else 1 := hk
  rw [h2, if_neg (by decide)] at hk
  rw [h2, h3, hk]
  exact hQ
theorem dropL_len {L : List Adr} {t : List UInt8} : (R13.dropL L t).2.length ≤ L.length := by
  have h := congrArg List.length (dropL_M L t).2
  rw [List.length_map] at h
  rw [h]
  unfold dropM
  have := List.length_eraseP_le (p := fun e : En => decide (e.1 = t)) (l := L.map DA)
  rw [List.length_map] at this
  exact this
theorem one_more {L : List Adr} {a : Adr} {i : Nat} (h : L.length ≤ 30 + i) : (L ++ [a]).length ≤ 31 + i := by
  rw [List.length_append, List.length_singleton]
  omega
theorem near_gen {g : G} {D : List En} {p : Int × Int} {most : Int} {Q : List Fnd × Int × Int → Prop} (hg : GOk g) (hD : DG g = D) (hQ : ∀ (L : List Fnd) (n c : Int), NM D p most (L, n, c) → Q (L, n, c)) : ∀ y, nearP g p most y → Q y := by
  intro y hy
  have := NM.of_near hg hy
  rw [hD] at this
  exact hQ _ _ _ this
theorem near_len {L : List Adr} {p : Int × Int} {most : Int} {N : List Fnd} {n c : Int} (h : NM (L.map DA) p most (N, n, c)) (hl : L.length ≤ 20000) : (N.length : Int) ≤ 9223372036854775806 := by
  have h1 : N.length ≤ (L.map DA).length := by
    unfold NM at h
    split at h
    · obtain ⟨r, _, _, _, e⟩ := h
      have : N = (allS (L.map DA) p).take most.toNat := congrArg Prod.fst e
      rw [this, List.length_take, allS_len]
      omega
    · have : N = [] := congrArg Prod.fst h
      rw [this]
      exact Nat.zero_le _
  rw [List.length_map] at h1
  omega
theorem chkN {L : List Fnd} {n c : Int} {i j : Nat} : pickB (pickB (!sameB (twoL L L L.length)) (.c (.bool true)) (.s i) true (!decide (n = n))) (.c (.bool true)) (.s j) true (!decide (c = c)) = false := by
  rw [pickB_or, pickB_or, same_take rfl fun _ _ => rfl, decide_eq_true rfl, decide_eq_true rfl]
  rfl
theorem rnear_same {L : List Adr} {p : Int × Int} {most : Int} {y0 : List Fnd × Int × Int} {Q : List Fnd × Int × Int → Prop} (h0 : NM (L.map DA) p most y0) (hQ : Q y0) : ∀ y, rnearP L p most y → Q y := by
  intro y hy
  rw [(NM.of_ref hy).uniq h0]
  exact hQ
theorem no_tf' {b : Bool} (h : b = false) (h2 : b = true) : False := by rw [h] at h2; cases h2
def allOk (x : X3) : Prop := ∀ j, j < x.l.n → codeN x.l.a j = 0
def law3a : Eng.Spec := { law3 with pre := fun x => law3.pre x ∧ allOk x }
set_option maxHeartbeats 4000000 in
theorem law3a_ok : law3a.Ok Try.prog 3 := by
  refine Eng.Spec.ok_of e3h q3h tab3 (fun x _ => tab3_ok x) ?_
  rintro ⟨l, m, s, q, most⟩ ⟨⟨⟨hn, hs⟩, ⟨hn2, hs2⟩, hn3, hn4⟩, hall⟩
  replace hn : (l.n : Int) ≤ 9223372036854775806 := hn
  replace hs : ∀ i, i < l.n → ((l.a i).door.length : Int) ≤ 9223372036854775807 := hs
  replace hn2 : (m.n : Int) ≤ 9223372036854775806 := hn2
  replace hs2 : ∀ i, i < m.n → ((m.a i).door.length : Int) ≤ 9223372036854775807 := hs2
  replace hn3 : (s.n : Int) ≤ 9223372036854775806 := hn3
  replace hn4 : (q.n : Int) ≤ 9223372036854775806 := hn4
  replace hall : ∀ j, j < l.n → codeN l.a j = 0 := hall
  refine ⟨trivial, ?_⟩
  rw [tab3_good (x := ⟨l, m, s, q, most⟩) hall]
  repeat' (first | refine And.intro ?_ ?_ | exact trivial | exact rfl | exact hn | exact hn2 | exact fun (j : Nat) (hj : j < _) => sub_ad _ _ _ _ | (refine fun (_ : guardP _ _ _ _) => ?_) | omega | (dsimp only; omega))
  · refine fun (_ : pickB _ _ _ _ _ = true) => ?_
    repeat' (first | refine And.intro ?_ ?_ | exact trivial | exact rfl)
  refine fun (hb : pickB _ _ _ _ _ = false) => ?_
  have hf := few3 hb
  have hg := putN_ok l.a l.n
  have hD := new_D hall
  repeat' (first | refine And.intro ?_ ?_ | exact trivial | exact rfl)
  refine Exists.intro l (Exists.intro [] ?_)
  repeat' (first | refine And.intro ?_ ?_ | exact trivial | exact rfl | exact hn | exact hs | exact fun (j : Nat) (hj : j < _) => sub_ad _ _ _ _)
  refine new_ok hall ?_
  repeat' (first | refine And.intro ?_ ?_ | exact trivial | exact rfl)
  refine Exists.intro l (Exists.intro [] ?_)
  repeat' (first | refine And.intro ?_ ?_ | exact trivial | exact rfl | exact hn | exact hs | exact fun (j : Nat) (hj : j < _) => sub_ad _ _ _ _)
  refine rnew_ok hall ?_
  repeat' (first | refine And.intro ?_ ?_ | exact trivial | exact rfl | (refine fun (_ : guardP _ _ _ _) => ?_) | omega | (dsimp only; omega))
  · exact fun (hz : pickB _ _ _ _ _ = true) => (good_chk _ hz).elim
  refine fun (_ : pickB _ _ _ _ _ = false) => ?_
  repeat' (first | refine And.intro ?_ ?_ | exact trivial | exact rfl)
  refine ⟨⟨XL, IL3, fun x => [(16, .int .i64 (x.i : Int))], fun x => (5, .gone) :: heap3 x.g x.L 20, fun x => 31 - x.i⟩, ⟨0, putN l.a l.n, putLN l.a l.n⟩, il3_0 hall (few_n hf.1), ?_, ?_⟩
  · repeat' (first | refine And.intro ?_ ?_ | exact trivial | exact rfl | exact fun (j : Nat) (hj : j < _) => sub_ad _ _ _ _ | exact fun (j : Nat) (hj : j < _) => sub_str _ _ _ _ | exact fun (j : Nat) (hj : j < _) => sub_ptl _ _ _ _ | exact same_ent2 (p := sub _ _ 20) (fun v => sub_pt _ _ v) | exact same_ent2 (p := sub _ _ 20) (fun v => And.intro rfl rfl) | exact same_ent (p := sub _ _ 20) (sub_pt _ _) | (refine same_ent (p := sub _ _ 20) ?_; exact fun v => And.intro rfl rfl) | exact fun (i : Nat) => same_in _ _ _ | exact fun (i : Nat) => same_rn _ _ _ _ _ | exact fun (i : Nat) => same_rr _ _ _ _ _ _ _)
  rintro ⟨i, g, L⟩ ⟨hi, hg, hD, hL⟩
  replace hi : i ≤ 30 := hi
  replace hg : GOk g := hg
  replace hD : DG g = L.map DA := hD
  replace hL : L.length ≤ 30 + i := hL
  have hm30 := few_n hf.2.1
  have hLe : L.length ≤ 20000 := by omega
  repeat' (first | refine And.intro ?_ ?_ | exact trivial | exact rfl | (refine fun (_ : guardP _ _ _ _) => ?_) | omega | (dsimp only; omega))
  · refine fun (hz : pickB _ _ _ _ _ = true) => ?_
    have hi30 := loop3 hz hm30 hf.2.2.1 hf.2.2.2
    have hi0 : (0 : Int) ≤ (i : Int) := by omega
    have hin1 : -9223372036854775808 ≤ (i : Int) + 1 := by omega
    have hin2 : (i : Int) + 1 ≤ 9223372036854775807 := by omega
    have hL1 : L.length ≤ 31 + i := by omega
    repeat' (first | exact fun (h : decide ((i : Int) < (m.n : Int)) = true) => idx_ok h | refine And.intro ?_ ?_ | exact trivial | exact rfl)
    · refine fun (hm : decide ((i : Int) < (m.n : Int)) = true) => ?_
      have him : i < m.n := by have h1 := of_decide_eq_true hm; omega
      have hdoor : ((m.a ((i : Nat) : Int).toNat).door.length : Int) ≤ 9223372036854775807 := by rw [Int.toNat_natCast]; exact hs2 i him
      by_cases h0 : codeM (L.map DA) (DA (m.a ((i : Nat) : Int).toNat)) = 0
      · refine Exists.intro (g, (m.a ((i : Nat) : Int).toNat)) (Exists.intro [0, 1, 2, 3] ?_)
        have hL1 : (L ++ [(m.a ((i : Nat) : Int).toNat)]).length ≤ 31 + i := one_more hL
        repeat' (first | exact hg | exact hdoor | exact same_ent2 (p := sub _ _ 20) (fun v => sub_pt _ _ v) | exact same_ent2 (p := sub _ _ 20) (fun v => And.intro rfl rfl) | exact same_ent (p := sub _ _ 20) (sub_pt _ _) | (refine same_ent (p := sub _ _ 20) ?_; exact fun v => And.intro rfl rfl) | exact fun (i : Nat) => same_in _ _ _ | exact fun (i : Nat) => same_rn _ _ _ _ _ | exact fun (i : Nat) => same_rr _ _ _ _ _ _ _ | refine And.intro ?_ ?_ | exact trivial | exact rfl)
        refine put0 hg hD h0 (fun g1 hg1 hD1 => ?_)
        repeat' (first | exact fun (h : decide ((i : Int) < (m.n : Int)) = !true) => absurd (hm.symm.trans h) (by decide) | (refine fun (_ : decide ((i : Int) < (m.n : Int)) = true) => ?_) | refine And.intro ?_ ?_ | exact trivial | exact rfl)
        refine Exists.intro (L, (m.a ((i : Nat) : Int).toNat)) (Exists.intro [4, 20] ?_)
        repeat' (first | exact hLe | exact hdoor | exact fun (j : Nat) (hj : j < _) => sub_adAt _ _ 7 _ hj | refine And.intro ?_ ?_ | exact trivial | exact rfl)
        refine rput0 h0 ?_
        repeat' (first | exact fun (h : decide ((i : Int) < (m.n : Int)) = !true) => absurd (hm.symm.trans h) (by decide) | (refine fun (_ : decide ((i : Int) < (m.n : Int)) = true) => ?_) | exact fun (h : decide ((i : Int) < (s.n : Int)) = true ∧ _) => idx_ok h.1 | exact fun (h : pickB _ _ _ _ _ = !false) => absurd (chkA0.symm.trans h) (by decide) | (refine fun (_ : pickB _ _ _ _ _ = false) => ?_) | refine And.intro ?_ ?_ | exact trivial | exact rfl)
        · refine fun (hd : decide ((i : Int) < (s.n : Int)) = true) => ?_
          have hLd : (L ++ [(m.a ((i : Nat) : Int).toNat)]).length ≤ 20000 := Nat.le_trans hL1 (by omega)
          by_cases h2 : codeD ((L ++ [(m.a ((i : Nat) : Int).toNat)]).map DA) (s.s ((i : Nat) : Int).toNat) = 0
          · refine Exists.intro (g1, (s.s ((i : Nat) : Int).toNat)) (Exists.intro [0, 1, 2, 3] ?_)
            repeat' (first | exact hg1 | exact same_ent2 (p := sub _ _ 20) (fun v => sub_pt _ _ v) | exact same_ent2 (p := sub _ _ 20) (fun v => And.intro rfl rfl) | exact same_ent (p := sub _ _ 20) (sub_pt _ _) | (refine same_ent (p := sub _ _ 20) ?_; exact fun v => And.intro rfl rfl) | exact fun (i : Nat) => same_in _ _ _ | exact fun (i : Nat) => same_rn _ _ _ _ _ | exact fun (i : Nat) => same_rr _ _ _ _ _ _ _ | refine And.intro ?_ ?_ | exact trivial | exact rfl)
            refine drop0 hg1 hD1 h2 (fun g2 hg2 hD2 => ?_)
            have hL2 : (R13.dropL (L ++ [(m.a ((i : Nat) : Int).toNat)]) (s.s ((i : Nat) : Int).toNat)).2.length ≤ 31 + i := Nat.le_trans dropL_len hL1
            have hL3 : (R13.dropL (L ++ [(m.a ((i : Nat) : Int).toNat)]) (s.s ((i : Nat) : Int).toNat)).2.length ≤ 30 + (i + 1) := Nat.le_trans hL2 (by omega)
            have hLr : (R13.dropL (L ++ [(m.a ((i : Nat) : Int).toNat)]) (s.s ((i : Nat) : Int).toNat)).2.length ≤ 20000 := Nat.le_trans hL2 (by omega)
            have hdl : g2.d.length ≤ 20000 := by rw [← DG_len, hD2, List.length_map]; exact hLr
            repeat' (first | exact fun (h : pickB _ _ _ _ _ = !false) => absurd (chkA0.symm.trans h) (by decide) | (refine fun (_ : pickB _ _ _ _ _ = false) => ?_) | exact fun (h : decide ((i : Int) < (s.n : Int)) = !true) => absurd (hd.symm.trans h) (by decide) | (refine fun (_ : decide ((i : Int) < (s.n : Int)) = true) => ?_) | refine And.intro ?_ ?_ | exact trivial | exact rfl)
            refine Exists.intro ((L ++ [(m.a ((i : Nat) : Int).toNat)]), (s.s ((i : Nat) : Int).toNat)) (Exists.intro [4, 21] ?_)
            repeat' (first | exact hLd | exact fun (j : Nat) (hj : j < _) => sub_adAt _ _ 7 _ hj | refine And.intro ?_ ?_ | exact trivial | exact rfl)
            refine rdrop0 h2 ?_
            repeat' (first | exact fun (h : pickB _ _ _ _ _ = !false) => absurd (chkA0.symm.trans h) (by decide) | (refine fun (_ : pickB _ _ _ _ _ = false) => ?_) | exact fun (h : decide ((i : Int) < (s.n : Int)) = !true) => absurd (hd.symm.trans h) (by decide) | (refine fun (_ : decide ((i : Int) < (s.n : Int)) = true) => ?_) | refine And.intro ?_ ?_ | exact trivial | exact rfl)
            · exact fun (h : pickB _ _ _ _ _ = true) => (no_tf' (chkR chkA0 chkA0) h).elim
            repeat' (first | refine And.intro ?_ ?_ | exact trivial | exact rfl)
            · refine fun (hq : decide ((i : Int) < (q.n : Int)) = true) => ?_
              have hiq : (i : Int) < (q.n : Int) := of_decide_eq_true hq
              repeat' (first | exact hi0 | exact hiq | refine And.intro ?_ ?_ | exact trivial | exact rfl)
              refine Exists.intro (g2, (q.p ((i : Nat) : Int).toNat), most) (Exists.intro [0, 1, 2, 3] ?_)
              repeat' (first | exact hg2 | exact hdl | exact same_ent2 (p := sub _ _ 20) (fun v => sub_pt _ _ v) | exact same_ent2 (p := sub _ _ 20) (fun v => And.intro rfl rfl) | exact same_ent (p := sub _ _ 20) (sub_pt _ _) | (refine same_ent (p := sub _ _ 20) ?_; exact fun v => And.intro rfl rfl) | exact fun (i : Nat) => same_in _ _ _ | exact fun (i : Nat) => same_rn _ _ _ _ _ | exact fun (i : Nat) => same_rr _ _ _ _ _ _ _ | refine And.intro ?_ ?_ | exact trivial | exact rfl)
              refine near_gen hg2 hD2 (fun N k c hNM => ?_)
              have hNl : (N.length : Int) ≤ 9223372036854775806 := near_len hNM hLr
              repeat' (first | exact hi0 | exact hiq | refine And.intro ?_ ?_ | exact trivial | exact rfl)
              refine Exists.intro ((R13.dropL (L ++ [(m.a ((i : Nat) : Int).toNat)]) (s.s ((i : Nat) : Int).toNat)).2, (q.p ((i : Nat) : Int).toNat), most) (Exists.intro [4, 23] ?_)
              repeat' (first | exact hLr | exact fun (j : Nat) (hj : j < _) => sub_adAt _ _ 7 _ hj | refine And.intro ?_ ?_ | exact trivial | exact rfl)
              refine rnear_same hNM ?_
              repeat' (first | (refine fun (i : Nat) (_ : i < _) => ?_) | (refine fun (_ : guardP _ _ _ _) => ?_) | refine And.intro ?_ ?_ | exact trivial | exact rfl)
              · exact hNl
              · exact hNl
              · exact fun (h : pickB _ _ _ _ _ = true) => (no_tf' chkN h).elim
              refine fun (_ : pickB _ _ _ _ _ = false) => ?_
              repeat' (first | refine And.intro ?_ ?_ | exact trivial | exact rfl)
              · exact hin1
              · exact hin2
              refine Exists.intro (XL.mk (i + 1) g2 (R13.dropL (L ++ [(m.a ((i : Nat) : Int).toNat)]) (s.s ((i : Nat) : Int).toNat)).2) (And.intro ⟨hi30, hg2, hD2, hL3⟩ (And.intro ?_ ?_))
              · repeat' (first | refine And.intro ?_ ?_ | exact trivial | exact rfl | exact fun (j : Nat) (hj : j < _) => sub_str _ _ _ _ | exact fun (j : Nat) (hj : j < _) => sub_ptl _ _ _ _ | exact fun (j : Nat) (hj : j < _) => sub_ad _ _ _ _ | exact same_ent2 (p := sub _ _ 20) (fun v => sub_pt _ _ v) | exact same_ent2 (p := sub _ _ 20) (fun v => And.intro rfl rfl) | exact same_ent (p := sub _ _ 20) (sub_pt _ _) | (refine same_ent (p := sub _ _ 20) ?_; exact fun v => And.intro rfl rfl) | exact fun (i : Nat) => same_in _ _ _ | exact fun (i : Nat) => same_rn _ _ _ _ _ | exact fun (i : Nat) => same_rr _ _ _ _ _ _ _ | exact fun (j : Nat) (hj : j < _) => sub_adAt _ _ 7 _ hj | exact fun (j : Nat) (hj : j < _) => sub_rn _ _ _ _ hj | fail)
              · show 31 - (i + 1) < 31 - i
                omega
            · refine fun (_ : decide ((i : Int) < (q.n : Int)) = false) => ?_
              repeat' (first | refine And.intro ?_ ?_ | exact trivial | exact rfl)
              · exact hin1
              · exact hin2
              refine Exists.intro (XL.mk (i + 1) g2 (R13.dropL (L ++ [(m.a ((i : Nat) : Int).toNat)]) (s.s ((i : Nat) : Int).toNat)).2) (And.intro ⟨hi30, hg2, hD2, hL3⟩ (And.intro ?_ ?_))
              · repeat' (first | refine And.intro ?_ ?_ | exact trivial | exact rfl | exact fun (j : Nat) (hj : j < _) => sub_str _ _ _ _ | exact fun (j : Nat) (hj : j < _) => sub_ptl _ _ _ _ | exact fun (j : Nat) (hj : j < _) => sub_ad _ _ _ _ | exact same_ent2 (p := sub _ _ 20) (fun v => sub_pt _ _ v) | exact same_ent2 (p := sub _ _ 20) (fun v => And.intro rfl rfl) | exact same_ent (p := sub _ _ 20) (sub_pt _ _) | (refine same_ent (p := sub _ _ 20) ?_; exact fun v => And.intro rfl rfl) | exact fun (i : Nat) => same_in _ _ _ | exact fun (i : Nat) => same_rn _ _ _ _ _ | exact fun (i : Nat) => same_rr _ _ _ _ _ _ _ | exact fun (j : Nat) (hj : j < _) => sub_adAt _ _ 7 _ hj | exact fun (j : Nat) (hj : j < _) => sub_rn _ _ _ _ hj | fail)
              · show 31 - (i + 1) < 31 - i
                omega
          · refine Exists.intro (g1, (s.s ((i : Nat) : Int).toNat)) (Exists.intro [0, 1, 2, 3] ?_)
            repeat' (first | exact hg1 | exact same_ent2 (p := sub _ _ 20) (fun v => sub_pt _ _ v) | exact same_ent2 (p := sub _ _ 20) (fun v => And.intro rfl rfl) | exact same_ent (p := sub _ _ 20) (sub_pt _ _) | (refine same_ent (p := sub _ _ 20) ?_; exact fun v => And.intro rfl rfl) | exact fun (i : Nat) => same_in _ _ _ | exact fun (i : Nat) => same_rn _ _ _ _ _ | exact fun (i : Nat) => same_rr _ _ _ _ _ _ _ | refine And.intro ?_ ?_ | exact trivial | exact rfl)
            refine drop1 hg1 hD1 h2 (fun g2 hg2 hD2 => ?_)
            have hL2 := hL1
            have hL3 : (L ++ [(m.a ((i : Nat) : Int).toNat)]).length ≤ 30 + (i + 1) := Nat.le_trans hL2 (by omega)
            have hLr : (L ++ [(m.a ((i : Nat) : Int).toNat)]).length ≤ 20000 := Nat.le_trans hL2 (by omega)
            have hdl : g2.d.length ≤ 20000 := by rw [← DG_len, hD2, List.length_map]; exact hLr
            repeat' (first | exact fun (h : pickB _ _ _ _ _ = !false) => absurd (chkA0.symm.trans h) (by decide) | (refine fun (_ : pickB _ _ _ _ _ = false) => ?_) | exact fun (h : decide ((i : Int) < (s.n : Int)) = !true) => absurd (hd.symm.trans h) (by decide) | (refine fun (_ : decide ((i : Int) < (s.n : Int)) = true) => ?_) | refine And.intro ?_ ?_ | exact trivial | exact rfl)
            refine Exists.intro ((L ++ [(m.a ((i : Nat) : Int).toNat)]), (s.s ((i : Nat) : Int).toNat)) (Exists.intro [4, 21] ?_)
            repeat' (first | exact hLd | exact fun (j : Nat) (hj : j < _) => sub_adAt _ _ 7 _ hj | refine And.intro ?_ ?_ | exact trivial | exact rfl)
            refine rdrop1 h2 ?_
            repeat' (first | exact fun (h : pickB _ _ _ _ _ = !false) => absurd (chkA0.symm.trans h) (by decide) | (refine fun (_ : pickB _ _ _ _ _ = false) => ?_) | exact fun (h : decide ((i : Int) < (s.n : Int)) = !true) => absurd (hd.symm.trans h) (by decide) | (refine fun (_ : decide ((i : Int) < (s.n : Int)) = true) => ?_) | refine And.intro ?_ ?_ | exact trivial | exact rfl)
            · exact fun (h : pickB _ _ _ _ _ = true) => (no_tf' (chkR chkA0 chkA1) h).elim
            repeat' (first | refine And.intro ?_ ?_ | exact trivial | exact rfl)
            · refine fun (hq : decide ((i : Int) < (q.n : Int)) = true) => ?_
              have hiq : (i : Int) < (q.n : Int) := of_decide_eq_true hq
              repeat' (first | exact hi0 | exact hiq | refine And.intro ?_ ?_ | exact trivial | exact rfl)
              refine Exists.intro (g2, (q.p ((i : Nat) : Int).toNat), most) (Exists.intro [0, 1, 2, 3] ?_)
              repeat' (first | exact hg2 | exact hdl | exact same_ent2 (p := sub _ _ 20) (fun v => sub_pt _ _ v) | exact same_ent2 (p := sub _ _ 20) (fun v => And.intro rfl rfl) | exact same_ent (p := sub _ _ 20) (sub_pt _ _) | (refine same_ent (p := sub _ _ 20) ?_; exact fun v => And.intro rfl rfl) | exact fun (i : Nat) => same_in _ _ _ | exact fun (i : Nat) => same_rn _ _ _ _ _ | exact fun (i : Nat) => same_rr _ _ _ _ _ _ _ | refine And.intro ?_ ?_ | exact trivial | exact rfl)
              refine near_gen hg2 hD2 (fun N k c hNM => ?_)
              have hNl : (N.length : Int) ≤ 9223372036854775806 := near_len hNM hLr
              repeat' (first | exact hi0 | exact hiq | refine And.intro ?_ ?_ | exact trivial | exact rfl)
              refine Exists.intro ((L ++ [(m.a ((i : Nat) : Int).toNat)]), (q.p ((i : Nat) : Int).toNat), most) (Exists.intro [4, 21] ?_)
              repeat' (first | exact hLr | exact fun (j : Nat) (hj : j < _) => sub_adAt _ _ 7 _ hj | refine And.intro ?_ ?_ | exact trivial | exact rfl)
              refine rnear_same hNM ?_
              repeat' (first | (refine fun (i : Nat) (_ : i < _) => ?_) | (refine fun (_ : guardP _ _ _ _) => ?_) | refine And.intro ?_ ?_ | exact trivial | exact rfl)
              · exact hNl
              · exact hNl
              · exact fun (h : pickB _ _ _ _ _ = true) => (no_tf' chkN h).elim
              refine fun (_ : pickB _ _ _ _ _ = false) => ?_
              repeat' (first | refine And.intro ?_ ?_ | exact trivial | exact rfl)
              · exact hin1
              · exact hin2
              refine Exists.intro (XL.mk (i + 1) g2 (L ++ [(m.a ((i : Nat) : Int).toNat)])) (And.intro ⟨hi30, hg2, hD2, hL3⟩ (And.intro ?_ ?_))
              · repeat' (first | refine And.intro ?_ ?_ | exact trivial | exact rfl | exact fun (j : Nat) (hj : j < _) => sub_str _ _ _ _ | exact fun (j : Nat) (hj : j < _) => sub_ptl _ _ _ _ | exact fun (j : Nat) (hj : j < _) => sub_ad _ _ _ _ | exact same_ent2 (p := sub _ _ 20) (fun v => sub_pt _ _ v) | exact same_ent2 (p := sub _ _ 20) (fun v => And.intro rfl rfl) | exact same_ent (p := sub _ _ 20) (sub_pt _ _) | (refine same_ent (p := sub _ _ 20) ?_; exact fun v => And.intro rfl rfl) | exact fun (i : Nat) => same_in _ _ _ | exact fun (i : Nat) => same_rn _ _ _ _ _ | exact fun (i : Nat) => same_rr _ _ _ _ _ _ _ | exact fun (j : Nat) (hj : j < _) => sub_adAt _ _ 7 _ hj | exact fun (j : Nat) (hj : j < _) => sub_rn _ _ _ _ hj | fail)
              · show 31 - (i + 1) < 31 - i
                omega
            · refine fun (_ : decide ((i : Int) < (q.n : Int)) = false) => ?_
              repeat' (first | refine And.intro ?_ ?_ | exact trivial | exact rfl)
              · exact hin1
              · exact hin2
              refine Exists.intro (XL.mk (i + 1) g2 (L ++ [(m.a ((i : Nat) : Int).toNat)])) (And.intro ⟨hi30, hg2, hD2, hL3⟩ (And.intro ?_ ?_))
              · repeat' (first | refine And.intro ?_ ?_ | exact trivial | exact rfl | exact fun (j : Nat) (hj : j < _) => sub_str _ _ _ _ | exact fun (j : Nat) (hj : j < _) => sub_ptl _ _ _ _ | exact fun (j : Nat) (hj : j < _) => sub_ad _ _ _ _ | exact same_ent2 (p := sub _ _ 20) (fun v => sub_pt _ _ v) | exact same_ent2 (p := sub _ _ 20) (fun v => And.intro rfl rfl) | exact same_ent (p := sub _ _ 20) (sub_pt _ _) | (refine same_ent (p := sub _ _ 20) ?_; exact fun v => And.intro rfl rfl) | exact fun (i : Nat) => same_in _ _ _ | exact fun (i : Nat) => same_rn _ _ _ _ _ | exact fun (i : Nat) => same_rr _ _ _ _ _ _ _ | exact fun (j : Nat) (hj : j < _) => sub_adAt _ _ 7 _ hj | exact fun (j : Nat) (hj : j < _) => sub_rn _ _ _ _ hj | fail)
              · show 31 - (i + 1) < 31 - i
                omega
        · refine fun (hd : decide ((i : Int) < (s.n : Int)) = !true) => ?_
          have hL3 : (L ++ [(m.a ((i : Nat) : Int).toNat)]).length ≤ 30 + (i + 1) := Nat.le_trans hL1 (by omega)
          have hLr : (L ++ [(m.a ((i : Nat) : Int).toNat)]).length ≤ 20000 := Nat.le_trans hL1 (by omega)
          have hdl : g1.d.length ≤ 20000 := by rw [← DG_len, hD1, List.length_map]; exact hLr
          repeat' (first | exact fun (h : pickB _ _ _ _ _ = !false) => absurd (chkA0.symm.trans h) (by decide) | (refine fun (_ : pickB _ _ _ _ _ = false) => ?_) | exact fun (h : decide ((i : Int) < (s.n : Int)) = true ∧ _) => absurd (h.1.symm.trans hd) (by decide) | exact fun (h : decide ((i : Int) < (s.n : Int)) = true) => absurd (h.symm.trans hd) (by decide) | (refine fun (_ : decide ((i : Int) < (s.n : Int)) = !true) => ?_) | exact hd | refine And.intro ?_ ?_ | exact trivial | exact rfl)
          · exact fun (h : pickB _ _ _ _ _ = true) => (no_tf' (chkR chkA0 rfl) h).elim
          repeat' (first | refine And.intro ?_ ?_ | exact trivial | exact rfl)
          · refine fun (hq : decide ((i : Int) < (q.n : Int)) = true) => ?_
            have hiq : (i : Int) < (q.n : Int) := of_decide_eq_true hq
            repeat' (first | exact hi0 | exact hiq | refine And.intro ?_ ?_ | exact trivial | exact rfl)
            refine Exists.intro (g1, (q.p ((i : Nat) : Int).toNat), most) (Exists.intro [0, 1, 2, 3] ?_)
            repeat' (first | exact hg1 | exact hdl | exact same_ent2 (p := sub _ _ 20) (fun v => sub_pt _ _ v) | exact same_ent2 (p := sub _ _ 20) (fun v => And.intro rfl rfl) | exact same_ent (p := sub _ _ 20) (sub_pt _ _) | (refine same_ent (p := sub _ _ 20) ?_; exact fun v => And.intro rfl rfl) | exact fun (i : Nat) => same_in _ _ _ | exact fun (i : Nat) => same_rn _ _ _ _ _ | exact fun (i : Nat) => same_rr _ _ _ _ _ _ _ | refine And.intro ?_ ?_ | exact trivial | exact rfl)
            refine near_gen hg1 hD1 (fun N k c hNM => ?_)
            have hNl : (N.length : Int) ≤ 9223372036854775806 := near_len hNM hLr
            repeat' (first | exact hi0 | exact hiq | refine And.intro ?_ ?_ | exact trivial | exact rfl)
            refine Exists.intro ((L ++ [(m.a ((i : Nat) : Int).toNat)]), (q.p ((i : Nat) : Int).toNat), most) (Exists.intro [4, 21] ?_)
            repeat' (first | exact hLr | exact fun (j : Nat) (hj : j < _) => sub_adAt _ _ 7 _ hj | refine And.intro ?_ ?_ | exact trivial | exact rfl)
            refine rnear_same hNM ?_
            repeat' (first | (refine fun (i : Nat) (_ : i < _) => ?_) | (refine fun (_ : guardP _ _ _ _) => ?_) | refine And.intro ?_ ?_ | exact trivial | exact rfl)
            · exact hNl
            · exact hNl
            · exact fun (h : pickB _ _ _ _ _ = true) => (no_tf' chkN h).elim
            refine fun (_ : pickB _ _ _ _ _ = false) => ?_
            repeat' (first | refine And.intro ?_ ?_ | exact trivial | exact rfl)
            · exact hin1
            · exact hin2
            refine Exists.intro (XL.mk (i + 1) g1 (L ++ [(m.a ((i : Nat) : Int).toNat)])) (And.intro ⟨hi30, hg1, hD1, hL3⟩ (And.intro ?_ ?_))
            · repeat' (first | refine And.intro ?_ ?_ | exact trivial | exact rfl | exact fun (j : Nat) (hj : j < _) => sub_str _ _ _ _ | exact fun (j : Nat) (hj : j < _) => sub_ptl _ _ _ _ | exact fun (j : Nat) (hj : j < _) => sub_ad _ _ _ _ | exact same_ent2 (p := sub _ _ 20) (fun v => sub_pt _ _ v) | exact same_ent2 (p := sub _ _ 20) (fun v => And.intro rfl rfl) | exact same_ent (p := sub _ _ 20) (sub_pt _ _) | (refine same_ent (p := sub _ _ 20) ?_; exact fun v => And.intro rfl rfl) | exact fun (i : Nat) => same_in _ _ _ | exact fun (i : Nat) => same_rn _ _ _ _ _ | exact fun (i : Nat) => same_rr _ _ _ _ _ _ _ | exact fun (j : Nat) (hj : j < _) => sub_adAt _ _ 7 _ hj | exact fun (j : Nat) (hj : j < _) => sub_rn _ _ _ _ hj | fail)
            · show 31 - (i + 1) < 31 - i
              omega
          · refine fun (_ : decide ((i : Int) < (q.n : Int)) = false) => ?_
            repeat' (first | refine And.intro ?_ ?_ | exact trivial | exact rfl)
            · exact hin1
            · exact hin2
            refine Exists.intro (XL.mk (i + 1) g1 (L ++ [(m.a ((i : Nat) : Int).toNat)])) (And.intro ⟨hi30, hg1, hD1, hL3⟩ (And.intro ?_ ?_))
            · repeat' (first | refine And.intro ?_ ?_ | exact trivial | exact rfl | exact fun (j : Nat) (hj : j < _) => sub_str _ _ _ _ | exact fun (j : Nat) (hj : j < _) => sub_ptl _ _ _ _ | exact fun (j : Nat) (hj : j < _) => sub_ad _ _ _ _ | exact same_ent2 (p := sub _ _ 20) (fun v => sub_pt _ _ v) | exact same_ent2 (p := sub _ _ 20) (fun v => And.intro rfl rfl) | exact same_ent (p := sub _ _ 20) (sub_pt _ _) | (refine same_ent (p := sub _ _ 20) ?_; exact fun v => And.intro rfl rfl) | exact fun (i : Nat) => same_in _ _ _ | exact fun (i : Nat) => same_rn _ _ _ _ _ | exact fun (i : Nat) => same_rr _ _ _ _ _ _ _ | exact fun (j : Nat) (hj : j < _) => sub_adAt _ _ 7 _ hj | exact fun (j : Nat) (hj : j < _) => sub_rn _ _ _ _ hj | fail)
            · show 31 - (i + 1) < 31 - i
              omega
      · refine Exists.intro (g, (m.a ((i : Nat) : Int).toNat)) (Exists.intro [0, 1, 2, 3] ?_)
        have hL1 : L.length ≤ 31 + i := by omega
        repeat' (first | exact hg | exact hdoor | exact same_ent2 (p := sub _ _ 20) (fun v => sub_pt _ _ v) | exact same_ent2 (p := sub _ _ 20) (fun v => And.intro rfl rfl) | exact same_ent (p := sub _ _ 20) (sub_pt _ _) | (refine same_ent (p := sub _ _ 20) ?_; exact fun v => And.intro rfl rfl) | exact fun (i : Nat) => same_in _ _ _ | exact fun (i : Nat) => same_rn _ _ _ _ _ | exact fun (i : Nat) => same_rr _ _ _ _ _ _ _ | refine And.intro ?_ ?_ | exact trivial | exact rfl)
        refine put1 hg hD rfl h0 (fun g1 hg1 hD1 => ?_)
        repeat' (first | exact fun (h : decide ((i : Int) < (m.n : Int)) = !true) => absurd (hm.symm.trans h) (by decide) | (refine fun (_ : decide ((i : Int) < (m.n : Int)) = true) => ?_) | refine And.intro ?_ ?_ | exact trivial | exact rfl)
        refine Exists.intro (L, (m.a ((i : Nat) : Int).toNat)) (Exists.intro [4, 20] ?_)
        repeat' (first | exact hLe | exact hdoor | exact fun (j : Nat) (hj : j < _) => sub_adAt _ _ 7 _ hj | refine And.intro ?_ ?_ | exact trivial | exact rfl)
        refine rput1 rfl h0 ?_
        repeat' (first | exact fun (h : decide ((i : Int) < (m.n : Int)) = !true) => absurd (hm.symm.trans h) (by decide) | (refine fun (_ : decide ((i : Int) < (m.n : Int)) = true) => ?_) | exact fun (h : decide ((i : Int) < (s.n : Int)) = true ∧ _) => idx_ok h.1 | exact fun (h : pickB _ _ _ _ _ = !false) => absurd (chkA1.symm.trans h) (by decide) | (refine fun (_ : pickB _ _ _ _ _ = false) => ?_) | refine And.intro ?_ ?_ | exact trivial | exact rfl)
        · refine fun (hd : decide ((i : Int) < (s.n : Int)) = true) => ?_
          have hLd : L.length ≤ 20000 := Nat.le_trans hL1 (by omega)
          by_cases h2 : codeD (L.map DA) (s.s ((i : Nat) : Int).toNat) = 0
          · refine Exists.intro (g1, (s.s ((i : Nat) : Int).toNat)) (Exists.intro [0, 1, 2, 3] ?_)
            repeat' (first | exact hg1 | exact same_ent2 (p := sub _ _ 20) (fun v => sub_pt _ _ v) | exact same_ent2 (p := sub _ _ 20) (fun v => And.intro rfl rfl) | exact same_ent (p := sub _ _ 20) (sub_pt _ _) | (refine same_ent (p := sub _ _ 20) ?_; exact fun v => And.intro rfl rfl) | exact fun (i : Nat) => same_in _ _ _ | exact fun (i : Nat) => same_rn _ _ _ _ _ | exact fun (i : Nat) => same_rr _ _ _ _ _ _ _ | refine And.intro ?_ ?_ | exact trivial | exact rfl)
            refine drop0 hg1 hD1 h2 (fun g2 hg2 hD2 => ?_)
            have hL2 : (R13.dropL L (s.s ((i : Nat) : Int).toNat)).2.length ≤ 31 + i := Nat.le_trans dropL_len hL1
            have hL3 : (R13.dropL L (s.s ((i : Nat) : Int).toNat)).2.length ≤ 30 + (i + 1) := Nat.le_trans hL2 (by omega)
            have hLr : (R13.dropL L (s.s ((i : Nat) : Int).toNat)).2.length ≤ 20000 := Nat.le_trans hL2 (by omega)
            have hdl : g2.d.length ≤ 20000 := by rw [← DG_len, hD2, List.length_map]; exact hLr
            repeat' (first | exact fun (h : pickB _ _ _ _ _ = !false) => absurd (chkA1.symm.trans h) (by decide) | (refine fun (_ : pickB _ _ _ _ _ = false) => ?_) | exact fun (h : decide ((i : Int) < (s.n : Int)) = !true) => absurd (hd.symm.trans h) (by decide) | (refine fun (_ : decide ((i : Int) < (s.n : Int)) = true) => ?_) | refine And.intro ?_ ?_ | exact trivial | exact rfl)
            refine Exists.intro (L, (s.s ((i : Nat) : Int).toNat)) (Exists.intro [4, 20] ?_)
            repeat' (first | exact hLd | exact fun (j : Nat) (hj : j < _) => sub_adAt _ _ 7 _ hj | refine And.intro ?_ ?_ | exact trivial | exact rfl)
            refine rdrop0 h2 ?_
            repeat' (first | exact fun (h : pickB _ _ _ _ _ = !false) => absurd (chkA1.symm.trans h) (by decide) | (refine fun (_ : pickB _ _ _ _ _ = false) => ?_) | exact fun (h : decide ((i : Int) < (s.n : Int)) = !true) => absurd (hd.symm.trans h) (by decide) | (refine fun (_ : decide ((i : Int) < (s.n : Int)) = true) => ?_) | refine And.intro ?_ ?_ | exact trivial | exact rfl)
            · exact fun (h : pickB _ _ _ _ _ = true) => (no_tf' (chkR chkA1 chkA0) h).elim
            repeat' (first | refine And.intro ?_ ?_ | exact trivial | exact rfl)
            · refine fun (hq : decide ((i : Int) < (q.n : Int)) = true) => ?_
              have hiq : (i : Int) < (q.n : Int) := of_decide_eq_true hq
              repeat' (first | exact hi0 | exact hiq | refine And.intro ?_ ?_ | exact trivial | exact rfl)
              refine Exists.intro (g2, (q.p ((i : Nat) : Int).toNat), most) (Exists.intro [0, 1, 2, 3] ?_)
              repeat' (first | exact hg2 | exact hdl | exact same_ent2 (p := sub _ _ 20) (fun v => sub_pt _ _ v) | exact same_ent2 (p := sub _ _ 20) (fun v => And.intro rfl rfl) | exact same_ent (p := sub _ _ 20) (sub_pt _ _) | (refine same_ent (p := sub _ _ 20) ?_; exact fun v => And.intro rfl rfl) | exact fun (i : Nat) => same_in _ _ _ | exact fun (i : Nat) => same_rn _ _ _ _ _ | exact fun (i : Nat) => same_rr _ _ _ _ _ _ _ | refine And.intro ?_ ?_ | exact trivial | exact rfl)
              refine near_gen hg2 hD2 (fun N k c hNM => ?_)
              have hNl : (N.length : Int) ≤ 9223372036854775806 := near_len hNM hLr
              repeat' (first | exact hi0 | exact hiq | refine And.intro ?_ ?_ | exact trivial | exact rfl)
              refine Exists.intro ((R13.dropL L (s.s ((i : Nat) : Int).toNat)).2, (q.p ((i : Nat) : Int).toNat), most) (Exists.intro [4, 23] ?_)
              repeat' (first | exact hLr | exact fun (j : Nat) (hj : j < _) => sub_adAt _ _ 7 _ hj | refine And.intro ?_ ?_ | exact trivial | exact rfl)
              refine rnear_same hNM ?_
              repeat' (first | (refine fun (i : Nat) (_ : i < _) => ?_) | (refine fun (_ : guardP _ _ _ _) => ?_) | refine And.intro ?_ ?_ | exact trivial | exact rfl)
              · exact hNl
              · exact hNl
              · exact fun (h : pickB _ _ _ _ _ = true) => (no_tf' chkN h).elim
              refine fun (_ : pickB _ _ _ _ _ = false) => ?_
              repeat' (first | refine And.intro ?_ ?_ | exact trivial | exact rfl)
              · exact hin1
              · exact hin2
              refine Exists.intro (XL.mk (i + 1) g2 (R13.dropL L (s.s ((i : Nat) : Int).toNat)).2) (And.intro ⟨hi30, hg2, hD2, hL3⟩ (And.intro ?_ ?_))
              · repeat' (first | refine And.intro ?_ ?_ | exact trivial | exact rfl | exact fun (j : Nat) (hj : j < _) => sub_str _ _ _ _ | exact fun (j : Nat) (hj : j < _) => sub_ptl _ _ _ _ | exact fun (j : Nat) (hj : j < _) => sub_ad _ _ _ _ | exact same_ent2 (p := sub _ _ 20) (fun v => sub_pt _ _ v) | exact same_ent2 (p := sub _ _ 20) (fun v => And.intro rfl rfl) | exact same_ent (p := sub _ _ 20) (sub_pt _ _) | (refine same_ent (p := sub _ _ 20) ?_; exact fun v => And.intro rfl rfl) | exact fun (i : Nat) => same_in _ _ _ | exact fun (i : Nat) => same_rn _ _ _ _ _ | exact fun (i : Nat) => same_rr _ _ _ _ _ _ _ | exact fun (j : Nat) (hj : j < _) => sub_adAt _ _ 7 _ hj | exact fun (j : Nat) (hj : j < _) => sub_rn _ _ _ _ hj | fail)
              · show 31 - (i + 1) < 31 - i
                omega
            · refine fun (_ : decide ((i : Int) < (q.n : Int)) = false) => ?_
              repeat' (first | refine And.intro ?_ ?_ | exact trivial | exact rfl)
              · exact hin1
              · exact hin2
              refine Exists.intro (XL.mk (i + 1) g2 (R13.dropL L (s.s ((i : Nat) : Int).toNat)).2) (And.intro ⟨hi30, hg2, hD2, hL3⟩ (And.intro ?_ ?_))
              · repeat' (first | refine And.intro ?_ ?_ | exact trivial | exact rfl | exact fun (j : Nat) (hj : j < _) => sub_str _ _ _ _ | exact fun (j : Nat) (hj : j < _) => sub_ptl _ _ _ _ | exact fun (j : Nat) (hj : j < _) => sub_ad _ _ _ _ | exact same_ent2 (p := sub _ _ 20) (fun v => sub_pt _ _ v) | exact same_ent2 (p := sub _ _ 20) (fun v => And.intro rfl rfl) | exact same_ent (p := sub _ _ 20) (sub_pt _ _) | (refine same_ent (p := sub _ _ 20) ?_; exact fun v => And.intro rfl rfl) | exact fun (i : Nat) => same_in _ _ _ | exact fun (i : Nat) => same_rn _ _ _ _ _ | exact fun (i : Nat) => same_rr _ _ _ _ _ _ _ | exact fun (j : Nat) (hj : j < _) => sub_adAt _ _ 7 _ hj | exact fun (j : Nat) (hj : j < _) => sub_rn _ _ _ _ hj | fail)
              · show 31 - (i + 1) < 31 - i
                omega
          · refine Exists.intro (g1, (s.s ((i : Nat) : Int).toNat)) (Exists.intro [0, 1, 2, 3] ?_)
            repeat' (first | exact hg1 | exact same_ent2 (p := sub _ _ 20) (fun v => sub_pt _ _ v) | exact same_ent2 (p := sub _ _ 20) (fun v => And.intro rfl rfl) | exact same_ent (p := sub _ _ 20) (sub_pt _ _) | (refine same_ent (p := sub _ _ 20) ?_; exact fun v => And.intro rfl rfl) | exact fun (i : Nat) => same_in _ _ _ | exact fun (i : Nat) => same_rn _ _ _ _ _ | exact fun (i : Nat) => same_rr _ _ _ _ _ _ _ | refine And.intro ?_ ?_ | exact trivial | exact rfl)
            refine drop1 hg1 hD1 h2 (fun g2 hg2 hD2 => ?_)
            have hL2 := hL1
            have hL3 : L.length ≤ 30 + (i + 1) := Nat.le_trans hL2 (by omega)
            have hLr : L.length ≤ 20000 := Nat.le_trans hL2 (by omega)
            have hdl : g2.d.length ≤ 20000 := by rw [← DG_len, hD2, List.length_map]; exact hLr
            repeat' (first | exact fun (h : pickB _ _ _ _ _ = !false) => absurd (chkA1.symm.trans h) (by decide) | (refine fun (_ : pickB _ _ _ _ _ = false) => ?_) | exact fun (h : decide ((i : Int) < (s.n : Int)) = !true) => absurd (hd.symm.trans h) (by decide) | (refine fun (_ : decide ((i : Int) < (s.n : Int)) = true) => ?_) | refine And.intro ?_ ?_ | exact trivial | exact rfl)
            refine Exists.intro (L, (s.s ((i : Nat) : Int).toNat)) (Exists.intro [4, 20] ?_)
            repeat' (first | exact hLd | exact fun (j : Nat) (hj : j < _) => sub_adAt _ _ 7 _ hj | refine And.intro ?_ ?_ | exact trivial | exact rfl)
            refine rdrop1 h2 ?_
            repeat' (first | exact fun (h : pickB _ _ _ _ _ = !false) => absurd (chkA1.symm.trans h) (by decide) | (refine fun (_ : pickB _ _ _ _ _ = false) => ?_) | exact fun (h : decide ((i : Int) < (s.n : Int)) = !true) => absurd (hd.symm.trans h) (by decide) | (refine fun (_ : decide ((i : Int) < (s.n : Int)) = true) => ?_) | refine And.intro ?_ ?_ | exact trivial | exact rfl)
            · exact fun (h : pickB _ _ _ _ _ = true) => (no_tf' (chkR chkA1 chkA1) h).elim
            repeat' (first | refine And.intro ?_ ?_ | exact trivial | exact rfl)
            · refine fun (hq : decide ((i : Int) < (q.n : Int)) = true) => ?_
              have hiq : (i : Int) < (q.n : Int) := of_decide_eq_true hq
              repeat' (first | exact hi0 | exact hiq | refine And.intro ?_ ?_ | exact trivial | exact rfl)
              refine Exists.intro (g2, (q.p ((i : Nat) : Int).toNat), most) (Exists.intro [0, 1, 2, 3] ?_)
              repeat' (first | exact hg2 | exact hdl | exact same_ent2 (p := sub _ _ 20) (fun v => sub_pt _ _ v) | exact same_ent2 (p := sub _ _ 20) (fun v => And.intro rfl rfl) | exact same_ent (p := sub _ _ 20) (sub_pt _ _) | (refine same_ent (p := sub _ _ 20) ?_; exact fun v => And.intro rfl rfl) | exact fun (i : Nat) => same_in _ _ _ | exact fun (i : Nat) => same_rn _ _ _ _ _ | exact fun (i : Nat) => same_rr _ _ _ _ _ _ _ | refine And.intro ?_ ?_ | exact trivial | exact rfl)
              refine near_gen hg2 hD2 (fun N k c hNM => ?_)
              have hNl : (N.length : Int) ≤ 9223372036854775806 := near_len hNM hLr
              repeat' (first | exact hi0 | exact hiq | refine And.intro ?_ ?_ | exact trivial | exact rfl)
              refine Exists.intro (L, (q.p ((i : Nat) : Int).toNat), most) (Exists.intro [4, 20] ?_)
              repeat' (first | exact hLr | exact fun (j : Nat) (hj : j < _) => sub_adAt _ _ 7 _ hj | refine And.intro ?_ ?_ | exact trivial | exact rfl)
              refine rnear_same hNM ?_
              repeat' (first | (refine fun (i : Nat) (_ : i < _) => ?_) | (refine fun (_ : guardP _ _ _ _) => ?_) | refine And.intro ?_ ?_ | exact trivial | exact rfl)
              · exact hNl
              · exact hNl
              · exact fun (h : pickB _ _ _ _ _ = true) => (no_tf' chkN h).elim
              refine fun (_ : pickB _ _ _ _ _ = false) => ?_
              repeat' (first | refine And.intro ?_ ?_ | exact trivial | exact rfl)
              · exact hin1
              · exact hin2
              refine Exists.intro (XL.mk (i + 1) g2 L) (And.intro ⟨hi30, hg2, hD2, hL3⟩ (And.intro ?_ ?_))
              · repeat' (first | refine And.intro ?_ ?_ | exact trivial | exact rfl | exact fun (j : Nat) (hj : j < _) => sub_str _ _ _ _ | exact fun (j : Nat) (hj : j < _) => sub_ptl _ _ _ _ | exact fun (j : Nat) (hj : j < _) => sub_ad _ _ _ _ | exact same_ent2 (p := sub _ _ 20) (fun v => sub_pt _ _ v) | exact same_ent2 (p := sub _ _ 20) (fun v => And.intro rfl rfl) | exact same_ent (p := sub _ _ 20) (sub_pt _ _) | (refine same_ent (p := sub _ _ 20) ?_; exact fun v => And.intro rfl rfl) | exact fun (i : Nat) => same_in _ _ _ | exact fun (i : Nat) => same_rn _ _ _ _ _ | exact fun (i : Nat) => same_rr _ _ _ _ _ _ _ | exact fun (j : Nat) (hj : j < _) => sub_adAt _ _ 7 _ hj | exact fun (j : Nat) (hj : j < _) => sub_rn _ _ _ _ hj | fail)
              · show 31 - (i + 1) < 31 - i
                omega
            · refine fun (_ : decide ((i : Int) < (q.n : Int)) = false) => ?_
              repeat' (first | refine And.intro ?_ ?_ | exact trivial | exact rfl)
              · exact hin1
              · exact hin2
              refine Exists.intro (XL.mk (i + 1) g2 L) (And.intro ⟨hi30, hg2, hD2, hL3⟩ (And.intro ?_ ?_))
              · repeat' (first | refine And.intro ?_ ?_ | exact trivial | exact rfl | exact fun (j : Nat) (hj : j < _) => sub_str _ _ _ _ | exact fun (j : Nat) (hj : j < _) => sub_ptl _ _ _ _ | exact fun (j : Nat) (hj : j < _) => sub_ad _ _ _ _ | exact same_ent2 (p := sub _ _ 20) (fun v => sub_pt _ _ v) | exact same_ent2 (p := sub _ _ 20) (fun v => And.intro rfl rfl) | exact same_ent (p := sub _ _ 20) (sub_pt _ _) | (refine same_ent (p := sub _ _ 20) ?_; exact fun v => And.intro rfl rfl) | exact fun (i : Nat) => same_in _ _ _ | exact fun (i : Nat) => same_rn _ _ _ _ _ | exact fun (i : Nat) => same_rr _ _ _ _ _ _ _ | exact fun (j : Nat) (hj : j < _) => sub_adAt _ _ 7 _ hj | exact fun (j : Nat) (hj : j < _) => sub_rn _ _ _ _ hj | fail)
              · show 31 - (i + 1) < 31 - i
                omega
        · refine fun (hd : decide ((i : Int) < (s.n : Int)) = !true) => ?_
          have hL3 : L.length ≤ 30 + (i + 1) := Nat.le_trans hL1 (by omega)
          have hLr : L.length ≤ 20000 := Nat.le_trans hL1 (by omega)
          have hdl : g1.d.length ≤ 20000 := by rw [← DG_len, hD1, List.length_map]; exact hLr
          repeat' (first | exact fun (h : pickB _ _ _ _ _ = !false) => absurd (chkA1.symm.trans h) (by decide) | (refine fun (_ : pickB _ _ _ _ _ = false) => ?_) | exact fun (h : decide ((i : Int) < (s.n : Int)) = true ∧ _) => absurd (h.1.symm.trans hd) (by decide) | exact fun (h : decide ((i : Int) < (s.n : Int)) = true) => absurd (h.symm.trans hd) (by decide) | (refine fun (_ : decide ((i : Int) < (s.n : Int)) = !true) => ?_) | exact hd | refine And.intro ?_ ?_ | exact trivial | exact rfl)
          · exact fun (h : pickB _ _ _ _ _ = true) => (no_tf' (chkR chkA1 rfl) h).elim
          repeat' (first | refine And.intro ?_ ?_ | exact trivial | exact rfl)
          · refine fun (hq : decide ((i : Int) < (q.n : Int)) = true) => ?_
            have hiq : (i : Int) < (q.n : Int) := of_decide_eq_true hq
            repeat' (first | exact hi0 | exact hiq | refine And.intro ?_ ?_ | exact trivial | exact rfl)
            refine Exists.intro (g1, (q.p ((i : Nat) : Int).toNat), most) (Exists.intro [0, 1, 2, 3] ?_)
            repeat' (first | exact hg1 | exact hdl | exact same_ent2 (p := sub _ _ 20) (fun v => sub_pt _ _ v) | exact same_ent2 (p := sub _ _ 20) (fun v => And.intro rfl rfl) | exact same_ent (p := sub _ _ 20) (sub_pt _ _) | (refine same_ent (p := sub _ _ 20) ?_; exact fun v => And.intro rfl rfl) | exact fun (i : Nat) => same_in _ _ _ | exact fun (i : Nat) => same_rn _ _ _ _ _ | exact fun (i : Nat) => same_rr _ _ _ _ _ _ _ | refine And.intro ?_ ?_ | exact trivial | exact rfl)
            refine near_gen hg1 hD1 (fun N k c hNM => ?_)
            have hNl : (N.length : Int) ≤ 9223372036854775806 := near_len hNM hLr
            repeat' (first | exact hi0 | exact hiq | refine And.intro ?_ ?_ | exact trivial | exact rfl)
            refine Exists.intro (L, (q.p ((i : Nat) : Int).toNat), most) (Exists.intro [4, 20] ?_)
            repeat' (first | exact hLr | exact fun (j : Nat) (hj : j < _) => sub_adAt _ _ 7 _ hj | refine And.intro ?_ ?_ | exact trivial | exact rfl)
            refine rnear_same hNM ?_
            repeat' (first | (refine fun (i : Nat) (_ : i < _) => ?_) | (refine fun (_ : guardP _ _ _ _) => ?_) | refine And.intro ?_ ?_ | exact trivial | exact rfl)
            · exact hNl
            · exact hNl
            · exact fun (h : pickB _ _ _ _ _ = true) => (no_tf' chkN h).elim
            refine fun (_ : pickB _ _ _ _ _ = false) => ?_
            repeat' (first | refine And.intro ?_ ?_ | exact trivial | exact rfl)
            · exact hin1
            · exact hin2
            refine Exists.intro (XL.mk (i + 1) g1 L) (And.intro ⟨hi30, hg1, hD1, hL3⟩ (And.intro ?_ ?_))
            · repeat' (first | refine And.intro ?_ ?_ | exact trivial | exact rfl | exact fun (j : Nat) (hj : j < _) => sub_str _ _ _ _ | exact fun (j : Nat) (hj : j < _) => sub_ptl _ _ _ _ | exact fun (j : Nat) (hj : j < _) => sub_ad _ _ _ _ | exact same_ent2 (p := sub _ _ 20) (fun v => sub_pt _ _ v) | exact same_ent2 (p := sub _ _ 20) (fun v => And.intro rfl rfl) | exact same_ent (p := sub _ _ 20) (sub_pt _ _) | (refine same_ent (p := sub _ _ 20) ?_; exact fun v => And.intro rfl rfl) | exact fun (i : Nat) => same_in _ _ _ | exact fun (i : Nat) => same_rn _ _ _ _ _ | exact fun (i : Nat) => same_rr _ _ _ _ _ _ _ | exact fun (j : Nat) (hj : j < _) => sub_adAt _ _ 7 _ hj | exact fun (j : Nat) (hj : j < _) => sub_rn _ _ _ _ hj | fail)
            · show 31 - (i + 1) < 31 - i
              omega
          · refine fun (_ : decide ((i : Int) < (q.n : Int)) = false) => ?_
            repeat' (first | refine And.intro ?_ ?_ | exact trivial | exact rfl)
            · exact hin1
            · exact hin2
            refine Exists.intro (XL.mk (i + 1) g1 L) (And.intro ⟨hi30, hg1, hD1, hL3⟩ (And.intro ?_ ?_))
            · repeat' (first | refine And.intro ?_ ?_ | exact trivial | exact rfl | exact fun (j : Nat) (hj : j < _) => sub_str _ _ _ _ | exact fun (j : Nat) (hj : j < _) => sub_ptl _ _ _ _ | exact fun (j : Nat) (hj : j < _) => sub_ad _ _ _ _ | exact same_ent2 (p := sub _ _ 20) (fun v => sub_pt _ _ v) | exact same_ent2 (p := sub _ _ 20) (fun v => And.intro rfl rfl) | exact same_ent (p := sub _ _ 20) (sub_pt _ _) | (refine same_ent (p := sub _ _ 20) ?_; exact fun v => And.intro rfl rfl) | exact fun (i : Nat) => same_in _ _ _ | exact fun (i : Nat) => same_rn _ _ _ _ _ | exact fun (i : Nat) => same_rr _ _ _ _ _ _ _ | exact fun (j : Nat) (hj : j < _) => sub_adAt _ _ 7 _ hj | exact fun (j : Nat) (hj : j < _) => sub_rn _ _ _ _ hj | fail)
            · show 31 - (i + 1) < 31 - i
              omega
    · refine fun (hm : decide ((i : Int) < (m.n : Int)) = !true) => ?_
      repeat' (first | exact fun (h : decide ((i : Int) < (m.n : Int)) = true) => absurd (h.symm.trans hm) (by decide) | (refine fun (_ : decide ((i : Int) < (m.n : Int)) = !true) => ?_) | exact hm | exact fun (h : decide ((i : Int) < (s.n : Int)) = true ∧ _) => idx_ok h.1 | exact fun (h : false = !false) => absurd h (by decide) | (refine fun (_ : false = false) => ?_) | refine And.intro ?_ ?_ | exact trivial | exact rfl)
      · refine fun (hd : decide ((i : Int) < (s.n : Int)) = true) => ?_
        have hLd : L.length ≤ 20000 := Nat.le_trans hL1 (by omega)
        by_cases h2 : codeD (L.map DA) (s.s ((i : Nat) : Int).toNat) = 0
        · refine Exists.intro (g, (s.s ((i : Nat) : Int).toNat)) (Exists.intro [0, 1, 2, 3] ?_)
          repeat' (first | exact hg | exact same_ent2 (p := sub _ _ 20) (fun v => sub_pt _ _ v) | exact same_ent2 (p := sub _ _ 20) (fun v => And.intro rfl rfl) | exact same_ent (p := sub _ _ 20) (sub_pt _ _) | (refine same_ent (p := sub _ _ 20) ?_; exact fun v => And.intro rfl rfl) | exact fun (i : Nat) => same_in _ _ _ | exact fun (i : Nat) => same_rn _ _ _ _ _ | exact fun (i : Nat) => same_rr _ _ _ _ _ _ _ | refine And.intro ?_ ?_ | exact trivial | exact rfl)
          refine drop0 hg hD h2 (fun g2 hg2 hD2 => ?_)
          have hL2 : (R13.dropL L (s.s ((i : Nat) : Int).toNat)).2.length ≤ 31 + i := Nat.le_trans dropL_len hL1
          have hL3 : (R13.dropL L (s.s ((i : Nat) : Int).toNat)).2.length ≤ 30 + (i + 1) := Nat.le_trans hL2 (by omega)
          have hLr : (R13.dropL L (s.s ((i : Nat) : Int).toNat)).2.length ≤ 20000 := Nat.le_trans hL2 (by omega)
          have hdl : g2.d.length ≤ 20000 := by rw [← DG_len, hD2, List.length_map]; exact hLr
          repeat' (first | exact fun (h : false = !false) => absurd h (by decide) | (refine fun (_ : false = false) => ?_) | exact fun (h : decide ((i : Int) < (s.n : Int)) = !true) => absurd (hd.symm.trans h) (by decide) | (refine fun (_ : decide ((i : Int) < (s.n : Int)) = true) => ?_) | refine And.intro ?_ ?_ | exact trivial | exact rfl)
          refine Exists.intro (L, (s.s ((i : Nat) : Int).toNat)) (Exists.intro [4, 20] ?_)
          repeat' (first | exact hLd | exact fun (j : Nat) (hj : j < _) => sub_adAt _ _ 7 _ hj | refine And.intro ?_ ?_ | exact trivial | exact rfl)
          refine rdrop0 h2 ?_
          repeat' (first | exact fun (h : false = !false) => absurd h (by decide) | (refine fun (_ : false = false) => ?_) | exact fun (h : decide ((i : Int) < (s.n : Int)) = !true) => absurd (hd.symm.trans h) (by decide) | (refine fun (_ : decide ((i : Int) < (s.n : Int)) = true) => ?_) | refine And.intro ?_ ?_ | exact trivial | exact rfl)
          · exact fun (h : pickB _ _ _ _ _ = true) => (no_tf' (chkR rfl chkA0) h).elim
          refine fun (_ : pickB _ _ _ _ _ = false) => ?_
          repeat' (first | refine And.intro ?_ ?_ | exact trivial | exact rfl)
          · refine fun (hq : decide ((i : Int) < (q.n : Int)) = true) => ?_
            have hiq : (i : Int) < (q.n : Int) := of_decide_eq_true hq
            repeat' (first | exact hi0 | exact hiq | refine And.intro ?_ ?_ | exact trivial | exact rfl)
            refine Exists.intro (g2, (q.p ((i : Nat) : Int).toNat), most) (Exists.intro [0, 1, 2, 3] ?_)
            repeat' (first | exact hg2 | exact hdl | exact same_ent2 (p := sub _ _ 20) (fun v => sub_pt _ _ v) | exact same_ent2 (p := sub _ _ 20) (fun v => And.intro rfl rfl) | exact same_ent (p := sub _ _ 20) (sub_pt _ _) | (refine same_ent (p := sub _ _ 20) ?_; exact fun v => And.intro rfl rfl) | exact fun (i : Nat) => same_in _ _ _ | exact fun (i : Nat) => same_rn _ _ _ _ _ | exact fun (i : Nat) => same_rr _ _ _ _ _ _ _ | refine And.intro ?_ ?_ | exact trivial | exact rfl)
            refine near_gen hg2 hD2 (fun N k c hNM => ?_)
            have hNl : (N.length : Int) ≤ 9223372036854775806 := near_len hNM hLr
            repeat' (first | exact hi0 | exact hiq | refine And.intro ?_ ?_ | exact trivial | exact rfl)
            refine Exists.intro ((R13.dropL L (s.s ((i : Nat) : Int).toNat)).2, (q.p ((i : Nat) : Int).toNat), most) (Exists.intro [4, 22] ?_)
            repeat' (first | exact hLr | exact fun (j : Nat) (hj : j < _) => sub_adAt _ _ 7 _ hj | refine And.intro ?_ ?_ | exact trivial | exact rfl)
            refine rnear_same hNM ?_
            repeat' (first | (refine fun (i : Nat) (_ : i < _) => ?_) | (refine fun (_ : guardP _ _ _ _) => ?_) | refine And.intro ?_ ?_ | exact trivial | exact rfl)
            · exact hNl
            · exact hNl
            · exact fun (h : pickB _ _ _ _ _ = true) => (no_tf' chkN h).elim
            refine fun (_ : pickB _ _ _ _ _ = false) => ?_
            repeat' (first | refine And.intro ?_ ?_ | exact trivial | exact rfl)
            · exact hin1
            · exact hin2
            refine Exists.intro (XL.mk (i + 1) g2 (R13.dropL L (s.s ((i : Nat) : Int).toNat)).2) (And.intro ⟨hi30, hg2, hD2, hL3⟩ (And.intro ?_ ?_))
            · repeat' (first | refine And.intro ?_ ?_ | exact trivial | exact rfl | exact fun (j : Nat) (hj : j < _) => sub_str _ _ _ _ | exact fun (j : Nat) (hj : j < _) => sub_ptl _ _ _ _ | exact fun (j : Nat) (hj : j < _) => sub_ad _ _ _ _ | exact same_ent2 (p := sub _ _ 20) (fun v => sub_pt _ _ v) | exact same_ent2 (p := sub _ _ 20) (fun v => And.intro rfl rfl) | exact same_ent (p := sub _ _ 20) (sub_pt _ _) | (refine same_ent (p := sub _ _ 20) ?_; exact fun v => And.intro rfl rfl) | exact fun (i : Nat) => same_in _ _ _ | exact fun (i : Nat) => same_rn _ _ _ _ _ | exact fun (i : Nat) => same_rr _ _ _ _ _ _ _ | exact fun (j : Nat) (hj : j < _) => sub_adAt _ _ 7 _ hj | exact fun (j : Nat) (hj : j < _) => sub_rn _ _ _ _ hj | fail)
            · show 31 - (i + 1) < 31 - i
              omega
          · refine fun (_ : decide ((i : Int) < (q.n : Int)) = false) => ?_
            repeat' (first | refine And.intro ?_ ?_ | exact trivial | exact rfl)
            · exact hin1
            · exact hin2
            refine Exists.intro (XL.mk (i + 1) g2 (R13.dropL L (s.s ((i : Nat) : Int).toNat)).2) (And.intro ⟨hi30, hg2, hD2, hL3⟩ (And.intro ?_ ?_))
            · repeat' (first | refine And.intro ?_ ?_ | exact trivial | exact rfl | exact fun (j : Nat) (hj : j < _) => sub_str _ _ _ _ | exact fun (j : Nat) (hj : j < _) => sub_ptl _ _ _ _ | exact fun (j : Nat) (hj : j < _) => sub_ad _ _ _ _ | exact same_ent2 (p := sub _ _ 20) (fun v => sub_pt _ _ v) | exact same_ent2 (p := sub _ _ 20) (fun v => And.intro rfl rfl) | exact same_ent (p := sub _ _ 20) (sub_pt _ _) | (refine same_ent (p := sub _ _ 20) ?_; exact fun v => And.intro rfl rfl) | exact fun (i : Nat) => same_in _ _ _ | exact fun (i : Nat) => same_rn _ _ _ _ _ | exact fun (i : Nat) => same_rr _ _ _ _ _ _ _ | exact fun (j : Nat) (hj : j < _) => sub_adAt _ _ 7 _ hj | exact fun (j : Nat) (hj : j < _) => sub_rn _ _ _ _ hj | fail)
            · show 31 - (i + 1) < 31 - i
              omega
        · refine Exists.intro (g, (s.s ((i : Nat) : Int).toNat)) (Exists.intro [0, 1, 2, 3] ?_)
          repeat' (first | exact hg | exact same_ent2 (p := sub _ _ 20) (fun v => sub_pt _ _ v) | exact same_ent2 (p := sub _ _ 20) (fun v => And.intro rfl rfl) | exact same_ent (p := sub _ _ 20) (sub_pt _ _) | (refine same_ent (p := sub _ _ 20) ?_; exact fun v => And.intro rfl rfl) | exact fun (i : Nat) => same_in _ _ _ | exact fun (i : Nat) => same_rn _ _ _ _ _ | exact fun (i : Nat) => same_rr _ _ _ _ _ _ _ | refine And.intro ?_ ?_ | exact trivial | exact rfl)
          refine drop1 hg hD h2 (fun g2 hg2 hD2 => ?_)
          have hL2 := hL1
          have hL3 : L.length ≤ 30 + (i + 1) := Nat.le_trans hL2 (by omega)
          have hLr : L.length ≤ 20000 := Nat.le_trans hL2 (by omega)
          have hdl : g2.d.length ≤ 20000 := by rw [← DG_len, hD2, List.length_map]; exact hLr
          repeat' (first | exact fun (h : false = !false) => absurd h (by decide) | (refine fun (_ : false = false) => ?_) | exact fun (h : decide ((i : Int) < (s.n : Int)) = !true) => absurd (hd.symm.trans h) (by decide) | (refine fun (_ : decide ((i : Int) < (s.n : Int)) = true) => ?_) | refine And.intro ?_ ?_ | exact trivial | exact rfl)
          refine Exists.intro (L, (s.s ((i : Nat) : Int).toNat)) (Exists.intro [4, 20] ?_)
          repeat' (first | exact hLd | exact fun (j : Nat) (hj : j < _) => sub_adAt _ _ 7 _ hj | refine And.intro ?_ ?_ | exact trivial | exact rfl)
          refine rdrop1 h2 ?_
          repeat' (first | exact fun (h : false = !false) => absurd h (by decide) | (refine fun (_ : false = false) => ?_) | exact fun (h : decide ((i : Int) < (s.n : Int)) = !true) => absurd (hd.symm.trans h) (by decide) | (refine fun (_ : decide ((i : Int) < (s.n : Int)) = true) => ?_) | refine And.intro ?_ ?_ | exact trivial | exact rfl)
          · exact fun (h : pickB _ _ _ _ _ = true) => (no_tf' (chkR rfl chkA1) h).elim
          refine fun (_ : pickB _ _ _ _ _ = false) => ?_
          repeat' (first | refine And.intro ?_ ?_ | exact trivial | exact rfl)
          · refine fun (hq : decide ((i : Int) < (q.n : Int)) = true) => ?_
            have hiq : (i : Int) < (q.n : Int) := of_decide_eq_true hq
            repeat' (first | exact hi0 | exact hiq | refine And.intro ?_ ?_ | exact trivial | exact rfl)
            refine Exists.intro (g2, (q.p ((i : Nat) : Int).toNat), most) (Exists.intro [0, 1, 2, 3] ?_)
            repeat' (first | exact hg2 | exact hdl | exact same_ent2 (p := sub _ _ 20) (fun v => sub_pt _ _ v) | exact same_ent2 (p := sub _ _ 20) (fun v => And.intro rfl rfl) | exact same_ent (p := sub _ _ 20) (sub_pt _ _) | (refine same_ent (p := sub _ _ 20) ?_; exact fun v => And.intro rfl rfl) | exact fun (i : Nat) => same_in _ _ _ | exact fun (i : Nat) => same_rn _ _ _ _ _ | exact fun (i : Nat) => same_rr _ _ _ _ _ _ _ | refine And.intro ?_ ?_ | exact trivial | exact rfl)
            refine near_gen hg2 hD2 (fun N k c hNM => ?_)
            have hNl : (N.length : Int) ≤ 9223372036854775806 := near_len hNM hLr
            repeat' (first | exact hi0 | exact hiq | refine And.intro ?_ ?_ | exact trivial | exact rfl)
            refine Exists.intro (L, (q.p ((i : Nat) : Int).toNat), most) (Exists.intro [4, 20] ?_)
            repeat' (first | exact hLr | exact fun (j : Nat) (hj : j < _) => sub_adAt _ _ 7 _ hj | refine And.intro ?_ ?_ | exact trivial | exact rfl)
            refine rnear_same hNM ?_
            repeat' (first | (refine fun (i : Nat) (_ : i < _) => ?_) | (refine fun (_ : guardP _ _ _ _) => ?_) | refine And.intro ?_ ?_ | exact trivial | exact rfl)
            · exact hNl
            · exact hNl
            · exact fun (h : pickB _ _ _ _ _ = true) => (no_tf' chkN h).elim
            refine fun (_ : pickB _ _ _ _ _ = false) => ?_
            repeat' (first | refine And.intro ?_ ?_ | exact trivial | exact rfl)
            · exact hin1
            · exact hin2
            refine Exists.intro (XL.mk (i + 1) g2 L) (And.intro ⟨hi30, hg2, hD2, hL3⟩ (And.intro ?_ ?_))
            · repeat' (first | refine And.intro ?_ ?_ | exact trivial | exact rfl | exact fun (j : Nat) (hj : j < _) => sub_str _ _ _ _ | exact fun (j : Nat) (hj : j < _) => sub_ptl _ _ _ _ | exact fun (j : Nat) (hj : j < _) => sub_ad _ _ _ _ | exact same_ent2 (p := sub _ _ 20) (fun v => sub_pt _ _ v) | exact same_ent2 (p := sub _ _ 20) (fun v => And.intro rfl rfl) | exact same_ent (p := sub _ _ 20) (sub_pt _ _) | (refine same_ent (p := sub _ _ 20) ?_; exact fun v => And.intro rfl rfl) | exact fun (i : Nat) => same_in _ _ _ | exact fun (i : Nat) => same_rn _ _ _ _ _ | exact fun (i : Nat) => same_rr _ _ _ _ _ _ _ | exact fun (j : Nat) (hj : j < _) => sub_adAt _ _ 7 _ hj | exact fun (j : Nat) (hj : j < _) => sub_rn _ _ _ _ hj | fail)
            · show 31 - (i + 1) < 31 - i
              omega
          · refine fun (_ : decide ((i : Int) < (q.n : Int)) = false) => ?_
            repeat' (first | refine And.intro ?_ ?_ | exact trivial | exact rfl)
            · exact hin1
            · exact hin2
            refine Exists.intro (XL.mk (i + 1) g2 L) (And.intro ⟨hi30, hg2, hD2, hL3⟩ (And.intro ?_ ?_))
            · repeat' (first | refine And.intro ?_ ?_ | exact trivial | exact rfl | exact fun (j : Nat) (hj : j < _) => sub_str _ _ _ _ | exact fun (j : Nat) (hj : j < _) => sub_ptl _ _ _ _ | exact fun (j : Nat) (hj : j < _) => sub_ad _ _ _ _ | exact same_ent2 (p := sub _ _ 20) (fun v => sub_pt _ _ v) | exact same_ent2 (p := sub _ _ 20) (fun v => And.intro rfl rfl) | exact same_ent (p := sub _ _ 20) (sub_pt _ _) | (refine same_ent (p := sub _ _ 20) ?_; exact fun v => And.intro rfl rfl) | exact fun (i : Nat) => same_in _ _ _ | exact fun (i : Nat) => same_rn _ _ _ _ _ | exact fun (i : Nat) => same_rr _ _ _ _ _ _ _ | exact fun (j : Nat) (hj : j < _) => sub_adAt _ _ 7 _ hj | exact fun (j : Nat) (hj : j < _) => sub_rn _ _ _ _ hj | fail)
            · show 31 - (i + 1) < 31 - i
              omega
      · refine fun (hd : decide ((i : Int) < (s.n : Int)) = !true) => ?_
        have hL3 : L.length ≤ 30 + (i + 1) := Nat.le_trans hL1 (by omega)
        have hLr : L.length ≤ 20000 := Nat.le_trans hL1 (by omega)
        have hdl : g.d.length ≤ 20000 := by rw [← DG_len, hD, List.length_map]; exact hLr
        repeat' (first | exact fun (h : false = !false) => absurd h (by decide) | (refine fun (_ : false = false) => ?_) | exact fun (h : decide ((i : Int) < (s.n : Int)) = true ∧ _) => absurd (h.1.symm.trans hd) (by decide) | exact fun (h : decide ((i : Int) < (s.n : Int)) = true) => absurd (h.symm.trans hd) (by decide) | (refine fun (_ : decide ((i : Int) < (s.n : Int)) = !true) => ?_) | exact hd | refine And.intro ?_ ?_ | exact trivial | exact rfl)
        · refine fun (hq : decide ((i : Int) < (q.n : Int)) = true) => ?_
          have hiq : (i : Int) < (q.n : Int) := of_decide_eq_true hq
          repeat' (first | exact hi0 | exact hiq | refine And.intro ?_ ?_ | exact trivial | exact rfl)
          refine Exists.intro (g, (q.p ((i : Nat) : Int).toNat), most) (Exists.intro [0, 1, 2, 3] ?_)
          repeat' (first | exact hg | exact hdl | exact same_ent2 (p := sub _ _ 20) (fun v => sub_pt _ _ v) | exact same_ent2 (p := sub _ _ 20) (fun v => And.intro rfl rfl) | exact same_ent (p := sub _ _ 20) (sub_pt _ _) | (refine same_ent (p := sub _ _ 20) ?_; exact fun v => And.intro rfl rfl) | exact fun (i : Nat) => same_in _ _ _ | exact fun (i : Nat) => same_rn _ _ _ _ _ | exact fun (i : Nat) => same_rr _ _ _ _ _ _ _ | refine And.intro ?_ ?_ | exact trivial | exact rfl)
          refine near_gen hg hD (fun N k c hNM => ?_)
          have hNl : (N.length : Int) ≤ 9223372036854775806 := near_len hNM hLr
          repeat' (first | exact hi0 | exact hiq | refine And.intro ?_ ?_ | exact trivial | exact rfl)
          refine Exists.intro (L, (q.p ((i : Nat) : Int).toNat), most) (Exists.intro [4, 20] ?_)
          repeat' (first | exact hLr | exact fun (j : Nat) (hj : j < _) => sub_adAt _ _ 7 _ hj | refine And.intro ?_ ?_ | exact trivial | exact rfl)
          refine rnear_same hNM ?_
          repeat' (first | (refine fun (i : Nat) (_ : i < _) => ?_) | (refine fun (_ : guardP _ _ _ _) => ?_) | refine And.intro ?_ ?_ | exact trivial | exact rfl)
          · exact hNl
          · exact hNl
          · exact fun (h : pickB _ _ _ _ _ = true) => (no_tf' chkN h).elim
          refine fun (_ : pickB _ _ _ _ _ = false) => ?_
          repeat' (first | refine And.intro ?_ ?_ | exact trivial | exact rfl)
          · exact hin1
          · exact hin2
          refine Exists.intro (XL.mk (i + 1) g L) (And.intro ⟨hi30, hg, hD, hL3⟩ (And.intro ?_ ?_))
          · repeat' (first | refine And.intro ?_ ?_ | exact trivial | exact rfl | exact fun (j : Nat) (hj : j < _) => sub_str _ _ _ _ | exact fun (j : Nat) (hj : j < _) => sub_ptl _ _ _ _ | exact fun (j : Nat) (hj : j < _) => sub_ad _ _ _ _ | exact same_ent2 (p := sub _ _ 20) (fun v => sub_pt _ _ v) | exact same_ent2 (p := sub _ _ 20) (fun v => And.intro rfl rfl) | exact same_ent (p := sub _ _ 20) (sub_pt _ _) | (refine same_ent (p := sub _ _ 20) ?_; exact fun v => And.intro rfl rfl) | exact fun (i : Nat) => same_in _ _ _ | exact fun (i : Nat) => same_rn _ _ _ _ _ | exact fun (i : Nat) => same_rr _ _ _ _ _ _ _ | exact fun (j : Nat) (hj : j < _) => sub_adAt _ _ 7 _ hj | exact fun (j : Nat) (hj : j < _) => sub_rn _ _ _ _ hj | fail)
          · show 31 - (i + 1) < 31 - i
            omega
        · refine fun (_ : decide ((i : Int) < (q.n : Int)) = false) => ?_
          repeat' (first | refine And.intro ?_ ?_ | exact trivial | exact rfl)
          · exact hin1
          · exact hin2
          refine Exists.intro (XL.mk (i + 1) g L) (And.intro ⟨hi30, hg, hD, hL3⟩ (And.intro ?_ ?_))
          · repeat' (first | refine And.intro ?_ ?_ | exact trivial | exact rfl | exact fun (j : Nat) (hj : j < _) => sub_str _ _ _ _ | exact fun (j : Nat) (hj : j < _) => sub_ptl _ _ _ _ | exact fun (j : Nat) (hj : j < _) => sub_ad _ _ _ _ | exact same_ent2 (p := sub _ _ 20) (fun v => sub_pt _ _ v) | exact same_ent2 (p := sub _ _ 20) (fun v => And.intro rfl rfl) | exact same_ent (p := sub _ _ 20) (sub_pt _ _) | (refine same_ent (p := sub _ _ 20) ?_; exact fun v => And.intro rfl rfl) | exact fun (i : Nat) => same_in _ _ _ | exact fun (i : Nat) => same_rn _ _ _ _ _ | exact fun (i : Nat) => same_rr _ _ _ _ _ _ _ | exact fun (j : Nat) (hj : j < _) => sub_adAt _ _ 7 _ hj | exact fun (j : Nat) (hj : j < _) => sub_rn _ _ _ _ hj | fail)
          · show 31 - (i + 1) < 31 - i
            omega
  · refine fun (_ : pickB _ _ _ _ _ = false) => ?_
    repeat' (first | refine And.intro ?_ ?_ | exact trivial | exact rfl)
end R26
