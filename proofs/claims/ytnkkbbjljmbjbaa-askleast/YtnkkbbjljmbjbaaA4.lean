/- A part of the proof: see the last text. -/
import Derived.Test.YtnkkbbjljmbjbaaA3
open Go Go.Eng Go.Proofs A0 A1 A2 A3
set_option maxRecDepth 100000
namespace A4
abbrev IL := List (MKey × Bool × Nat)
def boD : SV → Option Bool
  | .bool b => some b
  | _ => none
def keyS : MKey → List UInt8
  | .s b => b
  | _ => []
def keysOf (l : IL) : List (List UInt8) := l.map fun x => keyS x.1
structure MOk (l : IL) (c : Nat) : Prop where
  t : ∀ x ∈ l, x.2.2 < c
  nt : (l.map (·.2.2)).Nodup
  nk : (l.map (·.1)).Nodup
  s : ∀ x ∈ l, ∃ s, x.1 = .s s
structure XM where
  l : IL
  c : Nat
def mapO (x : XM) : HObj := .map Bool .s x.l x.c SV.bool boD
/-- maps.Keys[map[string]bool,string,bool] -/
def g28 : List Nat := [0, 1, 2]
def c28 : SCode :=
  .seq (.region g28 [⟨some 1, none, .box 59 (.s 0), []⟩, ⟨some 2, none, .move (.c (.nilfn)), []⟩]) (.seq (.region g28 [⟨some 3, none, .mkfn 31 [.s 1], []⟩, ⟨some 2, none, .move (.s 3), []⟩]) .ret)
def r28 : List SRes := [.slot 2]
def k28 : List (Nat × Nat × SCode × Nat) := []
theorem e28 : cFunc Try.prog 28 g28 [] [] k28 = some (c28, r28, 4) := by kernel_rfl
theorem q28 : RgOk Try.prog k28 := RgOk.nil
def Keys : Eng.MSpec where
  X := XM
  Y := Unit
  args := fun _ => .cons (.mref 0) .nil
  pre := fun _ => True
  h0 := fun x => [(0, mapO x)]
  nx0 := 1
  post := fun _ _ => True
  res := fun _ _ => .fn 31 (.cons (.own 1 0) .nil)
  h1 := fun x _ => [(0, mapO x), (1, .cells 59 (.cons (.mref 0) .nil))]
  nx1 := 2
theorem Keys_ok : Keys.Ok Try.prog 28 := by
  refine Eng.MSpec.ok_of e28 q28 (fun _ => []) (fun _ _ => TabOk.nil) ?_
  rintro ⟨l, c⟩ _
  refine ⟨trivial, ?_⟩
  repeat' (first | refine And.intro ?_ ?_ | exact trivial | exact rfl | exact same_ent2 (p := sub _ _ 200) (fun v => rfl))
  refine Exists.intro () (And.intro trivial ?_)
  repeat' (first | refine And.intro ?_ ?_ | exact trivial | exact rfl | exact same_ent2 (p := sub _ _ 200) (fun v => rfl))
/-- maps.Keys[map[string]bool,string,bool]$1 -/
def g31 : List Nat := [1, 7, 5, 0, 3, 13]
def c31 : SCode :=
  .seq (.region g31 [⟨some 4, none, .load 1 false (.s 1), []⟩, ⟨some 5, none, .mrange (.s 4), []⟩]) (.block 0 (.loop 0 [6, 7, 8, 9, 3, 10, 11, 12, 13] (.seq (.region g31 [⟨some 6, none, .mnext (.s 5), []⟩, ⟨some 7, none, .extract 0 (.s 6), []⟩]) (.seq (.cond (.s 7) .skip (.exit 0)) (.block 1 (.seq (.region g31 [⟨some 8, none, .mentry (.s 5), []⟩, ⟨some 9, none, .extract 0 (.s 8), []⟩, ⟨some 3, none, .move (.s 9), []⟩]) (.seq (.region g31 [⟨some 10, none, .move (.s 0), []⟩, ⟨some 11, none, .move (.s 3), []⟩, ⟨some 12, none, .call (.s 10) [.s 11], []⟩, ⟨some 13, none, .not (.s 12), []⟩]) (.cond (.s 13) .ret .skip))))))))
def r31 : List SRes := []
def k31 : List (Nat × Nat × SCode × Nat) := []
theorem e31 : cFunc Try.prog 31 g31 [] [] k31 = some (c31, r31, 14) := by kernel_rfl
theorem q31 : RgOk Try.prog k31 := RgOk.nil
/-- slices.AppendSeq[[]string,string] -/
def g32 : List Nat := [0, 1, 6, 7, 5, 2, 4]
def c32 : SCode :=
  .seq (.region g32 [⟨some 2, none, .box 25 (.s 0), []⟩, ⟨some 4, none, .move (.c (.nilsl)), []⟩]) (.seq (.seq (.region g32 [⟨some 6, none, .move (.s 1), []⟩]) (.block 0 (.range 0 (.s 6) 31 (c31) 14 [7] (.region g32 [⟨some 5, none, .move (.s 7), []⟩]) (.block 1 (.region g32 [⟨some 8, none, .load 1 false (.s 2), []⟩, ⟨some 9, none, .move (.s 5), []⟩, ⟨some 10, none, .buildSl 9 1 1 (.cons (.str []) .nil) [(0, 1, .s 9)], []⟩, ⟨some 11, none, .app 9 1 16 (.s 8) (.s 10), []⟩, ⟨none, none, .store 1 (.s 2) (.s 11), []⟩]))))) (.seq (.region g32 [⟨some 12, none, .load 1 false (.s 2), []⟩, ⟨some 4, none, .move (.s 12), []⟩]) .ret))
def r32 : List SRes := [.slot 4]
def k32 : List (Nat × Nat × SCode × Nat) := [(0, 31, c31, 14)]
theorem e32 : cFunc Try.prog 32 g32 [] [] k32 = some (c32, r32, 13) := by kernel_rfl
theorem q32 : RgOk Try.prog k32 := RgOk.cons (RgOk.nil) q31 e31
/-- The texts that are seen. -/
def FSn (l : IL) (seen : List Nat) (L : List (List UInt8)) : Prop := L.Perm (keysOf (l.filter fun x => memN seen x.2.2)) ∧ ∀ t ∈ seen, ∃ x ∈ l, x.2.2 = t
theorem fs_start (l : IL) : FSn l [] [] := by
  refine ⟨?_, fun t h => by cases h⟩
  have : (l.filter fun x => memN [] x.2.2) = [] := List.filter_eq_nil_iff.2 fun x _ => by simp [memN]
  rw [this]
  exact List.Perm.refl _
theorem fs_len {l : IL} {seen : List Nat} {L : List (List UInt8)} (h : FSn l seen L) : L.length ≤ l.length := by
  rw [h.1.length_eq]
  unfold keysOf
  rw [List.length_map]
  exact List.length_filter_le _ _
theorem fs_step {l : IL} {c : Nat} (hm : MOk l c) {seen : List Nat} {L : List (List UInt8)} (h : FSn l seen L) {s : List UInt8} {b : Bool} {t : Nat} (hy : (MKey.s s, b, t) ∈ l) (hs : t ∉ seen) : FSn l (seen ++ [t]) (L ++ [s]) := by
  refine ⟨?_, fun u hu => ?_⟩
  · have key : ∀ {l : IL}, (l.map (·.2.2)).Nodup → (MKey.s s, b, t) ∈ l → (keysOf (l.filter fun x => memN (seen ++ [t]) x.2.2)).Perm (s :: keysOf (l.filter fun x => memN seen x.2.2)) := by
      intro l
      induction l with
      | nil => intro _ h; cases h
      | cons x r ih =>
        intro hn hm
        simp only [List.map_cons, List.nodup_cons] at hn
        have hmem : ∀ z : Nat, memN (seen ++ [t]) z = (memN seen z || decide (z = t)) := by
          intro z
          rw [Bool.eq_iff_iff, Bool.or_eq_true, memN_iff, memN_iff, decide_eq_true_eq, List.mem_append, List.mem_singleton]
        have hst : memN seen t = false := by
          cases h : memN seen t with
          | true => exact absurd (memN_iff.1 h) hs
          | false => rfl
        rcases List.mem_cons.1 hm with e | e
        · subst e
          have hr : (r.filter fun x => memN (seen ++ [t]) x.2.2) = r.filter fun x => memN seen x.2.2 := by
            refine List.filter_congr fun z hz => ?_
            rw [hmem]
            have : z.2.2 ≠ t := fun e => hn.1 (List.mem_map.2 ⟨z, hz, e⟩)
            simp [this]
          rw [List.filter_cons_of_pos (by simp [hmem]), List.filter_cons_of_neg (by simp [hst]), hr]
          exact List.Perm.refl _
        · have hxt : x.2.2 ≠ t := fun e' => hn.1 (List.mem_map.2 ⟨_, e, e'.symm⟩)
          cases hx : memN seen x.2.2 with
          | true =>
            rw [List.filter_cons_of_pos (by simp [hmem, hx]), List.filter_cons_of_pos (by simp [hx])]
            exact ((ih hn.2 e).cons (keyS x.1)).trans (List.Perm.swap _ _ _)
          | false =>
            rw [List.filter_cons_of_neg (by simp [hmem, hx, hxt]), List.filter_cons_of_neg (by simp [hx])]
            exact ih hn.2 e
    refine List.Perm.trans ?_ (key hm.nt hy).symm
    exact (List.perm_append_comm (l₁ := L) (l₂ := [s])).trans (h.1.cons s)
  · rcases List.mem_append.1 hu with hu | hu
    · exact h.2 u hu
    · exact ⟨_, hy, (List.mem_singleton.1 hu).symm⟩
theorem fs_done {l : IL} {seen : List Nat} {L : List (List UInt8)} (h : FSn l seen L) (hall : ∀ x ∈ l, x.2.2 ∈ seen) : L.Perm (keysOf l) := by
  have : (l.filter fun x => memN seen x.2.2) = l := List.filter_eq_self.2 fun x hx => memN_iff.2 (hall x hx)
  rw [← this]
  exact h.1
theorem all_k {l : IL} {c : Nat} (hm : MOk l c) {seen : List Nat} {Q : MKey × Bool × Nat → Prop} (h : ∀ s b t, (MKey.s s, b, t) ∈ l → t ∉ seen → Q (MKey.s s, b, t)) : ∀ y ∈ l, y.2.2 ∉ seen → Q y := by
  rintro ⟨ky, b, t⟩ hy hs
  obtain ⟨s, hks⟩ := hm.s _ hy
  replace hks : ky = .s s := hks
  subst hks
  exact h s b t hy hs
structure XS where
  seen : List Nat
  L : List (List UInt8)
def AppSeq : Eng.MSpec where
  X := XM
  Y := List (List UInt8)
  args := fun _ => .cons .nilsl (.cons (.fn 31 (.cons (.own 1 0) .nil)) .nil)
  pre := fun x => MOk x.l x.c ∧ x.l.length ≤ 20000
  h0 := fun x => [(0, mapO x), (1, .cells 59 (.cons (.mref 0) .nil))]
  nx0 := 2
  post := fun x y => y.Perm (keysOf x.l)
  res := fun _ y => .lsl 2 1 y.length
  h1 := fun x y => [(0, mapO x), (1, .cells 59 (.cons (.mref 0) .nil)), (2, .arr 9 1 y.length (lc strN [] y))]
  nx1 := 3
theorem roomA {n d : Nat} (h : n ≤ d) (hd : d ≤ 20000) : n + 1 ≤ 9223372036854775807 := by omega
theorem roomB {n d : Nat} (h : n ≤ d) (hd : d ≤ 20000) : (n + 1) * 16 ≤ 140737488355328 := by omega
theorem AppSeq_ok : AppSeq.Ok Try.prog 32 := by
  refine Eng.MSpec.ok_of e32 q32 (fun _ => []) (fun _ _ => TabOk.nil) ?_
  rintro ⟨l, c⟩ ⟨hm, hl⟩
  replace hm : MOk l c := hm
  replace hl : l.length ≤ 20000 := hl
  refine ⟨trivial, ?_⟩
  repeat' (first | refine And.intro ?_ ?_ | exact trivial | exact rfl | exact same_ent2 (p := sub _ _ 200) (fun v => rfl))
  refine ⟨⟨XS, fun x => FSn l x.seen x.L, fun _ => [(5, .own 60 0)], fun x => [(60, .iter (.mref 0) c x.seen c), (2, .cells 25 (.cons (.lsl 40 1 x.L.length) .nil)), (40, .arr 9 1 x.L.length (lc strN [] x.L))], fun x => left l x.seen⟩, ⟨[], []⟩, fs_start l, ?_, ?_⟩
  · repeat' (first | refine And.intro ?_ ?_ | exact trivial | exact rfl | exact same_ent2 (p := sub _ _ 200) (fun v => rfl) | exact sub_lc (fun a => sub_strN _ _ _ a) | exact sub_lc0 (fun a => sub_strN _ _ _ a))
  rintro ⟨seen, L⟩ hF
  replace hF : FSn l seen L := hF
  have hlen := fs_len hF
  repeat' (first | refine And.intro ?_ ?_ | exact trivial | exact rfl)
  · exact hm.t
  · exact Nat.le_refl _
  · refine all_k hm (fun s b t hy hns => ?_)
    have hF2 := fs_step hm hF hy hns
    repeat' (first | refine And.intro ?_ ?_ | exact trivial | exact rfl | (refine fun (hb : true = true) => ?_) | (refine fun (hb : true = false) => absurd hb (by decide)))
    refine Exists.intro _ (And.intro hy (And.intro (fun z hz hzt => nodup_tick hm.nt hz hy hzt) (And.intro ⟨_, rfl⟩ ?_)))
    repeat' (first | refine And.intro ?_ ?_ | exact trivial | exact rfl | (refine fun (hb : true = true) => ?_) | (refine fun (hb : true = false) => absurd hb (by decide)) | exact roomA hlen hl | exact roomB hlen hl)
    · exact fun (hb : (!true) = true) => absurd hb (by decide)
    refine fun (_ : (!true) = false) => ?_
    repeat' (first | refine And.intro ?_ ?_ | exact trivial | exact rfl)
    refine Exists.intro (XS.mk (seen ++ [t]) (L ++ [s])) (And.intro hF2 (And.intro ?_ ?_))
    · repeat' (first | refine And.intro ?_ ?_ | exact trivial | exact rfl | exact same_ent2 (p := sub _ _ 200) (fun v => rfl) | exact len_app | exact sub_app (fun a => sub_strN _ _ _ a) rfl rfl | fail)
    · exact left_step hy hns
  · intro hall
    repeat' (first | refine And.intro ?_ ?_ | exact trivial | exact rfl | (refine fun (hb : false = true) => absurd hb (by decide)) | (refine fun (hb : false = false) => ?_))
    refine Exists.intro L (And.intro (fs_done hF hall) ?_)
    repeat' (first | refine And.intro ?_ ?_ | exact trivial | exact rfl | exact same_ent2 (p := sub _ _ 200) (fun v => rfl) | exact sub_lc (fun a => sub_strN _ _ _ a) | exact sub_lc0 (fun a => sub_strN _ _ _ a) | fail)
/-- slices.Collect[string] -/
def g29 : List Nat := [0, 2]
def c29 : SCode :=
  .seq (.region g29 [⟨some 2, none, .move (.c (.nilsl)), []⟩]) (.seq (.region g29 [⟨some 3, none, .move (.s 0), []⟩, ⟨some 4, none, .call (.c (.fn 32)) [.c (.nilsl), .s 3], []⟩, ⟨some 2, none, .move (.s 4), []⟩]) .ret)
def r29 : List SRes := [.slot 2]
def k29 : List (Nat × Nat × SCode × Nat) := []
theorem e29 : cFunc Try.prog 29 g29 [] [] k29 = some (c29, r29, 5) := by kernel_rfl
theorem q29 : RgOk Try.prog k29 := RgOk.nil
def Collect : Eng.MSpec where
  X := XM
  Y := List (List UInt8)
  args := fun _ => .cons (.fn 31 (.cons (.own 1 0) .nil)) .nil
  pre := fun x => MOk x.l x.c ∧ x.l.length ≤ 20000
  h0 := fun x => [(0, mapO x), (1, .cells 59 (.cons (.mref 0) .nil))]
  nx0 := 2
  post := fun x y => y.Perm (keysOf x.l)
  res := fun _ y => .lsl 2 1 y.length
  h1 := fun x y => [(0, mapO x), (1, .cells 59 (.cons (.mref 0) .nil)), (2, .arr 9 1 y.length (lc strN [] y))]
  nx1 := 3
theorem Collect_ok : Collect.Ok Try.prog 29 := by
  refine Eng.MSpec.ok_of e29 q29 (fun _ => [(32, .m AppSeq)]) (fun _ _ => TabOk.m AppSeq_ok TabOk.nil) ?_
  rintro ⟨l, c⟩ ⟨hm, hl⟩
  replace hm : MOk l c := hm
  replace hl : l.length ≤ 20000 := hl
  refine ⟨trivial, ?_⟩
  repeat' (first | refine And.intro ?_ ?_ | exact trivial | exact rfl | exact same_ent2 (p := sub _ _ 200) (fun v => rfl))
  refine Exists.intro ⟨l, c⟩ (Exists.intro [0, 1] ?_)
  repeat' (first | exact hm | exact hl | refine And.intro ?_ ?_ | exact trivial | exact rfl | exact same_ent2 (p := sub _ _ 200) (fun v => rfl))
  refine fun (y : List (List UInt8)) (hy : y.Perm (keysOf l)) => ?_
  repeat' (first | refine And.intro ?_ ?_ | exact trivial | exact rfl | exact same_ent2 (p := sub _ _ 200) (fun v => rfl))
  refine Exists.intro y (And.intro hy ?_)
  repeat' (first | refine And.intro ?_ ?_ | exact trivial | exact rfl | exact same_ent2 (p := sub _ _ 200) (fun v => rfl) | exact sub_lc (fun a => sub_strN _ _ _ a) | exact sub_lc0 (fun a => sub_strN _ _ _ a))
end A4
