/- A part of the proof. -/
import Derived.Test.YtijddkljgihcnaaGreatDoorS27
open Go Go.Eng Go.Proofs G1 G2 G3 G4 G6 G7 EV0 F1 F2 F6 L10 S1 S10 S14 S19 S21 S22 S23 S24 S25 S26 S27
set_option maxRecDepth 100000
namespace S28
theorem Li {l:Sq Rn}:∀ {k:Nat} {a:Ar},a∈arF l k->∃ i,i < k/\a=⟨(l.f i).id,(l.f i).kind,(l.f i).ring⟩:=by
 intro k
 induction k with
 | zero=>intro a h; simp [arF] at h
 | succ k ih =>
  intro a h
  simp only [arF] at h
  split at h
  ·rcases List.mem_append.1 h with h|h
   ·obtain ⟨i,h1,h2⟩:=ih h; exact ⟨i,by omega,h2⟩
   ·exact ⟨k,by omega,List.mem_singleton.1 h⟩
  ·obtain ⟨i,h1,h2⟩:=ih h; exact ⟨i,by omega,h2⟩
theorem Lm {s:Sta} (h:okS s.regions okR):(iX s).n<=1000000/\∀ j,j < (iX s).n->okA ((iX s).f j):=by
 refine ⟨Nat.le_trans (Dn _) h.1,?_⟩
 intro j hj
 have hj':j < (arF s.regions s.regions.n).length:=hj
 have e:(iX s).f j=(arF s.regions s.regions.n)[j]:=by
  show (arF s.regions s.regions.n).getD j ar0=_
  rw [List.getD_eq_getElem?_getD,List.getElem?_eq_getElem hj']; rfl
 rw [e]
 obtain ⟨i,h1,h2⟩:=Li (List.getElem_mem hj')
 rw [h2]
 exact ⟨(h.2 i h1).id,(h.2 i h1).ring⟩
structure Adr where
 door:B
 street:B
 code:B
 district:B
 city:B
 num:Hn
 pt:Pt
def adL (a:Adr):SV:=.cons (.str a.door) (.cons (.str a.street) (.cons (.str a.code) (.cons (.str a.district) (.cons (.str a.city) (hnC a.num (.cons (.int .i64 a.pt.1) (.cons (.int .i64 a.pt.2) .nil)))))))
def vJ (s:Sta) (d:Dr):Adr:=⟨d.id,d.str,lF (iX s,3,d.pt),lF (iX s,2,d.pt),lF (iX s,1,d.pt),d.num,d.pt⟩
attribute [local irreducible] lkR lkK lkN lF sY arF iX
def g52:List Nat:=[0,1,2,5,6,3,4]
def c52:aH :=
 .seq (.region g52 [(zo 2 (.box 30 (.s 0))),(zo 3 (.box 55 (.s 1))),(zo 4 (.alloc 57 (.cons (.str []) (.cons (.str []) (.cons (.str []) (.cons (.str []) (.cons (.str []) (.cons (.int .i64 0) (.cons (.str []) (.cons (.int .i64 0) (.cons (.int .i64 0) (.cons (.int .i64 0) (.cons (.int .i64 0) .nil)))))))))))))]) (.seq (.region g52 [(zo 7 (.load 7 true (.s 2))),(zo 8 (.call (.c (.fn 73)) [.s 7])),(zo 5 (.alloc 104 (.cons (.nilsl) .nil))),⟨none,none,.store 1 (.s 5) (.s 8),[]⟩]) (.seq (.region g52 [(zo 9 (.mkfn 74 [.s 5,.s 3])),(mv 6 9)]) (.seq (.drawn g52 (.pure 0 (fa 10 0 3) (.pure 1 (ld 11 10) (.pure 2 (fa 12 2 3) (.pure 3 (ld 13 12) (.pure 4 (mv 14 6) (.pure 5 (zo 15 (.call (.s 14) [cj 3])) (.pure 6 (mv 16 6) (.pure 7 (zo 17 (.call (.s 16) [cj 2])) (.pure 8 (mv 18 6) (.pure 9 (zo 19 (.call (.s 18) [cj 1])) (.pure 10 (fa 20 4 3) (.pure 11 (zo 21 (.load 4 true (.s 20))) (.pure 12 (fa 22 8 3) (.pure 13 (zo 23 (.load 2 true (.s 22))) (.pure 14 (zo 24 (.build (.cons (.str []) (.cons (.str []) (.cons (.str []) (.cons (.str []) (.cons (.str []) (.cons (.int .i64 0) (.cons (.str []) (.cons (.int .i64 0) (.cons (.int .i64 0) (.cons (.int .i64 0) (.cons (.int .i64 0) .nil))))))))))) [(0,1,.s 11),(1,1,.s 13),(2,1,.s 15),(3,1,.s 17),(4,1,.s 19),(5,4,.s 21),(9,2,.s 23)])) (.eff 15 ⟨none,none,.store 11 (.s 4) (.s 24),[]⟩ [] .done .none))))))))))))))))) .ret)))
theorem e52:aI Tryz.prog 52 g52 [] [] []=some (c52,[.cell 4 11 true],25):=by kernel_rfl
def Ts:Eng.Spec where
 X:=Sta×Dr
 args:=fun x=>.cons (kM x.1) (.cons (.agg (drL x.2)) .nil)
 pre:=fun x=>okS x.1.regions okR
 res:=fun x=>.agg (adL (vJ x.1 x.2))
 inst:=fun
  | .cons a (.cons (.agg c) .nil)=>match rF a with
   | some s=>some (s,⟨bH (aJ c 0),bH (aJ c 1),bH (aJ c 2),aP (aJ c 3),hnA c 4,(aP (aJ c 8),aP (aJ c 9)),aP (aJ c 10),aP (aJ c 11),sqT ⟨0,fun _=>[]⟩ stD (aJ c 12),aP (aJ c 13),aP (aJ c 14),bH (aJ c 15)⟩)
   | _=>none
  | _=>none
theorem Pc:Ts.Ok Tryz.prog 52:=by
 refine Eng.Spec.okR e52 .nil (fun _=>[(73,.m Tt),(74,.p Tq)]) (fun _ _=>aA.m Pj (aA.p Pb aA.nil)) ?_
 rintro ⟨s,d⟩ (h:okS s.regions okR)
 have hn:=h.1
 have ha:=Lm h
 refine ⟨trivial,?_⟩
 refine Exists.intro s (Exists.intro [] ?_)
 repeat' (first|exact hn|apply And.intro|exact trivial|exact rfl|exact lz fun _=>rfl|exact S1.zz rfl|refine gd ?_)
 refine fun (_:Unit) (_:True)=>?_
 have z0:0+(iX s).n<=(iX s).n:=Nat.le_of_eq (Nat.zero_add _)
 repeat' (first|exact ha|exact ha.1|exact ha.2|with_reducible exact z0|exact fun (i:Nat) (hi:i < _)=>EL.aV (congrArg (fun q=>arC ((iX s).f q)) (Nat.zero_add i)) (aW _ _ _ _ rfl)|apply And.intro|exact trivial|exact rfl|exact lz fun _=>rfl|exact S1.zz rfl|refine gd ?_)
end S28
