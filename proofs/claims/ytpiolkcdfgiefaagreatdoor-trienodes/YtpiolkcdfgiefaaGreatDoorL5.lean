/- A part of the proof. -/
import Derived.Test.YtpiolkcdfgiefaaGreatDoorT6
import Derived.Test.YtpiolkcdfgiefaaGreatDoorProg
import Derived.KernelRfl
import Derived.Test.YtpiolkcdfgiefaaGreatDoorL3
import Derived.Ground.NamesProg
import Derived.Test.YtpiolkcdfgiefaaGreatDoorT2
section
open Go Go.Eng Go.Proofs T1 T2 T3 T4 T5 T6
set_option maxRecDepth 100000
namespace T7
def cE (N:Nat->NO) (a:Nat):List B :=
 match N a with
 | .arr A=>A
 | _=>[]
structure PX where
 N:Nat->NO
 v:Nat
 a:Nat
 n:Nat
 m:Nat
 sz:Int
 mrk:B
 d:Nat
 t:B
 i:B
def Vw (x:PX) (y:Nat):Nat->NO:=put (put x.N y (.arr (kC (cE x.N x.a) x.n (bK (cQ x.N x.a x.n) x.i) x.i))) x.v (.node y (x.n+1) x.m x.sz x.mrk)
def g45:List Nat:=[0,3,1]
def c45:aF :=
 .seq (.drawn g45 (.pure 0 (mv 6 0) (.pure 1 (zo 7 (.nilCheck (.s 6))) (.pure 2 (fa 8 0 7) (.pure 4 (fa 10 1 1) (.pure 5 (ld 11 10) (.eff 3 (ld 9 8) [(ld 11 10)] (.eff 6 (zo 12 (.call (.c (.fn 43)) [.s 9,.s 11])) [] (.pure 7 (mv 5 12) (.pure 8 (zo 13 (.extract 0 (.s 5))) (.pure 9 (zo 14 (.extract 1 (.s 5))) (.pure 10 (mv 3 13) (.pure 11 (mv 4 14) .done))))) .none) .none))))))) (.drawn g45 (.pure 0 (mv 15 0) (.pure 1 (mv 16 0) (.pure 2 (zo 17 (.nilCheck (.s 16))) (.pure 3 (fa 18 0 17) (.pure 5 (mv 20 3) (.pure 6 (fa 21 1 1) (.pure 7 (ld 22 21) (.eff 4 (ld 19 18) [(ld 22 21)] (.eff 8 (zo 23 (.buildSl 9 1 1 (.cons (.str []) .nil) [(0,1,.s 22)])) [] (.eff 9 (zo 24 (.call (.c (.fn 46)) [.s 19,.s 20,.s 23])) [] (.pure 10 (zo 25 (.nilCheck (.s 15))) (.pure 11 (fa 26 0 25) (.eff 12 ⟨none,none,.store 1 (.s 26) (.s 24),[]⟩ [] .done .none))) .none) .none) (.eff 8 (zo 23 (.buildSl 9 1 1 (.cons (.str []) .nil) [(0,1,.s 22)])) [] (.eff 4 (ld 19 18) [(ld 22 21)] (.eff 9 (zo 24 (.call (.c (.fn 46)) [.s 19,.s 20,.s 23])) [] (.pure 10 (zo 25 (.nilCheck (.s 15))) (.pure 11 (fa 26 0 25) (.eff 12 ⟨none,none,.store 1 (.s 26) (.s 24),[]⟩ [] .done .none))) .none) .none) .none))))))))))
theorem e45:aO Tryz.prog 45 g45 [] [9,12,19,23,24] []=some (c45,[],27):=by kernel_rfl
def Rg:aK where
 X:=PX
 Y:=Nat
 args:=fun x=>.cons (.fown 0 x.v 0) (.cons (.own 1 0) .nil)
 pre:=fun x=>x.N x.v=.node x.a x.n x.m x.sz x.mrk/\((x.N x.a=.none/\x.n=0)\/∃ A,x.N x.a=.arr A/\A≠[]/\x.n<=A.length)/\Srt (cQ x.N x.a x.n)/\x.n < 1000000/\x.N x.d=.none
 h0:=fun x=>[(0,.fam fun q=>noO 0 (x.N q)),(1,.cells 32 (wC x.t x.i))]
 nx0:=2
 post:=fun x y=>(y=x.a/\cE x.N x.a≠[])\/y=x.d
 res:=fun _ _=>.tup .nil
 h1:=fun x y=>[(0,.fam fun q=>noO 0 (Vw x y q))]
 nx1:=2
theorem Pz:Rg.Ok Tryz.prog 45:=by
 refine Eng.aK.okR e45 .nil (fun _=>[(43,.m R3),(46,.m iZ),(2097152,.own)]) (fun _ _=>aD.m Kg (aD.m Ej (aD.o aD.nil))) ?_
 rintro ⟨N,v,a,n,m,sz,mk,d,t,i⟩ ⟨(hv:N v=.node a n m sz mk),(hl:(N a=.none/\n=0)\/∃ A,N a=.arr A/\A≠[]/\n<=A.length),(hs:Srt (cQ N a n)),(hn:n < 1000000),(hd:N d=.none)⟩
 have hlen:(cQ N a n).length<=1000000:=by rw [jR hl]; omega
 refine ⟨trivial,?_⟩
 repeat' (first|apply And.intro|exact trivial|exact rfl|exact zf|exact zh|refine zt ?_)
 refine Exists.intro (noO 0 (.node a n m sz mk)) (And.intro (congrArg (noO 0) hv) ?_)
 repeat' (first|apply And.intro|exact trivial|exact rfl|exact zf|exact zh|refine zt ?_|exact zm N rfl|exact zr N rfl rfl)
 refine Exists.intro (cQ N a n,i) (Exists.intro [] ?_)
 repeat' (first|exact tX (h:=0) (N:=N) (a:=a) (n:=n) rfl (Is.no 0 (N a)) rfl hl rfl|apply And.intro|exact trivial|exact rfl|exact zf|exact zh|refine zt ?_|exact zm N rfl|exact zr N rfl rfl|exact hlen|exact hs)
 refine fun (y:Nat×Bool) (hy:y=(bK (cQ N a n) i,decide (i∈cQ N a n)))=>?_
 subst hy
 have hA0:cE N a=[]->N a=.none:=by
  intro e
  rcases hl with ⟨h,_⟩|⟨A,h,hA,_⟩
  ·exact h
  ·simp only [cE,h] at e; exact absurd e hA
 have hA1:cE N a≠[]->N a=.arr (cE N a):=by
  intro e
  rcases hl with ⟨h,_⟩|⟨A,h,hA,_⟩
  ·simp only [cE,h,ne_eq,not_true] at e
  ·simp only [cE,h]
 have hA2:n<=(cE N a).length:=by
  rcases hl with ⟨_,h⟩|⟨A,h,hA,h2⟩
  ·omega
  ·simp only [cE,h]; exact h2
 have hA3:bK (cQ N a n) i<=n:=by have:=qW (cQ N a n) i; rw [jR hl] at this; exact this
 have hyn:∀ y,(y=a/\cE N a≠[])\/y=d->v≠y:=by
  rintro y (⟨rfl,h⟩|rfl) rfl
  ·rw [hA1 h] at hv; cases hv
  ·rw [hd] at hv; cases hv
 repeat' (first|apply And.intro|exact trivial|exact rfl|exact zf|exact zh|refine zt ?_|exact zm N rfl|exact zr N rfl rfl)
 all_goals refine Exists.intro (noO 0 (.node a n m sz mk)) (And.intro (congrArg (noO 0) hv) ?_)
 all_goals repeat' (first|apply And.intro|exact trivial|exact rfl|exact zf|exact zh|refine zt ?_|exact zm N rfl|exact zr N rfl rfl)
 all_goals refine Exists.intro (IX.mk N a (cE N a) n (bK (cQ N a n) i) i d) (Exists.intro [0,2] ?_)
 all_goals repeat' (first|apply And.intro|exact trivial|exact rfl|exact zf|exact zh|refine zt ?_|exact hA0|exact hA1|exact hA2|exact hA3|exact hn|exact hd|(refine fun (j:Nat) (hj:j < 1)=>?_; obtain rfl:j=0:=(by omega); exact Or.inl (aL _ _ _ _))|exact zm N rfl|exact zr N rfl rfl|fail)
 all_goals refine fun (y:Nat) (hy:(y=a/\cE N a≠[])\/y=d)=>?_
 all_goals have hyv:put N y (.arr (kC (cE N a) n (bK (cQ N a n) i) i)) v=.node a n m sz mk:=(aG (hyn y hy)).trans hv
 all_goals repeat' (first|apply And.intro|exact trivial|exact rfl|exact zf|exact zh|refine zt ?_|exact zm N rfl|exact zr N rfl rfl|fail)
 all_goals refine Exists.intro (rnO [(0,0),(1,2)] [(0,0),(2,1)] (noO 0 (.node a n m sz mk))) (And.intro (congrArg (fun o=>rnO [(0,0),(1,2)] [(0,0),(2,1)] (noO 0 o)) hyv) ?_)
 all_goals repeat' (first|apply And.intro|exact trivial|exact rfl|exact zf|exact zh|refine zt ?_|exact zm N rfl|exact zr N rfl rfl|fail)
 all_goals refine Exists.intro y ?_
 all_goals repeat' (first|exact hy|apply And.intro|exact trivial|exact rfl|exact zf|exact zh|refine zt ?_|exact zm N rfl|exact zr N rfl rfl|exact mD (iI (by exact rfl)) (fun i=>gP (by exact rfl) (by exact rfl) _)|fail)
def iE (x:PX):Nat->NO:=put (put x.N x.a (.arr (qC (cE x.N x.a) x.n (bK (cQ x.N x.a x.n) x.i)))) x.v (.node x.a (x.n - 1) x.m x.sz x.mrk)
def g42:List Nat:=[1,0,3]
def c42:aF :=
 .seq (.drawn g42 (.pure 0 (mv 6 0) (.pure 1 (zo 7 (.nilCheck (.s 6))) (.pure 2 (fa 8 0 7) (.pure 4 (fa 10 1 1) (.pure 5 (ld 11 10) (.eff 3 (ld 9 8) [(ld 11 10)] (.eff 6 (zo 12 (.call (.c (.fn 43)) [.s 9,.s 11])) [] (.pure 7 (mv 5 12) (.pure 8 (zo 13 (.extract 0 (.s 5))) (.pure 9 (zo 14 (.extract 1 (.s 5))) (.pure 10 (mv 3 13) (.pure 11 (mv 4 14) .done))))) .none) .none))))))) (.region g42 [(mv 15 0),(mv 16 0),(zo 17 (.nilCheck (.s 16))),(fa 18 0 17),(ld 19 18),(mv 20 3),(mv 21 3),(zo 22 (.bin (.add) (.s 21) (cj 1))),(zo 23 (.call (.c (.fn 44)) [.s 19,.s 20,.s 22])),(zo 24 (.nilCheck (.s 15))),(fa 25 0 24),⟨none,none,.store 1 (.s 25) (.s 23),[]⟩])
theorem e42:aO Tryz.prog 42 g42 [] [9,12] []=some (c42,[],26):=by kernel_rfl
def Kp:aK where
 X:=PX
 Y:=Unit
 args:=fun x=>.cons (.fown 0 x.v 0) (.cons (.own 1 0) .nil)
 pre:=fun x=>x.N x.v=.node x.a x.n x.m x.sz x.mrk/\((x.N x.a=.none/\x.n=0)\/∃ A,x.N x.a=.arr A/\A≠[]/\x.n<=A.length)/\Srt (cQ x.N x.a x.n)/\x.n < 1000000/\x.i∈cQ x.N x.a x.n
 h0:=fun x=>[(0,.fam fun q=>noO 0 (x.N q)),(1,.cells 32 (wC x.t x.i))]
 nx0:=2
 post:=fun _ _=>True
 res:=fun _ _=>.tup .nil
 h1:=fun x _=>[(0,.fam fun q=>noO 0 (iE x q))]
 nx1:=2
theorem Kq:Kp.Ok Tryz.prog 42:=by
 refine Eng.aK.okR e42 .nil (fun _=>[(43,.m R3),(44,.m Sj)]) (fun _ _=>aD.m Kg (aD.m Sk aD.nil)) ?_
 rintro ⟨N,v,a,n,m,sz,mk,d,t,i⟩ ⟨(hv:N v=.node a n m sz mk),(hl:(N a=.none/\n=0)\/∃ A,N a=.arr A/\A≠[]/\n<=A.length),(hs:Srt (cQ N a n)),(hn:n < 1000000),(hi:i∈cQ N a n)⟩
 have hlen:(cQ N a n).length<=1000000:=by rw [jR hl]; omega
 have hp:bK (cQ N a n) i < n:=by have:=((tV hs i).1 hi).1; rwa [jR hl] at this
 obtain ⟨A,hA,hA0,hA1⟩:∃ A,N a=.arr A/\A≠[]/\n<=A.length:=by
  rcases hl with ⟨_,h⟩|h
  ·omega
  ·exact h
 have hva:v≠a:=by rintro rfl; rw [hA] at hv; cases hv
 have e0:cE N a=A:=by simp only [cE,hA]
 have g1:-9223372036854775808<=(bK (cQ N a n) i:Int)+1:=by omega
 have g2:(bK (cQ N a n) i:Int)+1<=9223372036854775807:=by omega
 have hv2:put N a (.arr (qC A n (bK (cQ N a n) i))) v=.node a n m sz mk:=(aG hva).trans hv
 refine ⟨trivial,?_⟩
 repeat' (first|apply And.intro|exact trivial|exact rfl|exact zf|exact zh|refine zt ?_)
 refine Exists.intro (noO 0 (.node a n m sz mk)) (And.intro (congrArg (noO 0) hv) ?_)
 repeat' (first|apply And.intro|exact trivial|exact rfl|exact zf|exact zh|refine zt ?_|exact zm N rfl|exact zr N rfl rfl)
 refine Exists.intro (cQ N a n,i) (Exists.intro [] ?_)
 repeat' (first|exact tX (h:=0) (N:=N) (a:=a) (n:=n) rfl (Is.no 0 (N a)) rfl hl rfl|apply And.intro|exact trivial|exact rfl|exact zf|exact zh|refine zt ?_|exact zm N rfl|exact zr N rfl rfl|exact hlen|exact hs)
 refine fun (y:Nat×Bool) (hy:y=(bK (cQ N a n) i,decide (i∈cQ N a n)))=>?_
 subst hy
 repeat' (first|apply And.intro|exact trivial|exact rfl|exact zf|exact zh|refine zt ?_|exact zm N rfl|exact zr N rfl rfl)
 refine Exists.intro (noO 0 (.node a n m sz mk)) (And.intro (congrArg (noO 0) hv) ?_)
 repeat' (first|apply And.intro|exact trivial|exact rfl|exact zf|exact zh|refine zt ?_|exact zm N rfl|exact zr N rfl rfl|(with_reducible first|exact g1|exact g2))
 refine Exists.intro (N,a,A,n,bK (cQ N a n) i) (Exists.intro [0] ?_)
 repeat' (first|apply And.intro|exact trivial|exact rfl|exact zf|exact zh|refine zt ?_|(with_reducible first|exact hA|exact hp|exact hA1)|exact zm N rfl|exact zr N rfl rfl)
 refine fun (_:Unit) (_:True)=>?_
 repeat' (first|apply And.intro|exact trivial|exact rfl|exact zf|exact zh|refine zt ?_|exact zm N rfl|exact zr N rfl rfl)
 refine Exists.intro (rnO [(0,0)] [(0,0)] (noO 0 (.node a n m sz mk))) (And.intro (congrArg (fun o=>rnO [(0,0)] [(0,0)] (noO 0 o)) hv2) ?_)
 repeat' (first|apply And.intro|exact trivial|exact rfl|exact zf|exact zh|refine zt ?_|exact zm N rfl|exact zr N rfl rfl)
 refine Exists.intro () ?_
 have e1:n - 1=(n - 1:Nat):=rfl
 repeat' (first|apply And.intro|exact trivial|exact rfl|exact zf|exact zh|refine zt ?_|exact zm N rfl|exact zr N rfl rfl)
 rw [show iE ⟨N,v,a,n,m,sz,mk,d,t,i⟩=put (put N a (.arr (qC A n (bK (cQ N a n) i)))) v (.node a (n - 1) m sz mk) by unfold iE; rw [e0]]
 repeat' (first|apply And.intro|exact trivial|exact rfl|exact mD (iI (by exact rfl)) (fun i=>gP (by exact rfl) (by exact rfl) _))
end T7
end
section
open Go Go.Eng Go.Proofs T1 T2 T3 T4 T5 T6 T7
set_option maxRecDepth 100000
namespace T8
def dv (p:Bool):Int:=bif p then 1 else -1
theorem U1 (p:Bool):(0:Int)+dv p≠0:=by cases p <;> decide
theorem Qu (p:Bool):-1<=dv p:=by cases p <;> decide
theorem Qt (p:Bool):dv p<=1:=by cases p <;> decide
def bump (p:Bool) (N:Nat->NO) (x:Nat):Nat->NO :=
 match N x with
 | .node a n m sz _=>put N x (.node a n m (sz+dv p) [])
 | _=>N
theorem iT {p:Bool} {N:Nat->NO} {x a n m:Nat} {sz:Int} {mk:B} (h:N x=.node a n m sz mk):bump p N x=put N x (.node a n m (sz+dv p) []):=by simp only [bump,h]
def uL (N:Nat->NO) (c x:Nat) (b:UInt8):Nat->NO :=
 match N x with
 | .node _ _ m _ _=>match N m with
  | .map l q=>put (eV N c) m (.map (l++[(dC b,c+1,q)]) (q+1))
  | _=>N
 | _=>N
theorem nZ {N:Nat->NO} {c x a n m q:Nat} {sz:Int} {mk:B} {b:UInt8} {l:List (aH×Nat×Nat)} (h:N x=.node a n m sz mk) (h2:N m=.map l q):uL N c x b=put (eV N c) m (.map (l++[(dC b,c+1,q)]) (q+1)):=by simp only [uL,h,h2]
def Dq (N:Nat->NO) (x:Nat) (b:UInt8):Nat->NO :=
 match N x with
 | .node _ _ m _ _=>match N m with
  | .map l q=>put N m (.map (mdel l (dC b)) q)
  | _=>N
 | _=>N
theorem rL {N:Nat->NO} {x a n m q:Nat} {sz:Int} {mk:B} {b:UInt8} {l:List (aH×Nat×Nat)} (h:N x=.node a n m sz mk) (h2:N m=.map l q):Dq N x b=put N m (.map (mdel l (dC b)) q):=by simp only [Dq,h,h2]
def szN (N:Nat->NO) (x:Nat):Int :=
 match N x with
 | .node _ _ _ sz _=>sz
 | _=>0
theorem Cx {N:Nat->NO} {x a n m:Nat} {sz:Int} {mk:B} (h:N x=.node a n m sz mk):szN N x=sz:=by simp only [szN,h]
structure CS where
 N:Nat->NO
 c:Nat
 x:Nat
def stN (p:Bool) (s:CS) (b:UInt8):CS :=
 match rX s.N s.x b with
 | none=>⟨uL s.N s.c s.x b,s.c+3,s.c+1⟩
 | some v=>⟨if szN s.N v+dv p=0 then Dq s.N s.x b else s.N,s.c,v⟩
def chN (p:Bool) (s:CS):B->CS
 | []=>⟨bump p s.N s.x,s.c,s.x⟩
 | b::t=>chN p (stN p ⟨bump p s.N s.x,s.c,s.x⟩ b) t
def Bd (N:Nat->NO) (K:Int):Prop:=∀ i a n m sz mk,N i=.node a n m sz mk->-K<=sz/\sz<=K
theorem bO {N:Nat->NO} {j i:Nat} {o o':NO} (h:put N j o i=o'):(i=j/\o'=o)\/(i≠j/\N i=o'):=by
 by_cases e:i=j
 ·subst e; rw [bL] at h; exact .inl ⟨rfl,h.symm⟩
 ·rw [aG e] at h; exact .inr ⟨e,h⟩
theorem qY {N:Nat->NO} {j i:Nat} {o:NO} (ho:∃ a n m sz mk,o=.node a n m sz mk) (h:isNode N i):isNode (put N j o) i:=by
 obtain ⟨a,n,m,sz,mk,rfl⟩:=ho
 by_cases e:i=j
 ·subst e; exact ⟨_,_,_,_,_,bL _ _ _⟩
 ·unfold isNode; rw [aG e]; exact h
theorem lX {N:Nat->NO} {x m a n k q:Nat} {sz:Int} {mk:B} {l:List (aH×Nat×Nat)} (h:N x=.node a n k sz mk) (h2:N m=.map l q):m≠x:=by
 rintro rfl; rw [h] at h2; cases h2
theorem Cl.bump {N:Nat->NO} {c x:Nat} {p:Bool} (h:Cl N c) (hx:isNode N x):Cl (bump p N x) c:=by
 obtain ⟨a,n,m,sz,mk,e⟩:=hx
 rw [iT e]
 have hxc:x < c:=h.lt (by rw [e]; intro h; cases h)
 refine ⟨fun i hi=>?_,fun i a' n' m' sz' mk' hi=>?_,fun i l q hi y hy=>?_,fun i a' n' m' sz' mk' hi=>?_,fun i a' n' m' sz' mk' hi=>?_,fun i j a' n1 m1 sz1 mk1 n2 m2 sz2 mk2 hi hj=>?_,fun i l q hi=>?_⟩
 ·rw [aG (by omega)]; exact h.free i hi
 ·have key:∃ a n sz mk i,N i=.node a n m' sz mk:=by
   rcases bO hi with ⟨rfl,k⟩|⟨_,k⟩
   ·cases k; exact ⟨_,_,_,_,_,e⟩
   ·exact ⟨_,_,_,_,_,k⟩
  obtain ⟨a1,n1,sz1,mk1,i1,k⟩:=key
  obtain ⟨l,q,hm⟩:=h.kids _ _ _ _ _ _ k
  exact ⟨l,q,by rw [aG (lX e hm)]; exact hm⟩
 ·rcases bO hi with ⟨rfl,k⟩|⟨_,k⟩
  ·cases k
  ·obtain ⟨h1,h2⟩:=h.ent _ _ _ k y hy
   exact ⟨h1,qY ⟨_,_,_,_,_,rfl⟩ h2⟩
 ·have key:∃ m sz mk i,N i=.node a' n' m sz mk:=by
   rcases bO hi with ⟨rfl,k⟩|⟨_,k⟩
   ·cases k; exact ⟨_,_,_,_,e⟩
   ·exact ⟨_,_,_,_,k⟩
  obtain ⟨m1,sz1,mk1,i1,k⟩:=key
  rcases h.lst _ _ _ _ _ _ k with ⟨h1,h2⟩|⟨A,h1,h2⟩
  ·exact .inl ⟨by rw [aG (by rintro rfl; rw [e] at h1; cases h1)]; exact h1,h2⟩
  ·exact .inr ⟨A,by rw [aG (by rintro rfl; rw [e] at h1; cases h1)]; exact h1,h2⟩
 ·rcases bO hi with ⟨rfl,k⟩|⟨_,k⟩
  ·cases k; exact h.lim _ _ _ _ _ _ e
  ·exact h.lim _ _ _ _ _ _ k
 ·rcases bO hi with ⟨rfl,k⟩|⟨_,k⟩ <;> rcases bO hj with ⟨rfl,k'⟩|⟨_,k'⟩
  ·rfl
  ·cases k; exact h.own _ _ _ _ _ _ _ _ _ _ _ e k'
  ·cases k'; exact h.own _ _ _ _ _ _ _ _ _ _ _ k e
  ·exact h.own _ _ _ _ _ _ _ _ _ _ _ k k'
 ·rcases bO hi with ⟨rfl,k⟩|⟨_,k⟩
  ·cases k
  ·exact h.tick _ _ _ k
theorem Cl.map {N:Nat->NO} {c m q q':Nat} {l l':List (aH×Nat×Nat)} (h:Cl N c) (hm:N m=.map l q) (hl:∀ x∈l',x.1.kind=.i .u8/\isNode N x.2.1) (ht:Tk l' q'):Cl (put N m (.map l' q')) c:=by
 have hmc:m < c:=h.lt (by rw [hm]; intro h; cases h)
 have nd:∀ {i},isNode N i->isNode (put N m (.map l' q')) i:=by
  rintro i ⟨a,n,k,sz,mk,e⟩
  exact ⟨a,n,k,sz,mk,by rw [aG (lX e hm).symm]; exact e⟩
 have bk:∀ {i a n k sz mk},put N m (.map l' q') i=.node a n k sz mk->N i=.node a n k sz mk:=by
  intro i a n k sz mk e
  rcases bO e with ⟨_,k⟩|⟨_,k⟩
  ·cases k
  ·exact k
 refine ⟨fun i hi=>?_,fun i a n k sz mk hi=>?_,fun i l2 q2 hi y hy=>?_,fun i a n k sz mk hi=>?_,fun i a n k sz mk hi=>h.lim _ _ _ _ _ _ (bk hi),fun i j a n1 m1 sz1 mk1 n2 m2 sz2 mk2 hi hj=>h.own _ _ _ _ _ _ _ _ _ _ _ (bk hi) (bk hj),fun i l2 q2 hi=>?_⟩
 ·rw [aG (by omega)]; exact h.free i hi
 ·obtain ⟨l2,q2,e⟩:=h.kids _ _ _ _ _ _ (bk hi)
  by_cases ek:k=m
  ·subst ek; exact ⟨_,_,bL _ _ _⟩
  ·exact ⟨l2,q2,by rw [aG ek]; exact e⟩
 ·rcases bO hi with ⟨rfl,k⟩|⟨_,k⟩
  ·cases k
   obtain ⟨h1,h2⟩:=hl y hy
   exact ⟨h1,nd h2⟩
  ·obtain ⟨h1,h2⟩:=h.ent _ _ _ k y hy
   exact ⟨h1,nd h2⟩
 ·rcases h.lst _ _ _ _ _ _ (bk hi) with ⟨h1,h2⟩|⟨A,h1,h2⟩
  ·exact .inl ⟨by rw [aG (by rintro rfl; rw [hm] at h1; cases h1)]; exact h1,h2⟩
  ·exact .inr ⟨A,by rw [aG (by rintro rfl; rw [hm] at h1; cases h1)]; exact h1,h2⟩
 ·rcases bO hi with ⟨rfl,k⟩|⟨_,k⟩
  ·cases k; exact ht
  ·exact h.tick _ _ _ k
theorem Cl.open {N:Nat->NO} {c:Nat} (h:Cl N c):Cl (eV N c) (c+3):=by
 have o1:∀ {i},i < c->eV N c i=N i:=fun {i} hi=>by unfold eV; rw [aG (by omega),aG (by omega)]
 have o2:eV N c c=.map [] 0:=by unfold eV; rw [aG (by omega),bL]
 have o3:eV N c (c+1)=.node (c+2) 0 c 0 []:=by unfold eV; rw [bL]
 have o4:∀ {i},c+2<=i->eV N c i=.none:=fun {i} hi=>by unfold eV; rw [aG (by omega),aG (by omega)]; exact h.free i (by omega)
 have lt:∀ {i o},N i=o->o≠.none->i < c:=fun e ho=>h.lt (by rw [e]; exact ho)
 have nd:∀ {i},isNode N i->isNode (eV N c) i:=by
  rintro i ⟨a,n,k,sz,mk,e⟩
  exact ⟨a,n,k,sz,mk,by rw [o1 (lt e (by intro h; cases h))]; exact e⟩
 have cs:∀ i,(i < c/\eV N c i=N i)\/(i=c/\eV N c i=.map [] 0)\/(i=c+1/\eV N c i=.node (c+2) 0 c 0 [])\/eV N c i=.none:=by
  intro i
  by_cases h1:i < c
  ·exact .inl ⟨h1,o1 h1⟩
  ·by_cases h2:i=c
   ·subst h2; exact .inr (.inl ⟨rfl,o2⟩)
   ·by_cases h3:i=c+1
    ·subst h3; exact .inr (.inr (.inl ⟨rfl,o3⟩))
    ·exact .inr (.inr (.inr (o4 (by omega))))
 refine ⟨fun i hi=>o4 (by omega),fun i a n k sz mk hi=>?_,fun i l2 q2 hi y hy=>?_,fun i a n k sz mk hi=>?_,fun i a n k sz mk hi=>?_,fun i j a n1 m1 sz1 mk1 n2 m2 sz2 mk2 hi hj=>?_,fun i l2 q2 hi=>?_⟩
 ·rcases cs i with ⟨_,e⟩|⟨_,e⟩|⟨_,e⟩|e <;> rw [e] at hi
  ·obtain ⟨l2,q2,e⟩:=h.kids _ _ _ _ _ _ hi
   exact ⟨l2,q2,by rw [o1 (lt e (by intro h; cases h))]; exact e⟩
  ·cases hi
  ·cases hi; exact ⟨_,_,o2⟩
  ·cases hi
 ·rcases cs i with ⟨_,e⟩|⟨_,e⟩|⟨_,e⟩|e <;> rw [e] at hi
  ·obtain ⟨h1,h2⟩:=h.ent _ _ _ hi y hy
   exact ⟨h1,nd h2⟩
  ·cases hi; cases hy
  ·cases hi
  ·cases hi
 ·rcases cs i with ⟨_,e⟩|⟨_,e⟩|⟨_,e⟩|e <;> rw [e] at hi
  ·have hl:=h.lim _ _ _ _ _ _ hi
   rw [o1 hl]
   exact h.lst _ _ _ _ _ _ hi
  ·cases hi
  ·cases hi; exact .inl ⟨o4 (by omega),rfl⟩
  ·cases hi
 ·rcases cs i with ⟨_,e⟩|⟨_,e⟩|⟨_,e⟩|e <;> rw [e] at hi
  ·have:=h.lim _ _ _ _ _ _ hi; omega
  ·cases hi
  ·cases hi; omega
  ·cases hi
 ·rcases cs i with ⟨_,e⟩|⟨_,e⟩|⟨h1,e⟩|e <;> rw [e] at hi
  ·rcases cs j with ⟨_,e⟩|⟨_,e⟩|⟨_,e⟩|e <;> rw [e] at hj
   ·exact h.own _ _ _ _ _ _ _ _ _ _ _ hi hj
   ·cases hj
   ·cases hj; have:=h.lim _ _ _ _ _ _ hi; omega
   ·cases hj
  ·cases hi
  ·rcases cs j with ⟨_,e⟩|⟨_,e⟩|⟨h2,e⟩|e <;> rw [e] at hj
   ·cases hi; have:=h.lim _ _ _ _ _ _ hj; omega
   ·cases hj
   ·rw [h1,h2]
   ·cases hj
  ·cases hi
 ·rcases cs i with ⟨_,e⟩|⟨_,e⟩|⟨_,e⟩|e <;> rw [e] at hi
  ·exact h.tick _ _ _ hi
  ·cases hi; exact ⟨(fun _ hx=>by cases hx),List.nodup_nil⟩
  ·cases hi
  ·cases hi
theorem vC {V:Type} {l:List (aH×V×Nat)} {k:aH} {x:aH×V×Nat} (h:x∈mdel l k):x∈l:=by
 induction l with
 | nil=>exact h
 | cons y r ih =>
  simp only [mdel] at h
  split at h
  ·exact List.mem_cons_of_mem _ h
  ·rcases List.mem_cons.1 h with rfl|h
   ·exact List.mem_cons_self
   ·exact List.mem_cons_of_mem _ (ih h)
theorem E4 {V:Type} {k:aH}:∀ {l:List (aH×V×Nat)},(l.map (·.2.2)).Nodup->((mdel l k).map (·.2.2)).Nodup:=by
 intro l
 induction l with
 | nil=>intro h; exact h
 | cons y r ih =>
  intro h
  simp only [mdel]
  simp only [List.map_cons,List.nodup_cons] at h
  split
  ·exact h.2
  ·simp only [List.map_cons,List.nodup_cons]
   refine ⟨fun hm=>h.1 ?_,ih h.2⟩
   obtain ⟨z,hz,e⟩:=List.mem_map.1 hm
   exact List.mem_map.2 ⟨z,vC hz,e⟩
theorem Cl.cut {N:Nat->NO} {c x:Nat} {b:UInt8} (h:Cl N c) (hx:isNode N x):Cl (Dq N x b) c:=by
 obtain ⟨a,n,m,sz,mk,e⟩:=hx
 obtain ⟨l,q,hm⟩:=h.kids _ _ _ _ _ _ e
 rw [rL e hm]
 exact Cl.map h hm (fun y hy=>h.ent _ _ _ hm y (vC hy)) ⟨fun y hy=>(h.tick _ _ _ hm).1 y (vC hy),E4 (h.tick _ _ _ hm).2⟩
theorem oG {N:Nat->NO} {c i:Nat} (hi:i < c):eV N c i=N i:=by unfold eV; rw [aG (by omega),aG (by omega)]
theorem qV {N:Nat->NO} {c:Nat}:eV N c (c+1)=.node (c+2) 0 c 0 []:=by unfold eV; rw [bL]
theorem Cl.grow {N:Nat->NO} {c x:Nat} {b:UInt8} (h:Cl N c) (hx:isNode N x):Cl (uL N c x b) (c+3):=by
 obtain ⟨a,n,m,sz,mk,e⟩:=hx
 obtain ⟨l,q,hm⟩:=h.kids _ _ _ _ _ _ e
 rw [nZ e hm]
 have hmc:m < c:=h.lt (by rw [hm]; intro h; cases h)
 have hm':eV N c m=.map l q:=(oG hmc).trans hm
 have ho:=Cl.open h
 have ht:=h.tick _ _ _ hm
 refine Cl.map ho hm' (fun y hy=>?_) ⟨fun y hy=>?_,?_⟩
 ·rcases List.mem_append.1 hy with hy|hy
  ·exact ho.ent _ _ _ hm' y hy
  ·obtain rfl:=List.mem_singleton.1 hy
   exact ⟨rfl,_,_,_,_,_,qV⟩
 ·rcases List.mem_append.1 hy with hy|hy
  ·exact Nat.lt_succ_of_lt (ht.1 y hy)
  ·obtain rfl:=List.mem_singleton.1 hy
   exact Nat.lt_succ_self _
 ·rw [List.map_append,List.nodup_append]
  refine ⟨ht.2,by simp,fun u hu v hv=>?_⟩
  obtain ⟨z,hz,rfl⟩:=List.mem_map.1 hu
  obtain rfl:=List.mem_singleton.1 hv
  exact Nat.ne_of_lt (ht.1 z hz)
structure Ok (s:CS) (K:Int):Prop where
 cl:Cl s.N s.c
 nd:isNode s.N s.x
 bd:Bd s.N K
theorem Ok.bump {s:CS} {K:Int} {p:Bool} (h:Ok s K):Ok ⟨bump p s.N s.x,s.c,s.x⟩ (K+1):=by
 obtain ⟨a,n,m,sz,mk,e⟩:=h.nd
 refine ⟨Cl.bump h.cl h.nd,?_,?_⟩
 ·show isNode (T8.bump p s.N s.x) s.x
  rw [iT e]; exact ⟨_,_,_,_,_,bL _ _ _⟩
 ·show Bd (T8.bump p s.N s.x) (K+1)
  rw [iT e]
  intro i a' n' m' sz' mk' hi
  have:=Qu p
  have:=Qt p
  rcases bO hi with ⟨rfl,k⟩|⟨_,k⟩
  ·cases k
   have:=h.bd _ _ _ _ _ _ e
   omega
  ·have:=h.bd _ _ _ _ _ _ k
   omega
theorem Ok.step {s:CS} {K:Int} {p:Bool} (h:Ok s K) (hK:0<=K) (b:UInt8):Ok (stN p s b) K:=by
 obtain ⟨a,n,m,sz,mk,e⟩:=h.nd
 obtain ⟨l,q,hm⟩:=h.cl.kids _ _ _ _ _ _ e
 have hmc:m < s.c:=h.cl.lt (by rw [hm]; intro h; cases h)
 unfold stN
 split
 ·refine ⟨Cl.grow h.cl h.nd,?_,?_⟩
  ·show isNode (uL s.N s.c s.x b) (s.c+1)
   rw [nZ e hm]
   exact ⟨_,_,_,_,_,by rw [aG (by omega)]; exact qV⟩
  ·show Bd (uL s.N s.c s.x b) K
   rw [nZ e hm]
   intro i a' n' m' sz' mk' hi
   rcases bO hi with ⟨_,k⟩|⟨_,k⟩
   ·cases k
   ·unfold eV at k
    rcases bO k with ⟨_,k⟩|⟨_,k⟩
    ·cases k; omega
    ·rcases bO k with ⟨_,k⟩|⟨_,k⟩
     ·cases k
     ·exact h.bd _ _ _ _ _ _ k
 ·rename_i v hv
  have hvn:=h.cl.kid hv
  by_cases h0:szN s.N v+dv p=0
  ·rw [if_pos h0]
   refine ⟨Cl.cut h.cl h.nd,?_,?_⟩
   ·obtain ⟨a1,n1,m1,sz1,mk1,e1⟩:=hvn
    show isNode (Dq s.N s.x b) v
    rw [rL e hm]
    exact ⟨_,_,_,_,_,by rw [aG (lX e1 hm).symm]; exact e1⟩
   ·show Bd (Dq s.N s.x b) K
    rw [rL e hm]
    intro i a' n' m' sz' mk' hi
    rcases bO hi with ⟨_,k⟩|⟨_,k⟩
    ·cases k
    ·exact h.bd _ _ _ _ _ _ k
  ·rw [if_neg h0]
   exact ⟨h.cl,hvn,h.bd⟩
end T8
end
section
open Go Go.Eng Go.Proofs T1 T2 T3 T4 T5 T6 T7 T8
set_option maxRecDepth 100000
namespace T9
structure HX where
 p:Bool
 N:Nat->NO
 c:Nat
 r:Nat
 t:B
 i:B
def HX.fin (x:HX):CS:=chN x.p ⟨x.N,x.c,x.r⟩ x.t
def zN (N:Nat->NO) (x:Nat):Nat :=
 match N x with
 | .node a _ _ _ _=>a
 | _=>0
def dQ (p:Bool) (N:Nat->NO) (x y:Nat) (i:B):Nat->NO :=
 match N x with
 | .node a n m sz mk=>bif p then put (put N y (.arr (kC (cE N a) n (bK (cQ N a n) i) i))) x (.node y (n+1) m sz mk)
   else put (put N a (.arr (qC (cE N a) n (bK (cQ N a n) i)))) x (.node a (n - 1) m sz mk)
 | _=>N
theorem nR {k:Keep} {hp:List (Nat×aC)} {h:Nat} {f:Nat->aC} {N:Nat->NO} {j:Nat} {o o':aC} {n:NO} (h1:dF k hp o (noO h n)) (h2:∀ i,dF k hp (f i) (noO h (N i))) :
  ∀ i,dF k hp (bif Nat.beq i j then o else bif Nat.beq i j then o' else f i) (noO h (put N j n i)):=by
 intro i
 unfold put
 cases Nat.beq i j with
 | true=>exact h1
 | false=>exact h2 i
theorem sub_eq {k:Keep} {hp:List (Nat×aC)} {h:Nat} {F:Nat->aC} {f g:Nat->NO} (e:g=f) (hs:∀ i,dF k hp (F i) (noO h (f i))):∀ i,dF k hp (F i) (noO h (g i)):=by subst e; exact hs
theorem R1 {α:Type _} {i j:Nat} (h:i≠j) (A B:α):(bif Nat.beq i j then A else B)=B:=by rw [yE h]; rfl
theorem Nh {k:Keep} {hp:List (Nat×aC)} {h h' q:Nat} {l:List (aH×Nat×Nat)} {ev:Nat->SV} {iv:SV->Option Nat} (e:∀ v,ev v=.fown h v 0) (hr:fJ k h h':=by exact rfl):dF k hp (.map Nat (.i .u8) l q ev iv) (noO h' (.map l q)):=Is.sub (h:=h) ⟨ev,iv,rfl,e⟩ hr
theorem pZ {α:Type _} (x:Nat) (A B:α):(bif Nat.beq x x then A else B)=A:=by rw [Nat.beq_refl]; rfl
def g41:List Nat:=[0,32,42,2,58,1,10,9,3,8]
def c41:aF :=
 .seq (.region g41 [(mv 11 0),(zo 12 (.nilCheck (.s 11))),(fa 13 0 12),(ld 14 13),(mv 8 14)]) (.seq (.seq (.region g41 [(zo 9 (.move (cj 0)))]) (.block 0 (.loop 0 [17,18,19,20,21,22,23,24,25,26,27,28,29,30,31,32,33,34,35,36,37,38,39,40,41,42,43,10,44,45,46,47,48,49,50,51,52,53,54,55,56,57,58,59,60,61,62,63,64,65,66,8,15,16,9] (.seq (.block 1 (.seq (.region g41 [(mv 17 8),(mv 18 8),(mv 19 8),(zo 20 (.nilCheck (.s 19))),(fa 21 2 20),(ld 22 21),(mv 23 2),(zo 24 (.bin (.add) (.s 22) (.s 23))),(zo 25 (.nilCheck (.s 17))),(fa 26 2 25),⟨none,none,.store 1 (.s 26) (.s 24),[]⟩,(zo 27 (.nilCheck (.s 18))),(fa 28 3 27),⟨none,none,.store 1 (.s 28) (.c (.str [])),[]⟩]) (.seq (.seq (.region g41 [(mv 29 9),(mv 30 1),(zo 31 (.lenStr (.s 30))),(zo 32 (.bin (.eql) (.s 29) (.s 31)))]) (.cond (.s 32) (.exit 0) .skip)) (.seq (.drawn g41 (.pure 0 (mv 33 8) (.pure 1 (zo 34 (.nilCheck (.s 33))) (.pure 2 (fa 35 1 34) (.pure 4 (mv 37 1) (.pure 5 (mv 38 9) (.pure 6 (zo 39 (.idxStr (.s 37) (.s 38))) (.eff 3 (ld 36 35) [] (.eff 7 (zo 40 (.mlook (.nilptr) false (.i (.u8)) (.s 36) (.s 39))) [] (.pure 8 (mv 10 40) .done) .none) .none)))))))) (.seq (.seq (.region g41 [(mv 41 10),(zo 42 (.ptrEq false (.s 41) (.c (.nilptr))))]) (.cond (.s 42) (.seq (.region g41 [(zo 43 (.call (.c (.fn 39)) [])),(mv 10 43)]) (.drawn g41 (.pure 0 (mv 44 8) (.pure 1 (zo 45 (.nilCheck (.s 44))) (.pure 2 (fa 46 1 45) (.pure 4 (mv 48 1) (.pure 5 (mv 49 9) (.pure 6 (zo 50 (.idxStr (.s 48) (.s 49))) (.pure 7 (mv 51 10) (.eff 3 (ld 47 46) [] (.eff 8 ⟨none,none,.mupd (.i (.u8)) (.s 47) (.s 50) (.s 51),[]⟩ [] .done .none) .none)))))))))) .skip)) (.seq (.seq (.region g41 [(mv 52 10),(zo 53 (.nilCheck (.s 52))),(fa 54 2 53),(ld 55 54),(mv 56 2),(zo 57 (.bin (.add) (.s 55) (.s 56))),(zo 58 (.bin (.eql) (.s 57) (cj 0)))]) (.cond (.s 58) (.drawn g41 (.pure 0 (mv 59 8) (.pure 1 (zo 60 (.nilCheck (.s 59))) (.pure 2 (fa 61 1 60) (.pure 4 (mv 63 1) (.pure 5 (mv 64 9) (.pure 6 (zo 65 (.idxStr (.s 63) (.s 64))) (.eff 3 (ld 62 61) [] (.eff 7 ⟨none,none,.mdele (.i (.u8)) (.s 62) (.s 65),[]⟩ [] .done .none) .none)))))))) .skip)) (.region g41 [(mv 66 10),(mv 8 66)]))))))) (.region g41 [(mv 15 9),(zo 16 (.bin (.add) (.s 15) (cj 1))),(mv 9 16)]))))) (.region g41 [(mv 67 3),(mv 68 8),(zo 69 (.call (.s 67) [.s 68]))]))
theorem e41:aO Tryz.prog 41 g41 [] [36,40,47,62,66] []=some (c41,[],70):=by kernel_rfl
def chS:aK where
 X:=HX
 Y:=Nat
 args:=fun x=>.cons (.own 0 0) (.cons (.str x.t) (.cons (.int .i64 (dv x.p)) (.cons (.fn (bif x.p then 45 else 42) (.cons (.own 2 0) .nil)) .nil)))
 pre:=fun x=>Ok ⟨x.N,x.c,x.r⟩ 1000000000000/\x.t.length<=1000/\Srt (iY x.fin.N x.fin.x)/\(iY x.fin.N x.fin.x).length < 1000000/\(x.p=false->x.i∈iY x.fin.N x.fin.x)
 h0:=fun x=>tH 0 1 x.r x.N++[(2,.cells 32 (wC x.t x.i))]
 nx0:=3
 post:=fun x y=>x.p=true->(y=zN x.fin.N x.fin.x/\cE x.fin.N y≠[])\/y=x.fin.c
 res:=fun _ _=>.tup .nil
 h1:=fun x y=>tH 0 1 x.r (dQ x.p x.fin.N x.fin.x y x.i)
 nx1:=3
theorem Qp:chS.Ok Tryz.prog 41:=by
 refine Eng.aK.okR e41 .nil (fun _=>[(39,.m Tv),(45,.m Rg),(42,.m Kp)]) (fun _ _=>aD.m Mn (aD.m Pz (aD.m Kq aD.nil))) ?_
 rintro ⟨p,N,c,r,t,i⟩ ⟨(hc:Ok ⟨N,c,r⟩ 1000000000000),(ht:t.length<=1000),(hs:Srt (iY (HX.mk p N c r t i).fin.N (HX.mk p N c r t i).fin.x)),(hn:(iY (HX.mk p N c r t i).fin.N (HX.mk p N c r t i).fin.x).length < 1000000),(hd:p=false->i∈iY (HX.mk p N c r t i).fin.N (HX.mk p N c r t i).fin.x)⟩
 obtain ⟨F,hF⟩:∃ F,F=(HX.mk p N c r t i).fin:=⟨_,rfl⟩
 rw [<- hF] at hs hn hd
 refine ⟨trivial,?_⟩
 repeat' (first|apply And.intro|exact trivial|exact rfl|exact zf|exact zh|refine zt ?_|fail)
 refine ⟨⟨Nat×CS,fun x=>x.1<=t.length/\T8.Ok x.2 (1000000000000+(x.1:Int))/\chN p x.2 (t.drop x.1)=F,fun x=>[(9,.int .i64 (x.1:Int)),(8,.fown 1 x.2.x 0)],fun x=>[(1,.fam fun q=>noO 1 (x.2.N q))],fun x=>t.length - x.1⟩,(0,⟨N,c,r⟩),?_,?_,?_⟩
 ·exact ⟨Nat.zero_le _,by simpa using hc,hF.symm⟩
 ·repeat' (first|apply And.intro|exact trivial|exact rfl|exact zm N rfl|exact zr N rfl rfl|fail)
 rintro ⟨j,M,k,x⟩ ⟨(k0:j<=t.length),(k1:T8.Ok ⟨M,k,x⟩ (1000000000000+(j:Int))),(k2:chN p ⟨M,k,x⟩ (t.drop j)=F)⟩
 obtain ⟨a,n,m,sz,mk,hx⟩:isNode M x:=k1.nd
 obtain ⟨l,q,hm⟩:∃ l q,M m=.map l q:=k1.cl.kids _ _ _ _ _ _ hx
 have hb:=k1.bd _ _ _ _ _ _ hx
 have p1:=Qu p
 have p2:=Qt p
 have g1:-9223372036854775808<=sz+dv p:=by omega
 have g2:sz+dv p<=9223372036854775807:=by omega
 repeat' (first|apply And.intro|exact trivial|exact rfl|exact zf|exact zh|refine zt ?_|fail)
 refine Exists.intro (noO 1 (.node a n m sz mk)) (And.intro (congrArg (noO 1) hx) ?_)
 repeat' (first|apply And.intro|exact trivial|exact rfl|exact zf|exact zh|refine zt ?_|(with_reducible first|exact g1|exact g2)|fail)
 refine Exists.intro (noO 1 (.node a n m sz mk)) (And.intro (congrArg (noO 1) hx) ?_)
 repeat' (first|apply And.intro|exact trivial|exact rfl|exact zf|exact zh|refine zt ?_|fail)
 refine Exists.intro (noO 1 (.node a n m (sz+dv p) mk)) (And.intro (pZ x _ _) ?_)
 repeat' (first|apply And.intro|exact trivial|exact rfl|exact zf|exact zh|refine zt ?_|fail)
 ·refine fun (h:decide ((j:Int)=(t.length:Int))=true)=>?_
  have hj:j=t.length:=by have:=of_decide_eq_true h; omega
  have hfin:F=⟨bump p M x,k,x⟩:=by rw [<- k2,hj,List.drop_length]; rfl
  subst hfin
  have hN:bump p M x=put M x (.node a n m (sz+dv p) []):=iT hx
  have hc1:Cl (put M x (.node a n m (sz+dv p) [])) k:=by rw [<- hN]; exact (Ok.bump (p:=p) k1).cl
  have hv:put M x (.node a n m (sz+dv p) []) x=.node a n m (sz+dv p) []:=bL _ _ _
  have hl:=hc1.lst _ _ _ _ _ _ hv
  have hidl:=jR hl
  have hf0:=hc1.free k (Nat.le_refl _)
  simp only [hN,lV hv] at hs hn hd
  rw [hidl] at hn
  cases p
  ·have hd':=hd rfl
   repeat' (first|apply And.intro|exact trivial|exact rfl|exact zf|exact zh|refine zt ?_|fail)
   refine Exists.intro (PX.mk (put M x (.node a n m (sz+dv false) [])) x a n m (sz+dv false) [] 0 t i) (Exists.intro [1,2] ?_)
   repeat' (first|apply And.intro|exact trivial|exact rfl|exact zf|exact zh|refine zt ?_|(with_reducible first|exact hv|exact hl|exact hs|exact hn|exact hd')|exact nR (iI (by exact rfl)) (fun i=>jZ (by exact rfl) (M i))|fail)
   have he:dQ false (HX.mk false N c r t i).fin.N (HX.mk false N c r t i).fin.x 0 i=iE (PX.mk (put M x (.node a n m (sz+dv false) [])) x a n m (sz+dv false) [] 0 t i):=by
    rw [<- hF]
    show dQ false (bump false M x) x 0 i=_
    rw [hN]
    simp only [dQ,hv]
    rfl
   refine fun (_:Unit) (_:True)=>?_
   repeat' (first|apply And.intro|exact trivial|exact rfl|exact zf|exact zh|refine zt ?_|fail)
   refine Exists.intro (0:Nat) ?_
   repeat' (first|apply And.intro|exact trivial|exact rfl|exact zf|exact zh|refine zt ?_|exact fun (h:false=true)=>Bool.noConfusion h|exact sub_eq he (fun i=>gP (by exact rfl) (by exact rfl) _)|fail)
  ·repeat' (first|apply And.intro|exact trivial|exact rfl|exact zf|exact zh|refine zt ?_|fail)
   refine Exists.intro (PX.mk (put M x (.node a n m (sz+dv true) [])) x a n m (sz+dv true) [] k t i) (Exists.intro [1,2] ?_)
   repeat' (first|apply And.intro|exact trivial|exact rfl|exact zf|exact zh|refine zt ?_|(with_reducible first|exact hv|exact hl|exact hs|exact hn|exact hf0)|exact nR (iI (by exact rfl)) (fun i=>jZ (by exact rfl) (M i))|fail)
   have he:∀ y,dQ true (HX.mk true N c r t i).fin.N (HX.mk true N c r t i).fin.x y i=Vw (PX.mk (put M x (.node a n m (sz+dv true) [])) x a n m (sz+dv true) [] k t i) y:=by
    intro y
    rw [<- hF]
    show dQ true (bump true M x) x y i=_
    rw [hN]
    simp only [dQ,hv]
    rfl
   refine fun (y:Nat) (hy:(y=a/\cE (put M x (.node a n m (sz+dv true) [])) a≠[])\/y=k)=>?_
   have hy':true=true->(y=zN (HX.mk true N c r t i).fin.N (HX.mk true N c r t i).fin.x/\cE (HX.mk true N c r t i).fin.N y≠[])\/y=(HX.mk true N c r t i).fin.c:=by
    intro _
    rw [<- hF]
    show (y=zN (bump true M x) x/\cE (bump true M x) y≠[])\/y=k
    rw [hN]
    rcases hy with ⟨rfl,h⟩|h
    ·exact .inl ⟨by simp only [zN,hv],h⟩
    ·exact .inr h
   repeat' (first|apply And.intro|exact trivial|exact rfl|exact zf|exact zh|refine zt ?_|fail)
   refine Exists.intro y ?_
   repeat' (first|apply And.intro|exact trivial|exact rfl|with_reducible exact hy' rfl|exact zf|exact zh|refine zt ?_|exact sub_eq (he y) (fun i=>gP (by exact rfl) (by exact rfl) _)|fail)
 ·refine fun (h:decide ((j:Int)=(t.length:Int))=false)=>?_
  have hj:j < t.length:=by have:=of_decide_eq_false h; omega
  have g3:(0:Int)<=(j:Int):=by omega
  have g4:(j:Int) < (t.length:Int):=by omega
  have hdr:t.drop j=t.getD j 0::t.drop (j+1):=by rw [List.drop_eq_getElem_cons hj]; simp [hj]
  obtain ⟨b,hbb⟩:∃ b,b=t.getD j 0:=⟨_,rfl⟩
  repeat' (first|apply And.intro|exact trivial|exact rfl|exact zf|exact zh|refine zt ?_|(with_reducible first|exact g3|exact g4)|fail)
  have hmx:m≠x:=lX hx hm
  have hfm:(bif Nat.beq m x then noO 1 (.node a n m (sz+dv p) []) else bif Nat.beq m x then noO 1 (.node a n m (sz+dv p) mk) else noO 1 (M m))=noO 1 (.map l q):=by rw [yE hmx,hm]; rfl
  refine Exists.intro (noO 1 (.node a n m (sz+dv p) [])) (And.intro (pZ x _ _) ?_)
  repeat' (first|apply And.intro|exact trivial|exact rfl|exact zf|exact zh|refine zt ?_|fail)
  refine Exists.intro (noO 1 (.map l q)) (And.intro hfm ?_)
  repeat' (first|apply And.intro|exact trivial|exact rfl|exact zf|exact zh|refine zt ?_|fail)
  have hN:bump p M x=put M x (.node a n m (sz+dv p) []):=iT hx
  have hv:put M x (.node a n m (sz+dv p) []) x=.node a n m (sz+dv p) []:=bL _ _ _
  have hm1:put M x (.node a n m (sz+dv p) []) m=.map l q:=(aG hmx).trans hm
  have hk1:Ok ⟨put M x (.node a n m (sz+dv p) []),k,x⟩ (1000000000000+(j:Int)+1):=by rw [<- hN]; exact Ok.bump (p:=p) k1
  have hst:=Ok.step (p:=p) hk1 (by omega) (t.getD j 0)
  have k3:chN p (stN p ⟨put M x (.node a n m (sz+dv p) []),k,x⟩ (t.getD j 0)) (t.drop (j+1))=F:=by rw [<- k2,hdr,<- hN]; rfl
  cases hl:mget l (dC (t.getD j 0)) with
  | none =>
   refine iB.zV hl ?_
   repeat' (first|apply And.intro|exact trivial|exact rfl|exact zf|exact zh|refine zt ?_|fail)
   have hxk:x < k:=k1.cl.lt (by show M x≠_; rw [hx]; intro h; cases h)
   have hmk:m < k:=k1.cl.lt (by show M m≠_; rw [hm]; intro h; cases h)
   have hx2:eV (put M x (.node a n m (sz+dv p) [])) k x=.node a n m (sz+dv p) []:=(oG hxk).trans hv
   have hm2:eV (put M x (.node a n m (sz+dv p) [])) k m=.map l q:=(oG hmk).trans hm1
   have g7:((0:Int)+dv p)≠0:=U1 p
   have g5:-9223372036854775808<=(0:Int)+dv p:=by omega
   have g6:(0:Int)+dv p<=9223372036854775807:=by omega
   have hcl:Cl (put M x (.node a n m (sz+dv p) [])) k:=hk1.cl
   have hkid:rX (put M x (.node a n m (sz+dv p) [])) x (t.getD j 0)=none:=by rw [kJ hv hm1,hl]; rfl
   have hstn:stN p ⟨put M x (.node a n m (sz+dv p) []),k,x⟩ (t.getD j 0)=⟨put (eV (put M x (.node a n m (sz+dv p) [])) k) m (.map (l++[(dC (t.getD j 0),k+1,q)]) (q+1)),k+3,k+1⟩:=by
    unfold stN
    simp only [hkid,nZ hv hm1]
   rw [hstn] at hst k3
   refine Exists.intro (put M x (.node a n m (sz+dv p) []),k) (Exists.intro [1] ?_)
   repeat' (first|apply And.intro|exact trivial|exact rfl|exact zf|exact zh|refine zt ?_|exact nR (iI (by exact rfl)) (fun i=>jZ (by exact rfl) (M i))|exact hcl|fail)
   refine fun (_:Unit) (_:True)=>?_
   repeat' (first|apply And.intro|exact trivial|exact rfl|exact zf|exact zh|refine zt ?_|(with_reducible first|exact g3|exact g4)|fail)
   refine Exists.intro (rnO [(0,1)] [(1,0)] (noO 0 (.node a n m (sz+dv p) []))) (And.intro (congrArg (fun o=>rnO [(0,1)] [(1,0)] (noO 0 o)) hx2) ?_)
   repeat' (first|apply And.intro|exact trivial|exact rfl|exact zf|exact zh|refine zt ?_|fail)
   refine Exists.intro (rnO [(0,1)] [(1,0)] (noO 0 (.map l q))) (And.intro (congrArg (fun o=>rnO [(0,1)] [(1,0)] (noO 0 o)) hm2) ?_)
   repeat' (first|apply And.intro|exact trivial|exact rfl|exact zf|exact zh|refine zt ?_|fail)
   refine iB.zV hl ?_
   repeat' (first|apply And.intro|exact trivial|exact rfl|exact zf|exact zh|refine zt ?_|fail)
   have hkm:k+1≠m:=by omega
   have k0':j+1<=t.length:=hj
   have hb2:T8.Ok ⟨put (eV (put M x (.node a n m (sz+dv p) [])) k) m (.map (l++[(dC (t.getD j 0),k+1,q)]) (q+1)),k+3,k+1⟩ (1000000000000+((j+1:Nat):Int)):=by
    have:(1000000000000+((j+1:Nat):Int))=1000000000000+(j:Int)+1:=by omega
    rw [this]; exact hst
   have hme:t.length - (j+1) < t.length - j:=by omega
   have g8:-9223372036854775808<=(j:Int)+1:=by omega
   have g9:(j:Int)+1<=9223372036854775807:=by omega
   refine Exists.intro (rnO [(0,1)] [(1,0)] (noO 0 (.node (k+2) 0 k 0 []))) (And.intro ((R1 hkm _ _).trans (congrArg (fun o=>rnO [(0,1)] [(1,0)] (noO 0 o)) qV)) ?_)
   repeat' (first|apply And.intro|exact trivial|exact rfl|exact zf|exact zh|refine zt ?_|(with_reducible first|exact g5|exact g6)|fail)
   ·exact fun h=>absurd (of_decide_eq_true h) g7
   ·refine fun (_:decide ((0:Int)+dv p=0)=false)=>?_
    repeat' (first|apply And.intro|exact trivial|exact rfl|exact zf|exact zh|refine zt ?_|(with_reducible first|exact g8|exact g9)|fail)
    refine Exists.intro (j+1,⟨put (eV (put M x (.node a n m (sz+dv p) [])) k) m (.map (l++[(dC (t.getD j 0),k+1,q)]) (q+1)),k+3,k+1⟩) ?_
    repeat' (first|apply And.intro|exact trivial|exact rfl|exact zf|exact zh|refine zt ?_|(with_reducible first|exact k0'|exact hb2|exact k3|exact hme)|exact mD (Nh fun v=>rfl) (fun i=>gP (by exact rfl) (by exact rfl) _)|fail)
  | some e =>
   obtain ⟨v,w⟩:=e
   refine iB.tT hl ?_
   repeat' (first|apply And.intro|exact trivial|exact rfl|exact zf|exact zh|refine zt ?_|fail)
   have hkid:rX (put M x (.node a n m (sz+dv p) [])) x (t.getD j 0)=some v:=by rw [kJ hv hm1,hl]; rfl
   obtain ⟨a1,n1,m1,sz1,mk1,hv1⟩:isNode (put M x (.node a n m (sz+dv p) [])) v:=hk1.cl.kid hkid
   have hf:∀ u,(bif Nat.beq u x then noO 1 (.node a n m (sz+dv p) []) else bif Nat.beq u x then noO 1 (.node a n m (sz+dv p) mk) else noO 1 (M u))=noO 1 (put M x (.node a n m (sz+dv p) []) u):=by
    intro u
    unfold put
    cases Nat.beq u x <;> rfl
   have hb1:=hk1.bd _ _ _ _ _ _ hv1
   have g5:-9223372036854775808<=sz1+dv p:=by omega
   have g6:sz1+dv p<=9223372036854775807:=by omega
   have g8:-9223372036854775808<=(j:Int)+1:=by omega
   have g9:(j:Int)+1<=9223372036854775807:=by omega
   have k0':j+1<=t.length:=hj
   have hme:t.length - (j+1) < t.length - j:=by omega
   have hcast:(1000000000000+((j+1:Nat):Int))=1000000000000+(j:Int)+1:=by omega
   have hstn:stN p ⟨put M x (.node a n m (sz+dv p) []),k,x⟩ (t.getD j 0)=⟨if sz1+dv p=0 then put (put M x (.node a n m (sz+dv p) [])) m (.map (mdel l (dC (t.getD j 0))) q) else put M x (.node a n m (sz+dv p) []),k,v⟩:=by
    unfold stN
    simp only [hkid,rL hv hm1,Cx hv1]
   rw [hstn] at hst k3
   refine Exists.intro (noO 1 (.node a1 n1 m1 sz1 mk1)) (And.intro ((hf v).trans (congrArg (noO 1) hv1)) ?_)
   repeat' (first|apply And.intro|exact trivial|exact rfl|exact zf|exact zh|refine zt ?_|(with_reducible first|exact g5|exact g6)|fail)
   ·refine fun (h0:decide (sz1+dv p=0)=true)=>?_
    rw [if_pos (of_decide_eq_true h0)] at hst k3
    have hb2:T8.Ok ⟨put (put M x (.node a n m (sz+dv p) [])) m (.map (mdel l (dC (t.getD j 0))) q),k,v⟩ (1000000000000+((j+1:Nat):Int)):=by rw [hcast]; exact hst
    repeat' (first|apply And.intro|exact trivial|exact rfl|exact zf|exact zh|refine zt ?_|(with_reducible first|exact g3|exact g4)|fail)
    refine Exists.intro (noO 1 (.node a n m (sz+dv p) [])) (And.intro (pZ x _ _) ?_)
    repeat' (first|apply And.intro|exact trivial|exact rfl|exact zf|exact zh|refine zt ?_|fail)
    refine Exists.intro (noO 1 (.map l q)) (And.intro hfm ?_)
    repeat' (first|apply And.intro|exact trivial|exact rfl|exact zf|exact zh|refine zt ?_|(with_reducible first|exact g8|exact g9)|fail)
    refine Exists.intro (j+1,⟨put (put M x (.node a n m (sz+dv p) [])) m (.map (mdel l (dC (t.getD j 0))) q),k,v⟩) ?_
    repeat' (first|apply And.intro|exact trivial|exact rfl|exact zf|exact zh|refine zt ?_|(with_reducible first|exact k0'|exact hb2|exact k3|exact hme)|exact mD (Nh fun v=>rfl) (nR (iI (by exact rfl)) (fun i=>jZ (by exact rfl) (M i)))|fail)
   ·refine fun (h0:decide (sz1+dv p=0)=false)=>?_
    rw [if_neg (of_decide_eq_false h0)] at hst k3
    have hb2:T8.Ok ⟨put M x (.node a n m (sz+dv p) []),k,v⟩ (1000000000000+((j+1:Nat):Int)):=by rw [hcast]; exact hst
    repeat' (first|apply And.intro|exact trivial|exact rfl|exact zf|exact zh|refine zt ?_|(with_reducible first|exact g8|exact g9)|fail)
    refine Exists.intro (j+1,⟨put M x (.node a n m (sz+dv p) []),k,v⟩) ?_
    repeat' (first|apply And.intro|exact trivial|exact rfl|exact zf|exact zh|refine zt ?_|(with_reducible first|exact k0'|exact hb2|exact k3|exact hme)|exact nR (iI (by exact rfl)) (fun i=>jZ (by exact rfl) (M i))|fail)
end T9
end
section
open Go Go.Eng Go.Proofs
set_option maxRecDepth 100000
namespace L1
def iG (s:List UInt8) (c:Int) (f:Nat->Int) (j:Nat):Int:=bif s.any (fun b=>Nat.beq b.toNat j) then c else f j
def g117:List Nat:=[11,0,1,4]
def c117:aF :=
 .seq (.region g117 [(zo 4 (.move (cj 0)))]) (.seq (.seq (.region g117 [(mv 5 1),(mv 6 0),(zo 7 (.nilCheck (.s 6))),(fa 8 0 7),(ld 9 8),(zo 10 (.lenStr (.s 9))),(zo 11 (.bin (.geq) (.s 5) (.s 10)))]) (.cond (.s 11) (.seq (.region g117 [(zo 4 (.move (cj 0)))]) .ret) .skip)) (.seq (.drawn g117 (.pure 0 (mv 12 0) (.pure 1 (mv 13 0) (.pure 2 (zo 14 (.nilCheck (.s 13))) (.pure 3 (fa 15 0 14) (.pure 4 (ld 16 15) (.pure 5 (mv 17 1) (.pure 6 (zo 18 (.idxStr (.s 16) (.s 17))) (.pure 7 (zo 19 (.nilCheck (.s 12))) (.pure 8 (fa 20 1 19) (.pure 9 (zo 21 (.idxArr 256 1 (.s 20) (.s 18))) (.pure 10 (ld 22 21) (.pure 11 (mv 4 22) .done))))))))))))) .ret))
theorem e117:aO Tryz.prog 117 g117 [] [] []=some (c117,[.slot 4],23):=by kernel_rfl
def AtX:=List UInt8×(Nat->Int)×Int
def atV (t:List UInt8) (f:Nat->Int) (i:Int):Int:=bif decide (i>=(t.length:Int)) then 0 else f (t.getD i.toNat 0).toNat
def atS:Eng.Spec where
 X:=AtX
 args:=fun x=>.cons (.cptr (.cons (.str x.1) (.ints .i64 256 x.2.1 .nil))) (.cons (.int .i64 x.2.2) .nil)
 pre:=fun x=>0<=x.2.2
 res:=fun x=>.int .i64 (atV x.1 x.2.1 x.2.2)
 inst:=fun s=>match s with
  | .cons (.cptr (.cons (.str t) (.ints _ _ f _))) (.cons (.int _ i) _)=>some (t,f,i)
  | _=>none
theorem wN:atS.Ok Tryz.prog 117:=by
 refine Eng.Spec.oU e117 .nil (fun _=>[]) (fun _ _=>aD.nil) ?_
 rintro ⟨t,f,i⟩ (h0:0<=i)
 refine ⟨trivial,?_⟩
 repeat' (first|apply And.intro|exact trivial|exact rfl)
 ·refine fun (hg:decide ((t.length:Int)<=i)=true)=>?_
  have e:0=atV t f i:=by
   unfold atV
   rw [show decide (i>=(t.length:Int))=true from hg]; rfl
  repeat' (first|apply And.intro|exact trivial|exact rfl|exact e)
 ·refine fun (hg:decide ((t.length:Int)<=i)=false)=>?_
  have h1:i < (t.length:Int):=Int.not_le.1 (of_decide_eq_false hg)
  have h2:(0:Int)<=((t.getD i.toNat 0).toNat:Int):=by omega
  have h3:((t.getD i.toNat 0).toNat:Int) < 256:=by have:=(t.getD i.toNat 0).toNat_lt; omega
  have e:f ((t.getD i.toNat 0).toNat:Int).toNat=atV t f i:=by
   unfold atV
   rw [show decide (i>=(t.length:Int))=false from hg]; rfl
  repeat' (first|apply And.intro|exact trivial|exact rfl|exact h0|exact h1|exact h2|exact h3|exact e)
def g115:List Nat:=[9,0,1,2,5]
def c115:aF :=
 .seq (.region g115 [(zo 5 (.move (cj 0)))]) (.block 0 (.loop 0 [6,7,8,9,12,13,14,15,16,10,11,5] (.seq (.seq (.region g115 [(mv 6 5),(mv 7 0),(zo 8 (.lenStr (.s 7))),(zo 9 (.bin (.lss) (.s 6) (.s 8)))]) (.cond (.s 9) .skip (.exit 0))) (.seq (.block 1 (.region g115 [(mv 12 0),(mv 13 5),(zo 14 (.idxStr (.s 12) (.s 13))),(mv 15 1),(zo 16 (.idxArr 256 1 (.s 2) (.s 14))),⟨none,none,.store 1 (.s 16) (.s 15),[]⟩])) (.region g115 [(mv 10 5),(zo 11 (.bin (.add) (.s 10) (cj 1))),(mv 5 11)])))))
theorem e115:aO Tryz.prog 115 g115 [] [] []=some (c115,[],17):=by kernel_rfl
theorem M6 {c:Int} {f:Nat->Int} {i:Nat} {s:List UInt8}:f i=iG (s.take 0) c f i:=by simp [iG]
theorem M7 {s:List UInt8} {c:Int} {f:Nat->Int} {k:Nat} (h:k < s.length) (i:Nat):(bif Nat.beq i (((s.getD (k:Int).toNat 0).toNat:Int).toNat+0) then c else iG (s.take k) c f i)=iG (s.take (k+1)) c f i:=by
 unfold iG
 rw [List.take_succ_eq_append_getElem h,List.any_append]
 simp only [Int.toNat_natCast,Nat.add_zero,List.getD_eq_getElem?_getD,List.getElem?_eq_getElem h,Option.getD_some,List.any_cons,List.any_nil,Bool.or_false]
 by_cases e:i=s[k].toNat
 ·subst e
  rw [Nat.beq_refl]
  simp
 ·have h1:Nat.beq i s[k].toNat=false:=by
   cases hb:Nat.beq i s[k].toNat with
   | false=>rfl
   | true=>exact absurd (nbeq hb) e
  have h2:Nat.beq s[k].toNat i=false:=by
   cases hb:Nat.beq s[k].toNat i with
   | false=>rfl
   | true=>exact absurd (nbeq hb).symm e
  rw [h1,h2]
  simp
def P6:Eng.aK where
 X:=List UInt8×Int×(Nat->Int)
 Y:=Nat->Int
 args:=fun x=>.cons (.str x.1) (.cons (.int .i64 x.2.1) (.cons (.own 0 0) .nil))
 pre:=fun x=>x.1.length<=1000
 h0:=fun x=>[(0,.cells 124 (.ints .i64 256 x.2.2 .nil))]
 nx0:=1
 post:=fun x y=>y=iG x.1 x.2.1 x.2.2
 res:=fun _ _=>.tup .nil
 h1:=fun _ y=>[(0,.cells 124 (.ints .i64 256 y .nil))]
 nx1:=1
theorem Fp:P6.Ok Tryz.prog 115:=by
 refine Eng.aK.oU e115 .nil (fun _=>[]) (fun _ _=>aD.nil) ?_
 rintro ⟨s,c,f⟩ (hs:s.length<=1000)
 refine ⟨trivial,?_⟩
 repeat' (first|apply And.intro|exact trivial|exact rfl)
 refine ⟨⟨Nat,fun k=>k<=s.length,fun k=>[(5,.int .i64 (k:Int))],fun k=>[(0,.cells 124 (.ints .i64 256 (iG (s.take k) c f) .nil))],fun k=>s.length - k⟩,0,Nat.zero_le _,?_,?_⟩
 ·repeat' (first|apply And.intro|exact trivial|exact rfl|exact fun (i:Nat) (_:i < 256)=>M6)
 rintro (k:Nat) (hk:k<=s.length)
 repeat' (first|apply And.intro|exact trivial|exact rfl)
 ·refine fun (hg:decide ((k:Int) < (s.length:Int))=true)=>?_
  have h1:(k:Int) < (s.length:Int):=of_decide_eq_true hg
  have h0:(0:Int)<=(k:Int):=by omega
  have h2:(0:Int)<=((s.getD (k:Int).toNat 0).toNat:Int):=by omega
  have h3:((s.getD (k:Int).toNat 0).toNat:Int) < 256:=by have:=(s.getD (k:Int).toNat 0).toNat_lt; omega
  have h4:((s.getD (k:Int).toNat 0).toNat:Int).toNat < 256 - 0:=by omega
  have b1:-9223372036854775808<=(k:Int)+1:=by omega
  have b2:(k:Int)+1<=9223372036854775807:=by omega
  have hkl:k < s.length:=by omega
  repeat' (first|apply And.intro|exact trivial|exact rfl)
  ·exact h0
  ·exact h1
  ·exact h2
  ·exact h3
  ·exact h4
  ·exact b1
  ·exact b2
  refine Exists.intro (k+1) ?_
  repeat' (first|apply And.intro|exact trivial|exact rfl)
  ·show k+1<=s.length
   exact hkl
  ·exact fun (i:Nat) (_:i < 256)=>M7 hkl i
  ·show s.length - (k+1) < s.length - k
   omega
 ·refine fun (hg:decide ((k:Int) < (s.length:Int))=false)=>?_
  have h1:¬ (k:Int) < (s.length:Int):=of_decide_eq_false hg
  have hkl:k=s.length:=by omega
  subst hkl
  repeat' (first|apply And.intro|exact trivial|exact rfl|(refine Exists.intro (iG s c f) ?_))
  exact fun (i:Nat) (_:i < 256)=>by rw [List.take_length]
end L1
end
section
open Go Go.Eng Go.Proofs L1
set_option maxRecDepth 100000
namespace L2
def f0:Nat->Int:=fun _=>0
def t1:List UInt8:=[97,98,99,100,101,102,103,104,105,106,107,108,109,110,111,112,113,114,115,116,117,118,119,120,121,122,65,66,67,68,69,70,71,72,73,74,75,76,77,78,79,80,81,82,83,84,85,86,87,88,89,90]
def f1:Nat->Int:=iG t1 3 f0
def t2:List UInt8:=[48,49,50,51,52,53,54,55,56,57]
def f2:Nat->Int:=iG t2 4 f1
def t3:List UInt8:=[95]
def f3:Nat->Int:=iG t3 5 f2
def t4:List UInt8:=[32,9,10]
def f4:Nat->Int:=iG t4 1 f3
def t5:List UInt8:=[35]
def f5:Nat->Int:=iG t5 2 f4
def t6:List UInt8:=[34]
def f6:Nat->Int:=iG t6 6 f5
def t7:List UInt8:=[33]
def f7:Nat->Int:=iG t7 7 f6
def t8:List UInt8:=[60,62]
def f8:Nat->Int:=iG t8 8 f7
def t9:List UInt8:=[59,44,46,58,40,41,91,93,123,125,61,43,45]
def f9:Nat->Int:=iG t9 9 f8
abbrev cls:=f9
def g93:List Nat:=[2,1,0]
def c93:aF :=
 .seq (.region g93 [(zo 0 (.alloc 124 (.zeros .i64 256 .nil)))]) (.seq (.region g93 [(zo 1 (.alloc 124 (.zeros .i64 256 .nil)))]) (.seq (.region g93 [(zo 3 (.mkfn 115 [.s 1])),(mv 2 3)]) (.seq (.region g93 [(mv 4 2),(zo 5 (.call (.s 4) [.c (.str [97,98,99,100,101,102,103,104,105,106,107,108,109,110,111,112,113,114,115,116,117,118,119,120,121,122,65,66,67,68,69,70,71,72,73,74,75,76,77,78,79,80,81,82,83,84,85,86,87,88,89,90]),cj 3]))]) (.seq (.region g93 [(mv 6 2),(zo 7 (.call (.s 6) [.c (.str [48,49,50,51,52,53,54,55,56,57]),cj 4]))]) (.seq (.region g93 [(mv 8 2),(zo 9 (.call (.s 8) [.c (.str [95]),cj 5]))]) (.seq (.region g93 [(mv 10 2),(zo 11 (.call (.s 10) [.c (.str [32,9,10]),cj 1]))]) (.seq (.region g93 [(mv 12 2),(zo 13 (.call (.s 12) [.c (.str [35]),cj 2]))]) (.seq (.region g93 [(mv 14 2),(zo 15 (.call (.s 14) [.c (.str [34]),cj 6]))]) (.seq (.region g93 [(mv 16 2),(zo 17 (.call (.s 16) [.c (.str [33]),cj 7]))]) (.seq (.region g93 [(mv 18 2),(zo 19 (.call (.s 18) [.c (.str [60,62]),cj 8]))]) (.seq (.region g93 [(mv 20 2),(zo 21 (.call (.s 20) [.c (.str [59,44,46,58,40,41,91,93,123,125,61,43,45]),cj 9]))]) (.seq (.region g93 [(zo 22 (.load 256 true (.s 1))),⟨none,none,.store 256 (.s 0) (.s 22),[]⟩]) .ret))))))))))))
theorem e93:aO Tryz.prog 93 g93 [] [] []=some (c93,[.cell 0 256 true],23):=by kernel_rfl
def Ur:Eng.Spec where
 X:=Unit
 args:=fun _=>.nil
 pre:=fun _=>True
 res:=fun _=>.agg (.ints .i64 256 cls .nil)
 inst:=fun _=>some ()
theorem R8:Ur.Ok Tryz.prog 93:=by
 refine Eng.Spec.oU e93 .nil (fun _=>[(115,.m P6)]) (fun _ _=>aD.m Fp aD.nil) ?_
 rintro ⟨⟩ _
 refine ⟨trivial,?_⟩
 refine Exists.intro (t1,3,f0) (Exists.intro [1] ?_)
 repeat' (first|apply And.intro|exact trivial|exact rfl|exact (by decide:t1.length<=1000)|exact fun (i:Nat) (_:i < 256)=>rfl)
 refine fun (y1:Nat->Int) (hy1:y1=iG t1 3 f0)=>?_
 repeat' (first|apply And.intro|exact trivial|exact rfl)
 refine Exists.intro (t2,4,y1) (Exists.intro [1] ?_)
 repeat' (first|apply And.intro|exact trivial|exact rfl|exact (by decide:t2.length<=1000)|exact fun (i:Nat) (_:i < 256)=>rfl)
 refine fun (y2:Nat->Int) (hy2:y2=iG t2 4 y1)=>?_
 repeat' (first|apply And.intro|exact trivial|exact rfl)
 refine Exists.intro (t3,5,y2) (Exists.intro [1] ?_)
 repeat' (first|apply And.intro|exact trivial|exact rfl|exact (by decide:t3.length<=1000)|exact fun (i:Nat) (_:i < 256)=>rfl)
 refine fun (y3:Nat->Int) (hy3:y3=iG t3 5 y2)=>?_
 repeat' (first|apply And.intro|exact trivial|exact rfl)
 refine Exists.intro (t4,1,y3) (Exists.intro [1] ?_)
 repeat' (first|apply And.intro|exact trivial|exact rfl|exact (by decide:t4.length<=1000)|exact fun (i:Nat) (_:i < 256)=>rfl)
 refine fun (y4:Nat->Int) (hy4:y4=iG t4 1 y3)=>?_
 repeat' (first|apply And.intro|exact trivial|exact rfl)
 refine Exists.intro (t5,2,y4) (Exists.intro [1] ?_)
 repeat' (first|apply And.intro|exact trivial|exact rfl|exact (by decide:t5.length<=1000)|exact fun (i:Nat) (_:i < 256)=>rfl)
 refine fun (y5:Nat->Int) (hy5:y5=iG t5 2 y4)=>?_
 repeat' (first|apply And.intro|exact trivial|exact rfl)
 refine Exists.intro (t6,6,y5) (Exists.intro [1] ?_)
 repeat' (first|apply And.intro|exact trivial|exact rfl|exact (by decide:t6.length<=1000)|exact fun (i:Nat) (_:i < 256)=>rfl)
 refine fun (y6:Nat->Int) (hy6:y6=iG t6 6 y5)=>?_
 repeat' (first|apply And.intro|exact trivial|exact rfl)
 refine Exists.intro (t7,7,y6) (Exists.intro [1] ?_)
 repeat' (first|apply And.intro|exact trivial|exact rfl|exact (by decide:t7.length<=1000)|exact fun (i:Nat) (_:i < 256)=>rfl)
 refine fun (y7:Nat->Int) (hy7:y7=iG t7 7 y6)=>?_
 repeat' (first|apply And.intro|exact trivial|exact rfl)
 refine Exists.intro (t8,8,y7) (Exists.intro [1] ?_)
 repeat' (first|apply And.intro|exact trivial|exact rfl|exact (by decide:t8.length<=1000)|exact fun (i:Nat) (_:i < 256)=>rfl)
 refine fun (y8:Nat->Int) (hy8:y8=iG t8 8 y7)=>?_
 repeat' (first|apply And.intro|exact trivial|exact rfl)
 refine Exists.intro (t9,9,y8) (Exists.intro [1] ?_)
 repeat' (first|apply And.intro|exact trivial|exact rfl|exact (by decide:t9.length<=1000)|exact fun (i:Nat) (_:i < 256)=>rfl)
 refine fun (y9:Nat->Int) (hy9:y9=iG t9 9 y8)=>?_
 repeat' (first|apply And.intro|exact trivial|exact rfl)
 have e:y9=cls:=by rw [hy9,hy8,hy7,hy6,hy5,hy4,hy3,hy2,hy1]; rfl
 exact fun (i:Nat) (_:i < 256)=>congrFun e i
end L2
end
section
open Go Go.Eng Go.Proofs L1 L2 L3
set_option maxRecDepth 100000
namespace L4
def Ed (f:Nat->Int) (n:Nat) (cs:Nat->Int) (b:UInt8):Bool:=decide (∃ i,i < n/\cs i=f b.toNat)
structure WX where
 t:List UInt8
 f:Nat->Int
 i:Int
 n:Nat
 cs:Nat->Int
def whl (x:WX):Nat:=((x.t.drop x.i.toNat).takeWhile (Ed x.f x.n x.cs)).length
theorem tw {p:UInt8->Bool}:∀ (l:List UInt8) (k:Nat),k<=(l.takeWhile p).length->(k < (l.takeWhile p).length ↔ ∃ b,l[k]?=some b/\p b=true):=by
 intro l
 induction l with
 | nil=>intro k _; simp
 | cons a l ih =>
  intro k hk
  cases hp:p a with
  | false =>
   rw [List.takeWhile_cons_of_neg (by simp [hp])] at hk ⊢
   have:k=0:=by simpa using hk
   subst this
   simp [hp]
  | true =>
   rw [List.takeWhile_cons_of_pos hp] at hk ⊢
   cases k with
   | zero=>simp [hp]
   | succ k =>
    have:=ih k (by simpa using hk)
    simpa using this
theorem sN {x:WX}:whl x<=x.t.length - x.i.toNat:=by
 unfold whl
 have:=(List.takeWhile_prefix (Ed x.f x.n x.cs) (l:=x.t.drop x.i.toNat)).length_le
 simpa using this
theorem vT {t:List UInt8} {f:Nat->Int} {i:Int} {n:Nat} {cs:Nat->Int} {k:Nat} (h0:0<=i) (hk:k<=whl ⟨t,f,i,n,cs⟩) :
  aS (decide (i+(k:Int) < (t.length:Int))) (.s 19) cF (decide (∃ j,j < n/\cs j=atV t f (i+(k:Int)))) false=decide (k < whl ⟨t,f,i,n,cs⟩):=by
 show (decide (i+(k:Int) < (t.length:Int)) && decide (∃ j,j < n/\cs j=atV t f (i+(k:Int))))=_
 rw [Bool.eq_iff_iff,Bool.and_eq_true,decide_eq_true_iff,decide_eq_true_iff,decide_eq_true_iff]
 unfold whl at hk ⊢
 rw [tw _ _ hk]
 dsimp only
 rw [List.getElem?_drop]
 have e:(i+(k:Int)).toNat=i.toNat+k:=by omega
 constructor
 ·rintro ⟨h1,h2⟩
  have h3:i.toNat+k < t.length:=by omega
  refine ⟨t[i.toNat+k],List.getElem?_eq_getElem h3,?_⟩
  unfold Ed
  unfold atV at h2
  rw [show decide (i+(k:Int)>=(t.length:Int))=false from decide_eq_false (by omega),cond_false,e,List.getD_eq_getElem?_getD,List.getElem?_eq_getElem h3] at h2
  exact decide_eq_true h2
 ·rintro ⟨b,h1,h2⟩
  obtain ⟨h3,rfl⟩:=List.getElem?_eq_some_iff.1 h1
  refine ⟨by omega,?_⟩
  unfold Ed at h2
  unfold atV
  rw [show decide (i+(k:Int)>=(t.length:Int))=false from decide_eq_false (by omega),cond_false,e,List.getD_eq_getElem?_getD,List.getElem?_eq_getElem h3]
  exact of_decide_eq_true h2
def g116:List Nat:=[2,0,20,1,6]
def c116:aF :=
 .seq (.region g116 [(zo 6 (.move (cj 0)))]) (.seq (.block 0 (.loop 0 [7,8,9,10,11,12,13,14,15,16,17,18,19,20,21,22,1] (.seq (.seq (.region g116 [(mv 7 1),(mv 8 0),(zo 9 (.nilCheck (.s 8))),(fa 10 0 9),(ld 11 10),(zo 12 (.lenStr (.s 11))),(zo 13 (.bin (.lss) (.s 7) (.s 12))),(mv 14 13),(mg 15 14 true 2),(mg 16 14 true 0),(mg 17 14 true 1),(zg 18 14 true (.call (.c (.fn 117)) [.s 16,.s 17])),(zg 19 14 true (.call (.c (.fn 137)) [.s 15,.s 18])),(zo 20 (.pick (.s 14) (.s 19) cF))]) (.cond (.s 20) .skip (.exit 0))) (.block 1 (.region g116 [(mv 21 1),(zo 22 (.bin (.add) (.s 21) (cj 1))),(mv 1 22)]))))) (.seq (.region g116 [(mv 23 1),(mv 6 23)]) .ret))
theorem e116:aO Tryz.prog 116 g116 [] [] []=some (c116,[.slot 6],24):=by kernel_rfl
def Ug:Eng.Spec where
 X:=WX
 args:=fun x=>.cons (.cptr (.cons (.str x.t) (.ints .i64 256 x.f .nil))) (.cons (.int .i64 x.i) (.cons (.slice 1 x.n fun i=>.cons (.int .i64 (x.cs i)) .nil) .nil))
 pre:=fun x=>0<=x.i/\x.i<=(x.t.length:Int)/\x.t.length<=1000000/\x.n<=1000000
 res:=fun x=>.int .i64 (x.i+(whl x:Nat))
 inst:=fun s=>match s with
  | .cons (.cptr (.cons (.str t) (.ints _ _ f _))) (.cons (.int _ i) (.cons l _))=>match zH l with
   | some (n,cs)=>some ⟨t,f,i,n,cs⟩
   | none=>none
  | _=>none
theorem Nx:Ug.Ok Tryz.prog 116:=by
 refine Eng.Spec.oU e116 .nil (fun _=>[(117,.p atS),(137,.p Uv)]) (fun _ _=>aD.p wN (aD.p Sd aD.nil)) ?_
 rintro ⟨t,f,i,n,cs⟩ ⟨(h0:0<=i),(h1:i<=(t.length:Int)),(h2:t.length<=1000000),(h3:n<=1000000)⟩
 refine ⟨trivial,?_⟩
 repeat' (first|apply And.intro|exact trivial|exact rfl|exact fun (j:Nat) (hj:j < _)=>Or.inl (sub_one _ _ _ _ _))
 refine ⟨⟨Nat,fun k=>k<=whl ⟨t,f,i,n,cs⟩,fun k=>[(1,.int .i64 (i+(k:Int)))],fun _=>[],fun k=>whl ⟨t,f,i,n,cs⟩ - k⟩,0,Nat.zero_le _,?_,?_⟩
 ·repeat' (first|apply And.intro|exact trivial|exact rfl|exact fun (j:Nat) (_:j < 256)=>rfl|exact fun (j:Nat) (hj:j < _)=>Or.inl (sub_one _ _ _ _ _)|exact (Int.add_zero i).symm)
 rintro (k:Nat) (hk:k<=whl ⟨t,f,i,n,cs⟩)
 have hik:0<=i+(k:Int):=by omega
 repeat' (first|apply And.intro|exact trivial|exact rfl|exact fun (j:Nat) (_:j < 256)=>rfl|exact fun (j:Nat) (hj:j < _)=>Or.inl (sub_one _ _ _ _ _)|exact hik|exact h3|refine fun (_:decide (i+(k:Int) < (t.length:Int))=true)=>?_)
 ·refine fun hg=>?_
  have hg:aS (decide (i+(k:Int) < (t.length:Int))) (.s 19) cF (decide (∃ j,j < n/\cs j=atV t f (i+(k:Int)))) false=true:=hg
  rw [vT h0 hk] at hg
  have hlt:=of_decide_eq_true hg
  have hle:=sN (x:=⟨t,f,i,n,cs⟩)
  have hle:whl ⟨t,f,i,n,cs⟩<=t.length - i.toNat:=hle
  have b1:-9223372036854775808<=i+(k:Int)+1:=by omega
  have b2:i+(k:Int)+1<=9223372036854775807:=by omega
  repeat' (first|apply And.intro|exact trivial|exact rfl|exact fun (j:Nat) (_:j < 256)=>rfl|exact fun (j:Nat) (hj:j < _)=>Or.inl (sub_one _ _ _ _ _))
  ·exact b1
  ·exact b2
  have e2:i+(k:Int)+1=i+((k+1:Nat):Int):=by omega
  refine Exists.intro (k+1) ?_
  repeat' (first|apply And.intro|exact trivial|exact rfl|exact fun (j:Nat) (_:j < 256)=>rfl|exact fun (j:Nat) (hj:j < _)=>Or.inl (sub_one _ _ _ _ _)|exact e2)
  ·exact hlt
  ·show whl ⟨t,f,i,n,cs⟩ - (k+1) < whl ⟨t,f,i,n,cs⟩ - k
   omega
 ·refine fun hg=>?_
  have hg:aS (decide (i+(k:Int) < (t.length:Int))) (.s 19) cF (decide (∃ j,j < n/\cs j=atV t f (i+(k:Int)))) false=false:=hg
  rw [vT h0 hk] at hg
  have hlt:=of_decide_eq_false hg
  have e:i+(k:Int)=i+(whl ⟨t,f,i,n,cs⟩:Nat):=by omega
  repeat' (first|apply And.intro|exact trivial|exact rfl|exact e)
end L4
end
section
namespace Go.Proofs
open Go.Shelf
def Tryz.Br:Go.Shelf.Ren:=⟨fun|137=>118|217=>138|266=>155|n=>n,fun|9=>9|5=>5|3=>3|n=>n,fun n=>n⟩
theorem Tryz.lays137:Go.Proofs.Lays.n137 Tryz.prog Tryz.Br:={
 mixed:=by kernel_rfl
 f137:=Tryz.func118.trans (congrArg some (by kernel_rfl))
 f217:=Tryz.func138.trans (congrArg some (by kernel_rfl))
 f266:=Tryz.func155.trans (congrArg some (by kernel_rfl))
 t3:=Tryz.underlying3
 a3:=Tryz.isAgg3
 z3:=Tryz.sizeOf3
 v3:=Tryz.zeroValue3
 t5:=Tryz.underlying5
 a5:=Tryz.isAgg5
 z5:=Tryz.sizeOf5
 v5:=Tryz.zeroValue5
 t9:=Tryz.underlying9
 a9:=Tryz.isAgg9
 z9:=Tryz.sizeOf9
 v9:=Tryz.zeroValue9 }
def Tryz.E1:Go.Shelf.Ren:=⟨fun|99=>112|206=>135|n=>n,fun|9=>9|4=>4|3=>3|n=>n,fun n=>n⟩
theorem Tryz.lays99:Go.Proofs.Lays.n99 Tryz.prog Tryz.E1:={
 mixed:=by kernel_rfl
 f99:=Tryz.func112.trans (congrArg some (by kernel_rfl))
 f206:=Tryz.func135.trans (congrArg some (by kernel_rfl))
 t3:=Tryz.underlying3
 a3:=Tryz.isAgg3
 z3:=Tryz.sizeOf3
 v3:=Tryz.zeroValue3
 t4:=Tryz.underlying4
 a4:=Tryz.isAgg4
 z4:=Tryz.sizeOf4
 v4:=Tryz.zeroValue4
 t9:=Tryz.underlying9
 a9:=Tryz.isAgg9
 z9:=Tryz.sizeOf9
 v9:=Tryz.zeroValue9 }
end Go.Proofs
open Go Go.Eng Go.Proofs
namespace L5
theorem indexByte:jQ.Ok Tryz.prog 118:=zE Tryz.lays137 (enters_of Tryz.lays137.f137 (by kernel_rfl) rfl)
theorem hasPrefix:jO.Ok Tryz.prog 112:=zD Tryz.lays99 (enters_of Tryz.lays99.f99 (by kernel_rfl) rfl)
end L5
end
