/- A part of the proof. -/
import Derived.Test.YtpiolkcdfgiefaaGreatDoorT6
import Derived.Test.YtpiolkcdfgiefaaGreatDoorProg
import Derived.KernelRfl
import Derived.Test.YtpiolkcdfgiefaaGreatDoorL3
section
open Go Go.Eng Go.Proofs T1 T2 T3 T4 T5 T6
set_option maxRecDepth 100000
namespace T7
def cG (N:Nat->NO) (a:Nat):List B :=
 match N a with
 | .arr A=>A
 | _=>[]
structure PX where
 N:Nat->NO
 v:Nat
 a:Nat
 n:Nat
 m:Nat
 sz:Int
 mrk:B
 d:Nat
 t:B
 i:B
def Vm (x:PX) (y:Nat):Nat->NO:=put (put x.N y (.arr (kA (cG x.N x.a) x.n (bM (cR x.N x.a x.n) x.i) x.i))) x.v (.node y (x.n+1) x.m x.sz x.mrk)
def g45:List Nat:=[0,3,1]
def c45:aH :=
 .seq (.drawn g45 (.pure 0 (mv 6 0) (.pure 1 (zo 7 (.nilCheck (.s 6))) (.pure 2 (fa 8 0 7) (.pure 4 (fa 10 1 1) (.pure 5 (ld 11 10) (.eff 3 (ld 9 8) [(ld 11 10)] (.eff 6 (zo 12 (.call (.c (.fn 43)) [.s 9,.s 11])) [] (.pure 7 (mv 5 12) (.pure 8 (zo 13 (.extract 0 (.s 5))) (.pure 9 (zo 14 (.extract 1 (.s 5))) (.pure 10 (mv 3 13) (.pure 11 (mv 4 14) .done))))) .none) .none))))))) (.drawn g45 (.pure 0 (mv 15 0) (.pure 1 (mv 16 0) (.pure 2 (zo 17 (.nilCheck (.s 16))) (.pure 3 (fa 18 0 17) (.pure 5 (mv 20 3) (.pure 6 (fa 21 1 1) (.pure 7 (ld 22 21) (.eff 4 (ld 19 18) [(ld 22 21)] (.eff 8 (zo 23 (.buildSl 9 1 1 (.cons (.str []) .nil) [(0,1,.s 22)])) [] (.eff 9 (zo 24 (.call (.c (.fn 46)) [.s 19,.s 20,.s 23])) [] (.pure 10 (zo 25 (.nilCheck (.s 15))) (.pure 11 (fa 26 0 25) (.eff 12 ⟨none,none,.store 1 (.s 26) (.s 24),[]⟩ [] .done .none))) .none) .none) (.eff 8 (zo 23 (.buildSl 9 1 1 (.cons (.str []) .nil) [(0,1,.s 22)])) [] (.eff 4 (ld 19 18) [(ld 22 21)] (.eff 9 (zo 24 (.call (.c (.fn 46)) [.s 19,.s 20,.s 23])) [] (.pure 10 (zo 25 (.nilCheck (.s 15))) (.pure 11 (fa 26 0 25) (.eff 12 ⟨none,none,.store 1 (.s 26) (.s 24),[]⟩ [] .done .none))) .none) .none) .none))))))))))
theorem e45:aS Tryz.prog 45 g45 [] [9,12,19,23,24] []=some (c45,[],27):=by kernel_rfl
def Q1:aM where
 X:=PX
 Y:=Nat
 args:=fun x=>.cons (.fown 0 x.v 0) (.cons (.own 1 0) .nil)
 pre:=fun x=>x.N x.v=.node x.a x.n x.m x.sz x.mrk/\((x.N x.a=.none/\x.n=0)\/∃ A,x.N x.a=.arr A/\A≠[]/\x.n<=A.length)/\Srt (cR x.N x.a x.n)/\x.n < 1000000/\x.N x.d=.none
 h0:=fun x=>[(0,.fam fun q=>noO 0 (x.N q)),(1,.cells 32 (zF x.t x.i))]
 nx0:=2
 post:=fun x y=>(y=x.a/\cG x.N x.a≠[])\/y=x.d
 res:=fun _ _=>.tup .nil
 h1:=fun x y=>[(0,.fam fun q=>noO 0 (Vm x y q))]
 nx1:=2
theorem Pq:Q1.Ok Tryz.prog 45:=by
 refine Eng.aM.okR e45 .nil (fun _=>[(43,.m Ro),(46,.m jA),(2097152,.own)]) (fun _ _=>aF.m J9 (aF.m Ec (aF.o aF.nil))) ?_
 rintro ⟨N,v,a,n,m,sz,mk,d,t,i⟩ ⟨(hv:N v=.node a n m sz mk),(hl:(N a=.none/\n=0)\/∃ A,N a=.arr A/\A≠[]/\n<=A.length),(hs:Srt (cR N a n)),(hn:n < 1000000),(hd:N d=.none)⟩
 have hlen:(cR N a n).length<=1000000:=by rw [jQ hl]; omega
 refine ⟨trivial,?_⟩
 repeat' (first|apply And.intro|exact trivial|exact rfl|(exact fun (h:false=true)=>Bool.noConfusion h)|(refine fun (_:false=false)=>?_)|(exact fun (h:true=false)=>Bool.noConfusion h)|(refine fun (_:true=true)=>?_))
 refine Exists.intro (noO 0 (.node a n m sz mk)) (And.intro (congrArg (noO 0) hv) ?_)
 repeat' (first|apply And.intro|exact trivial|exact rfl|(exact fun (h:false=true)=>Bool.noConfusion h)|(refine fun (_:false=false)=>?_)|(exact fun (h:true=false)=>Bool.noConfusion h)|(refine fun (_:true=true)=>?_)|exact fun (i:Nat)=>aC (by exact rfl) (N i)|exact fun (i:Nat)=>aD (by exact rfl) (by exact rfl) (N i))
 refine Exists.intro (cR N a n,i) (Exists.intro [] ?_)
 repeat' (first|exact tU (h:=0) (N:=N) (a:=a) (n:=n) rfl (Is.no 0 (N a)) rfl hl rfl|apply And.intro|exact trivial|exact rfl|(exact fun (h:false=true)=>Bool.noConfusion h)|(refine fun (_:false=false)=>?_)|(exact fun (h:true=false)=>Bool.noConfusion h)|(refine fun (_:true=true)=>?_)|exact fun (i:Nat)=>aC (by exact rfl) (N i)|exact fun (i:Nat)=>aD (by exact rfl) (by exact rfl) (N i)|exact hlen|exact hs)
 refine fun (y:Nat×Bool) (hy:y=(bM (cR N a n) i,decide (i∈cR N a n)))=>?_
 subst hy
 have hA0:cG N a=[]->N a=.none:=by
  intro e
  rcases hl with ⟨h,_⟩|⟨A,h,hA,_⟩
  ·exact h
  ·simp only [cG,h] at e; exact absurd e hA
 have hA1:cG N a≠[]->N a=.arr (cG N a):=by
  intro e
  rcases hl with ⟨h,_⟩|⟨A,h,hA,_⟩
  ·simp only [cG,h,ne_eq,not_true] at e
  ·simp only [cG,h]
 have hA2:n<=(cG N a).length:=by
  rcases hl with ⟨_,h⟩|⟨A,h,hA,h2⟩
  ·omega
  ·simp only [cG,h]; exact h2
 have hA3:bM (cR N a n) i<=n:=by have:=qW (cR N a n) i; rw [jQ hl] at this; exact this
 have hyn:∀ y,(y=a/\cG N a≠[])\/y=d->v≠y:=by
  rintro y (⟨rfl,h⟩|rfl) rfl
  ·rw [hA1 h] at hv; cases hv
  ·rw [hd] at hv; cases hv
 repeat' (first|apply And.intro|exact trivial|exact rfl|(exact fun (h:false=true)=>Bool.noConfusion h)|(refine fun (_:false=false)=>?_)|(exact fun (h:true=false)=>Bool.noConfusion h)|(refine fun (_:true=true)=>?_)|exact fun (i:Nat)=>aC (by exact rfl) (N i)|exact fun (i:Nat)=>aD (by exact rfl) (by exact rfl) (N i))
 all_goals refine Exists.intro (noO 0 (.node a n m sz mk)) (And.intro (congrArg (noO 0) hv) ?_)
 all_goals repeat' (first|apply And.intro|exact trivial|exact rfl|(exact fun (h:false=true)=>Bool.noConfusion h)|(refine fun (_:false=false)=>?_)|(exact fun (h:true=false)=>Bool.noConfusion h)|(refine fun (_:true=true)=>?_)|exact fun (i:Nat)=>aC (by exact rfl) (N i)|exact fun (i:Nat)=>aD (by exact rfl) (by exact rfl) (N i))
 all_goals refine Exists.intro (IX.mk N a (cG N a) n (bM (cR N a n) i) i d) (Exists.intro [0,2] ?_)
 all_goals repeat' (first|apply And.intro|exact trivial|exact rfl|(exact fun (h:false=true)=>Bool.noConfusion h)|(refine fun (_:false=false)=>?_)|(exact fun (h:true=false)=>Bool.noConfusion h)|(refine fun (_:true=true)=>?_)|exact hA0|exact hA1|exact hA2|exact hA3|exact hn|exact hd|(refine fun (j:Nat) (hj:j < 1)=>?_; obtain rfl:j=0:=(by omega); exact Or.inl (aN _ _ _ _))|exact fun (i:Nat)=>aC (by exact rfl) (N i)|exact fun (i:Nat)=>aD (by exact rfl) (by exact rfl) (N i)|fail)
 all_goals refine fun (y:Nat) (hy:(y=a/\cG N a≠[])\/y=d)=>?_
 all_goals have hyv:put N y (.arr (kA (cG N a) n (bM (cR N a n) i) i)) v=.node a n m sz mk:=(aI (hyn y hy)).trans hv
 all_goals repeat' (first|apply And.intro|exact trivial|exact rfl|(exact fun (h:false=true)=>Bool.noConfusion h)|(refine fun (_:false=false)=>?_)|(exact fun (h:true=false)=>Bool.noConfusion h)|(refine fun (_:true=true)=>?_)|exact fun (i:Nat)=>aC (by exact rfl) (N i)|exact fun (i:Nat)=>aD (by exact rfl) (by exact rfl) (N i)|fail)
 all_goals refine Exists.intro (rnO [(0,0),(1,2)] [(0,0),(2,1)] (noO 0 (.node a n m sz mk))) (And.intro (congrArg (fun o=>rnO [(0,0),(1,2)] [(0,0),(2,1)] (noO 0 o)) hyv) ?_)
 all_goals repeat' (first|apply And.intro|exact trivial|exact rfl|(exact fun (h:false=true)=>Bool.noConfusion h)|(refine fun (_:false=false)=>?_)|(exact fun (h:true=false)=>Bool.noConfusion h)|(refine fun (_:true=true)=>?_)|exact fun (i:Nat)=>aC (by exact rfl) (N i)|exact fun (i:Nat)=>aD (by exact rfl) (by exact rfl) (N i)|fail)
 all_goals refine Exists.intro y ?_
 all_goals repeat' (first|exact hy|apply And.intro|exact trivial|exact rfl|(exact fun (h:false=true)=>Bool.noConfusion h)|(refine fun (_:false=false)=>?_)|(exact fun (h:true=false)=>Bool.noConfusion h)|(refine fun (_:true=true)=>?_)|exact fun (i:Nat)=>aC (by exact rfl) (N i)|exact fun (i:Nat)=>aD (by exact rfl) (by exact rfl) (N i)|exact mE (iH (by exact rfl)) (fun i=>aD (by exact rfl) (by exact rfl) _)|fail)
def iD (x:PX):Nat->NO:=put (put x.N x.a (.arr (qD (cG x.N x.a) x.n (bM (cR x.N x.a x.n) x.i)))) x.v (.node x.a (x.n - 1) x.m x.sz x.mrk)
def g42:List Nat:=[1,0,3]
def c42:aH :=
 .seq (.drawn g42 (.pure 0 (mv 6 0) (.pure 1 (zo 7 (.nilCheck (.s 6))) (.pure 2 (fa 8 0 7) (.pure 4 (fa 10 1 1) (.pure 5 (ld 11 10) (.eff 3 (ld 9 8) [(ld 11 10)] (.eff 6 (zo 12 (.call (.c (.fn 43)) [.s 9,.s 11])) [] (.pure 7 (mv 5 12) (.pure 8 (zo 13 (.extract 0 (.s 5))) (.pure 9 (zo 14 (.extract 1 (.s 5))) (.pure 10 (mv 3 13) (.pure 11 (mv 4 14) .done))))) .none) .none))))))) (.region g42 [(mv 15 0),(mv 16 0),(zo 17 (.nilCheck (.s 16))),(fa 18 0 17),(ld 19 18),(mv 20 3),(mv 21 3),(zo 22 (.bin (.add) (.s 21) (cj 1))),(zo 23 (.call (.c (.fn 44)) [.s 19,.s 20,.s 22])),(zo 24 (.nilCheck (.s 15))),(fa 25 0 24),⟨none,none,.store 1 (.s 25) (.s 23),[]⟩])
theorem e42:aS Tryz.prog 42 g42 [] [9,12] []=some (c42,[],26):=by kernel_rfl
def Ki:aM where
 X:=PX
 Y:=Unit
 args:=fun x=>.cons (.fown 0 x.v 0) (.cons (.own 1 0) .nil)
 pre:=fun x=>x.N x.v=.node x.a x.n x.m x.sz x.mrk/\((x.N x.a=.none/\x.n=0)\/∃ A,x.N x.a=.arr A/\A≠[]/\x.n<=A.length)/\Srt (cR x.N x.a x.n)/\x.n < 1000000/\x.i∈cR x.N x.a x.n
 h0:=fun x=>[(0,.fam fun q=>noO 0 (x.N q)),(1,.cells 32 (zF x.t x.i))]
 nx0:=2
 post:=fun _ _=>True
 res:=fun _ _=>.tup .nil
 h1:=fun x _=>[(0,.fam fun q=>noO 0 (iD x q))]
 nx1:=2
theorem Kj:Ki.Ok Tryz.prog 42:=by
 refine Eng.aM.okR e42 .nil (fun _=>[(43,.m Ro),(44,.m R3)]) (fun _ _=>aF.m J9 (aF.m R4 aF.nil)) ?_
 rintro ⟨N,v,a,n,m,sz,mk,d,t,i⟩ ⟨(hv:N v=.node a n m sz mk),(hl:(N a=.none/\n=0)\/∃ A,N a=.arr A/\A≠[]/\n<=A.length),(hs:Srt (cR N a n)),(hn:n < 1000000),(hi:i∈cR N a n)⟩
 have hlen:(cR N a n).length<=1000000:=by rw [jQ hl]; omega
 have hp:bM (cR N a n) i < n:=by have:=((tS hs i).1 hi).1; rwa [jQ hl] at this
 obtain ⟨A,hA,hA0,hA1⟩:∃ A,N a=.arr A/\A≠[]/\n<=A.length:=by
  rcases hl with ⟨_,h⟩|h
  ·omega
  ·exact h
 have hva:v≠a:=by rintro rfl; rw [hA] at hv; cases hv
 have e0:cG N a=A:=by simp only [cG,hA]
 have g1:-9223372036854775808<=(bM (cR N a n) i:Int)+1:=by omega
 have g2:(bM (cR N a n) i:Int)+1<=9223372036854775807:=by omega
 have hv2:put N a (.arr (qD A n (bM (cR N a n) i))) v=.node a n m sz mk:=(aI hva).trans hv
 refine ⟨trivial,?_⟩
 repeat' (first|apply And.intro|exact trivial|exact rfl|(exact fun (h:false=true)=>Bool.noConfusion h)|(refine fun (_:false=false)=>?_)|(exact fun (h:true=false)=>Bool.noConfusion h)|(refine fun (_:true=true)=>?_))
 refine Exists.intro (noO 0 (.node a n m sz mk)) (And.intro (congrArg (noO 0) hv) ?_)
 repeat' (first|apply And.intro|exact trivial|exact rfl|(exact fun (h:false=true)=>Bool.noConfusion h)|(refine fun (_:false=false)=>?_)|(exact fun (h:true=false)=>Bool.noConfusion h)|(refine fun (_:true=true)=>?_)|exact fun (i:Nat)=>aC (by exact rfl) (N i)|exact fun (i:Nat)=>aD (by exact rfl) (by exact rfl) (N i))
 refine Exists.intro (cR N a n,i) (Exists.intro [] ?_)
 repeat' (first|exact tU (h:=0) (N:=N) (a:=a) (n:=n) rfl (Is.no 0 (N a)) rfl hl rfl|apply And.intro|exact trivial|exact rfl|(exact fun (h:false=true)=>Bool.noConfusion h)|(refine fun (_:false=false)=>?_)|(exact fun (h:true=false)=>Bool.noConfusion h)|(refine fun (_:true=true)=>?_)|exact fun (i:Nat)=>aC (by exact rfl) (N i)|exact fun (i:Nat)=>aD (by exact rfl) (by exact rfl) (N i)|exact hlen|exact hs)
 refine fun (y:Nat×Bool) (hy:y=(bM (cR N a n) i,decide (i∈cR N a n)))=>?_
 subst hy
 repeat' (first|apply And.intro|exact trivial|exact rfl|(exact fun (h:false=true)=>Bool.noConfusion h)|(refine fun (_:false=false)=>?_)|(exact fun (h:true=false)=>Bool.noConfusion h)|(refine fun (_:true=true)=>?_)|exact fun (i:Nat)=>aC (by exact rfl) (N i)|exact fun (i:Nat)=>aD (by exact rfl) (by exact rfl) (N i))
 refine Exists.intro (noO 0 (.node a n m sz mk)) (And.intro (congrArg (noO 0) hv) ?_)
 repeat' (first|apply And.intro|exact trivial|exact rfl|(exact fun (h:false=true)=>Bool.noConfusion h)|(refine fun (_:false=false)=>?_)|(exact fun (h:true=false)=>Bool.noConfusion h)|(refine fun (_:true=true)=>?_)|exact fun (i:Nat)=>aC (by exact rfl) (N i)|exact fun (i:Nat)=>aD (by exact rfl) (by exact rfl) (N i)|with_reducible exact g1|with_reducible exact g2)
 refine Exists.intro (N,a,A,n,bM (cR N a n) i) (Exists.intro [0] ?_)
 repeat' (first|apply And.intro|exact trivial|exact rfl|(exact fun (h:false=true)=>Bool.noConfusion h)|(refine fun (_:false=false)=>?_)|(exact fun (h:true=false)=>Bool.noConfusion h)|(refine fun (_:true=true)=>?_)|with_reducible exact hA|with_reducible exact hp|with_reducible exact hA1|exact fun (i:Nat)=>aC (by exact rfl) (N i)|exact fun (i:Nat)=>aD (by exact rfl) (by exact rfl) (N i))
 refine fun (_:Unit) (_:True)=>?_
 repeat' (first|apply And.intro|exact trivial|exact rfl|(exact fun (h:false=true)=>Bool.noConfusion h)|(refine fun (_:false=false)=>?_)|(exact fun (h:true=false)=>Bool.noConfusion h)|(refine fun (_:true=true)=>?_)|exact fun (i:Nat)=>aC (by exact rfl) (N i)|exact fun (i:Nat)=>aD (by exact rfl) (by exact rfl) (N i))
 refine Exists.intro (rnO [(0,0)] [(0,0)] (noO 0 (.node a n m sz mk))) (And.intro (congrArg (fun o=>rnO [(0,0)] [(0,0)] (noO 0 o)) hv2) ?_)
 repeat' (first|apply And.intro|exact trivial|exact rfl|(exact fun (h:false=true)=>Bool.noConfusion h)|(refine fun (_:false=false)=>?_)|(exact fun (h:true=false)=>Bool.noConfusion h)|(refine fun (_:true=true)=>?_)|exact fun (i:Nat)=>aC (by exact rfl) (N i)|exact fun (i:Nat)=>aD (by exact rfl) (by exact rfl) (N i))
 refine Exists.intro () ?_
 have e1:n - 1=(n - 1:Nat):=rfl
 repeat' (first|apply And.intro|exact trivial|exact rfl|(exact fun (h:false=true)=>Bool.noConfusion h)|(refine fun (_:false=false)=>?_)|(exact fun (h:true=false)=>Bool.noConfusion h)|(refine fun (_:true=true)=>?_)|exact fun (i:Nat)=>aC (by exact rfl) (N i)|exact fun (i:Nat)=>aD (by exact rfl) (by exact rfl) (N i))
 rw [show iD ⟨N,v,a,n,m,sz,mk,d,t,i⟩=put (put N a (.arr (qD A n (bM (cR N a n) i)))) v (.node a (n - 1) m sz mk) by unfold iD; rw [e0]]
 repeat' (first|apply And.intro|exact trivial|exact rfl|exact mE (iH (by exact rfl)) (fun i=>aD (by exact rfl) (by exact rfl) _))
end T7
end
section
open Go Go.Eng Go.Proofs T1 T2 T3 T4 T5 T6 T7
set_option maxRecDepth 100000
namespace T8
def dv (p:Bool):Int:=bif p then 1 else -1
theorem Ur (p:Bool):(0:Int)+dv p≠0:=by cases p <;> decide
theorem Qk (p:Bool):-1<=dv p:=by cases p <;> decide
theorem Qj (p:Bool):dv p<=1:=by cases p <;> decide
def bump (p:Bool) (N:Nat->NO) (x:Nat):Nat->NO :=
 match N x with
 | .node a n m sz _=>put N x (.node a n m (sz+dv p) [])
 | _=>N
theorem iU {p:Bool} {N:Nat->NO} {x a n m:Nat} {sz:Int} {mk:B} (h:N x=.node a n m sz mk):bump p N x=put N x (.node a n m (sz+dv p) []):=by simp only [bump,h]
def uK (N:Nat->NO) (c x:Nat) (b:UInt8):Nat->NO :=
 match N x with
 | .node _ _ m _ _=>match N m with
  | .map l q=>put (eZ N c) m (.map (l++[(dE b,c+1,q)]) (q+1))
  | _=>N
 | _=>N
theorem oB {N:Nat->NO} {c x a n m q:Nat} {sz:Int} {mk:B} {b:UInt8} {l:List (aJ×Nat×Nat)} (h:N x=.node a n m sz mk) (h2:N m=.map l q):uK N c x b=put (eZ N c) m (.map (l++[(dE b,c+1,q)]) (q+1)):=by simp only [uK,h,h2]
def Di (N:Nat->NO) (x:Nat) (b:UInt8):Nat->NO :=
 match N x with
 | .node _ _ m _ _=>match N m with
  | .map l q=>put N m (.map (mdel l (dE b)) q)
  | _=>N
 | _=>N
theorem rL {N:Nat->NO} {x a n m q:Nat} {sz:Int} {mk:B} {b:UInt8} {l:List (aJ×Nat×Nat)} (h:N x=.node a n m sz mk) (h2:N m=.map l q):Di N x b=put N m (.map (mdel l (dE b)) q):=by simp only [Di,h,h2]
def szN (N:Nat->NO) (x:Nat):Int :=
 match N x with
 | .node _ _ _ sz _=>sz
 | _=>0
theorem Cq {N:Nat->NO} {x a n m:Nat} {sz:Int} {mk:B} (h:N x=.node a n m sz mk):szN N x=sz:=by simp only [szN,h]
structure CS where
 N:Nat->NO
 c:Nat
 x:Nat
def stN (p:Bool) (s:CS) (b:UInt8):CS :=
 match rV s.N s.x b with
 | none=>⟨uK s.N s.c s.x b,s.c+3,s.c+1⟩
 | some v=>⟨if szN s.N v+dv p=0 then Di s.N s.x b else s.N,s.c,v⟩
def chN (p:Bool) (s:CS):B->CS
 | []=>⟨bump p s.N s.x,s.c,s.x⟩
 | b::t=>chN p (stN p ⟨bump p s.N s.x,s.c,s.x⟩ b) t
def Bd (N:Nat->NO) (K:Int):Prop:=∀ i a n m sz mk,N i=.node a n m sz mk->-K<=sz/\sz<=K
theorem bR {N:Nat->NO} {j i:Nat} {o o':NO} (h:put N j o i=o'):(i=j/\o'=o)\/(i≠j/\N i=o'):=by
 by_cases e:i=j
 ·subst e; rw [bN] at h; exact .inl ⟨rfl,h.symm⟩
 ·rw [aI e] at h; exact .inr ⟨e,h⟩
theorem qY {N:Nat->NO} {j i:Nat} {o:NO} (ho:∃ a n m sz mk,o=.node a n m sz mk) (h:isNode N i):isNode (put N j o) i:=by
 obtain ⟨a,n,m,sz,mk,rfl⟩:=ho
 by_cases e:i=j
 ·subst e; exact ⟨_,_,_,_,_,bN _ _ _⟩
 ·unfold isNode; rw [aI e]; exact h
theorem lX {N:Nat->NO} {x m a n k q:Nat} {sz:Int} {mk:B} {l:List (aJ×Nat×Nat)} (h:N x=.node a n k sz mk) (h2:N m=.map l q):m≠x:=by
 rintro rfl; rw [h] at h2; cases h2
theorem Cl.bump {N:Nat->NO} {c x:Nat} {p:Bool} (h:Cl N c) (hx:isNode N x):Cl (bump p N x) c:=by
 obtain ⟨a,n,m,sz,mk,e⟩:=hx
 rw [iU e]
 have hxc:x < c:=h.lt (by rw [e]; intro h; cases h)
 refine ⟨fun i hi=>?_,fun i a' n' m' sz' mk' hi=>?_,fun i l q hi y hy=>?_,fun i a' n' m' sz' mk' hi=>?_,fun i a' n' m' sz' mk' hi=>?_,fun i j a' n1 m1 sz1 mk1 n2 m2 sz2 mk2 hi hj=>?_,fun i l q hi=>?_⟩
 ·rw [aI (by omega)]; exact h.free i hi
 ·have key:∃ a n sz mk i,N i=.node a n m' sz mk:=by
   rcases bR hi with ⟨rfl,k⟩|⟨_,k⟩
   ·cases k; exact ⟨_,_,_,_,_,e⟩
   ·exact ⟨_,_,_,_,_,k⟩
  obtain ⟨a1,n1,sz1,mk1,i1,k⟩:=key
  obtain ⟨l,q,hm⟩:=h.kids _ _ _ _ _ _ k
  exact ⟨l,q,by rw [aI (lX e hm)]; exact hm⟩
 ·rcases bR hi with ⟨rfl,k⟩|⟨_,k⟩
  ·cases k
  ·obtain ⟨h1,h2⟩:=h.ent _ _ _ k y hy
   exact ⟨h1,qY ⟨_,_,_,_,_,rfl⟩ h2⟩
 ·have key:∃ m sz mk i,N i=.node a' n' m sz mk:=by
   rcases bR hi with ⟨rfl,k⟩|⟨_,k⟩
   ·cases k; exact ⟨_,_,_,_,e⟩
   ·exact ⟨_,_,_,_,k⟩
  obtain ⟨m1,sz1,mk1,i1,k⟩:=key
  rcases h.lst _ _ _ _ _ _ k with ⟨h1,h2⟩|⟨A,h1,h2⟩
  ·exact .inl ⟨by rw [aI (by rintro rfl; rw [e] at h1; cases h1)]; exact h1,h2⟩
  ·exact .inr ⟨A,by rw [aI (by rintro rfl; rw [e] at h1; cases h1)]; exact h1,h2⟩
 ·rcases bR hi with ⟨rfl,k⟩|⟨_,k⟩
  ·cases k; exact h.lim _ _ _ _ _ _ e
  ·exact h.lim _ _ _ _ _ _ k
 ·rcases bR hi with ⟨rfl,k⟩|⟨_,k⟩ <;> rcases bR hj with ⟨rfl,k'⟩|⟨_,k'⟩
  ·rfl
  ·cases k; exact h.own _ _ _ _ _ _ _ _ _ _ _ e k'
  ·cases k'; exact h.own _ _ _ _ _ _ _ _ _ _ _ k e
  ·exact h.own _ _ _ _ _ _ _ _ _ _ _ k k'
 ·rcases bR hi with ⟨rfl,k⟩|⟨_,k⟩
  ·cases k
  ·exact h.tick _ _ _ k
theorem Cl.map {N:Nat->NO} {c m q q':Nat} {l l':List (aJ×Nat×Nat)} (h:Cl N c) (hm:N m=.map l q) (hl:∀ x∈l',x.1.kind=.i .u8/\isNode N x.2.1) (ht:Tk l' q'):Cl (put N m (.map l' q')) c:=by
 have hmc:m < c:=h.lt (by rw [hm]; intro h; cases h)
 have nd:∀ {i},isNode N i->isNode (put N m (.map l' q')) i:=by
  rintro i ⟨a,n,k,sz,mk,e⟩
  exact ⟨a,n,k,sz,mk,by rw [aI (lX e hm).symm]; exact e⟩
 have bk:∀ {i a n k sz mk},put N m (.map l' q') i=.node a n k sz mk->N i=.node a n k sz mk:=by
  intro i a n k sz mk e
  rcases bR e with ⟨_,k⟩|⟨_,k⟩
  ·cases k
  ·exact k
 refine ⟨fun i hi=>?_,fun i a n k sz mk hi=>?_,fun i l2 q2 hi y hy=>?_,fun i a n k sz mk hi=>?_,fun i a n k sz mk hi=>h.lim _ _ _ _ _ _ (bk hi),fun i j a n1 m1 sz1 mk1 n2 m2 sz2 mk2 hi hj=>h.own _ _ _ _ _ _ _ _ _ _ _ (bk hi) (bk hj),fun i l2 q2 hi=>?_⟩
 ·rw [aI (by omega)]; exact h.free i hi
 ·obtain ⟨l2,q2,e⟩:=h.kids _ _ _ _ _ _ (bk hi)
  by_cases ek:k=m
  ·subst ek; exact ⟨_,_,bN _ _ _⟩
  ·exact ⟨l2,q2,by rw [aI ek]; exact e⟩
 ·rcases bR hi with ⟨rfl,k⟩|⟨_,k⟩
  ·cases k
   obtain ⟨h1,h2⟩:=hl y hy
   exact ⟨h1,nd h2⟩
  ·obtain ⟨h1,h2⟩:=h.ent _ _ _ k y hy
   exact ⟨h1,nd h2⟩
 ·rcases h.lst _ _ _ _ _ _ (bk hi) with ⟨h1,h2⟩|⟨A,h1,h2⟩
  ·exact .inl ⟨by rw [aI (by rintro rfl; rw [hm] at h1; cases h1)]; exact h1,h2⟩
  ·exact .inr ⟨A,by rw [aI (by rintro rfl; rw [hm] at h1; cases h1)]; exact h1,h2⟩
 ·rcases bR hi with ⟨rfl,k⟩|⟨_,k⟩
  ·cases k; exact ht
  ·exact h.tick _ _ _ k
theorem Cl.open {N:Nat->NO} {c:Nat} (h:Cl N c):Cl (eZ N c) (c+3):=by
 have o1:∀ {i},i < c->eZ N c i=N i:=fun {i} hi=>by unfold eZ; rw [aI (by omega),aI (by omega)]
 have o2:eZ N c c=.map [] 0:=by unfold eZ; rw [aI (by omega),bN]
 have o3:eZ N c (c+1)=.node (c+2) 0 c 0 []:=by unfold eZ; rw [bN]
 have o4:∀ {i},c+2<=i->eZ N c i=.none:=fun {i} hi=>by unfold eZ; rw [aI (by omega),aI (by omega)]; exact h.free i (by omega)
 have lt:∀ {i o},N i=o->o≠.none->i < c:=fun e ho=>h.lt (by rw [e]; exact ho)
 have nd:∀ {i},isNode N i->isNode (eZ N c) i:=by
  rintro i ⟨a,n,k,sz,mk,e⟩
  exact ⟨a,n,k,sz,mk,by rw [o1 (lt e (by intro h; cases h))]; exact e⟩
 have cs:∀ i,(i < c/\eZ N c i=N i)\/(i=c/\eZ N c i=.map [] 0)\/(i=c+1/\eZ N c i=.node (c+2) 0 c 0 [])\/eZ N c i=.none:=by
  intro i
  by_cases h1:i < c
  ·exact .inl ⟨h1,o1 h1⟩
  ·by_cases h2:i=c
   ·subst h2; exact .inr (.inl ⟨rfl,o2⟩)
   ·by_cases h3:i=c+1
    ·subst h3; exact .inr (.inr (.inl ⟨rfl,o3⟩))
    ·exact .inr (.inr (.inr (o4 (by omega))))
 refine ⟨fun i hi=>o4 (by omega),fun i a n k sz mk hi=>?_,fun i l2 q2 hi y hy=>?_,fun i a n k sz mk hi=>?_,fun i a n k sz mk hi=>?_,fun i j a n1 m1 sz1 mk1 n2 m2 sz2 mk2 hi hj=>?_,fun i l2 q2 hi=>?_⟩
 ·rcases cs i with ⟨_,e⟩|⟨_,e⟩|⟨_,e⟩|e <;> rw [e] at hi
  ·obtain ⟨l2,q2,e⟩:=h.kids _ _ _ _ _ _ hi
   exact ⟨l2,q2,by rw [o1 (lt e (by intro h; cases h))]; exact e⟩
  ·cases hi
  ·cases hi; exact ⟨_,_,o2⟩
  ·cases hi
 ·rcases cs i with ⟨_,e⟩|⟨_,e⟩|⟨_,e⟩|e <;> rw [e] at hi
  ·obtain ⟨h1,h2⟩:=h.ent _ _ _ hi y hy
   exact ⟨h1,nd h2⟩
  ·cases hi; cases hy
  ·cases hi
  ·cases hi
 ·rcases cs i with ⟨_,e⟩|⟨_,e⟩|⟨_,e⟩|e <;> rw [e] at hi
  ·have hl:=h.lim _ _ _ _ _ _ hi
   rw [o1 hl]
   exact h.lst _ _ _ _ _ _ hi
  ·cases hi
  ·cases hi; exact .inl ⟨o4 (by omega),rfl⟩
  ·cases hi
 ·rcases cs i with ⟨_,e⟩|⟨_,e⟩|⟨_,e⟩|e <;> rw [e] at hi
  ·have:=h.lim _ _ _ _ _ _ hi; omega
  ·cases hi
  ·cases hi; omega
  ·cases hi
 ·rcases cs i with ⟨_,e⟩|⟨_,e⟩|⟨h1,e⟩|e <;> rw [e] at hi
  ·rcases cs j with ⟨_,e⟩|⟨_,e⟩|⟨_,e⟩|e <;> rw [e] at hj
   ·exact h.own _ _ _ _ _ _ _ _ _ _ _ hi hj
   ·cases hj
   ·cases hj; have:=h.lim _ _ _ _ _ _ hi; omega
   ·cases hj
  ·cases hi
  ·rcases cs j with ⟨_,e⟩|⟨_,e⟩|⟨h2,e⟩|e <;> rw [e] at hj
   ·cases hi; have:=h.lim _ _ _ _ _ _ hj; omega
   ·cases hj
   ·rw [h1,h2]
   ·cases hj
  ·cases hi
 ·rcases cs i with ⟨_,e⟩|⟨_,e⟩|⟨_,e⟩|e <;> rw [e] at hi
  ·exact h.tick _ _ _ hi
  ·cases hi; exact ⟨(fun _ hx=>by cases hx),List.nodup_nil⟩
  ·cases hi
  ·cases hi
theorem vB {V:Type} {l:List (aJ×V×Nat)} {k:aJ} {x:aJ×V×Nat} (h:x∈mdel l k):x∈l:=by
 induction l with
 | nil=>exact h
 | cons y r ih =>
  simp only [mdel] at h
  split at h
  ·exact List.mem_cons_of_mem _ h
  ·rcases List.mem_cons.1 h with rfl|h
   ·exact List.mem_cons_self
   ·exact List.mem_cons_of_mem _ (ih h)
theorem Ex {V:Type} {k:aJ}:∀ {l:List (aJ×V×Nat)},(l.map (·.2.2)).Nodup->((mdel l k).map (·.2.2)).Nodup:=by
 intro l
 induction l with
 | nil=>intro h; exact h
 | cons y r ih =>
  intro h
  simp only [mdel]
  simp only [List.map_cons,List.nodup_cons] at h
  split
  ·exact h.2
  ·simp only [List.map_cons,List.nodup_cons]
   refine ⟨fun hm=>h.1 ?_,ih h.2⟩
   obtain ⟨z,hz,e⟩:=List.mem_map.1 hm
   exact List.mem_map.2 ⟨z,vB hz,e⟩
theorem Cl.cut {N:Nat->NO} {c x:Nat} {b:UInt8} (h:Cl N c) (hx:isNode N x):Cl (Di N x b) c:=by
 obtain ⟨a,n,m,sz,mk,e⟩:=hx
 obtain ⟨l,q,hm⟩:=h.kids _ _ _ _ _ _ e
 rw [rL e hm]
 exact Cl.map h hm (fun y hy=>h.ent _ _ _ hm y (vB hy)) ⟨fun y hy=>(h.tick _ _ _ hm).1 y (vB hy),Ex (h.tick _ _ _ hm).2⟩
theorem oI {N:Nat->NO} {c i:Nat} (hi:i < c):eZ N c i=N i:=by unfold eZ; rw [aI (by omega),aI (by omega)]
theorem qV {N:Nat->NO} {c:Nat}:eZ N c (c+1)=.node (c+2) 0 c 0 []:=by unfold eZ; rw [bN]
theorem Cl.grow {N:Nat->NO} {c x:Nat} {b:UInt8} (h:Cl N c) (hx:isNode N x):Cl (uK N c x b) (c+3):=by
 obtain ⟨a,n,m,sz,mk,e⟩:=hx
 obtain ⟨l,q,hm⟩:=h.kids _ _ _ _ _ _ e
 rw [oB e hm]
 have hmc:m < c:=h.lt (by rw [hm]; intro h; cases h)
 have hm':eZ N c m=.map l q:=(oI hmc).trans hm
 have ho:=Cl.open h
 have ht:=h.tick _ _ _ hm
 refine Cl.map ho hm' (fun y hy=>?_) ⟨fun y hy=>?_,?_⟩
 ·rcases List.mem_append.1 hy with hy|hy
  ·exact ho.ent _ _ _ hm' y hy
  ·obtain rfl:=List.mem_singleton.1 hy
   exact ⟨rfl,_,_,_,_,_,qV⟩
 ·rcases List.mem_append.1 hy with hy|hy
  ·exact Nat.lt_succ_of_lt (ht.1 y hy)
  ·obtain rfl:=List.mem_singleton.1 hy
   exact Nat.lt_succ_self _
 ·rw [List.map_append,List.nodup_append]
  refine ⟨ht.2,by simp,fun u hu v hv=>?_⟩
  obtain ⟨z,hz,rfl⟩:=List.mem_map.1 hu
  obtain rfl:=List.mem_singleton.1 hv
  exact Nat.ne_of_lt (ht.1 z hz)
structure Ok (s:CS) (K:Int):Prop where
 cl:Cl s.N s.c
 nd:isNode s.N s.x
 bd:Bd s.N K
theorem Ok.bump {s:CS} {K:Int} {p:Bool} (h:Ok s K):Ok ⟨bump p s.N s.x,s.c,s.x⟩ (K+1):=by
 obtain ⟨a,n,m,sz,mk,e⟩:=h.nd
 refine ⟨Cl.bump h.cl h.nd,?_,?_⟩
 ·show isNode (T8.bump p s.N s.x) s.x
  rw [iU e]; exact ⟨_,_,_,_,_,bN _ _ _⟩
 ·show Bd (T8.bump p s.N s.x) (K+1)
  rw [iU e]
  intro i a' n' m' sz' mk' hi
  have:=Qk p
  have:=Qj p
  rcases bR hi with ⟨rfl,k⟩|⟨_,k⟩
  ·cases k
   have:=h.bd _ _ _ _ _ _ e
   omega
  ·have:=h.bd _ _ _ _ _ _ k
   omega
theorem Ok.step {s:CS} {K:Int} {p:Bool} (h:Ok s K) (hK:0<=K) (b:UInt8):Ok (stN p s b) K:=by
 obtain ⟨a,n,m,sz,mk,e⟩:=h.nd
 obtain ⟨l,q,hm⟩:=h.cl.kids _ _ _ _ _ _ e
 have hmc:m < s.c:=h.cl.lt (by rw [hm]; intro h; cases h)
 unfold stN
 split
 ·refine ⟨Cl.grow h.cl h.nd,?_,?_⟩
  ·show isNode (uK s.N s.c s.x b) (s.c+1)
   rw [oB e hm]
   exact ⟨_,_,_,_,_,by rw [aI (by omega)]; exact qV⟩
  ·show Bd (uK s.N s.c s.x b) K
   rw [oB e hm]
   intro i a' n' m' sz' mk' hi
   rcases bR hi with ⟨_,k⟩|⟨_,k⟩
   ·cases k
   ·unfold eZ at k
    rcases bR k with ⟨_,k⟩|⟨_,k⟩
    ·cases k; omega
    ·rcases bR k with ⟨_,k⟩|⟨_,k⟩
     ·cases k
     ·exact h.bd _ _ _ _ _ _ k
 ·rename_i v hv
  have hvn:=h.cl.kid hv
  by_cases h0:szN s.N v+dv p=0
  ·rw [if_pos h0]
   refine ⟨Cl.cut h.cl h.nd,?_,?_⟩
   ·obtain ⟨a1,n1,m1,sz1,mk1,e1⟩:=hvn
    show isNode (Di s.N s.x b) v
    rw [rL e hm]
    exact ⟨_,_,_,_,_,by rw [aI (lX e1 hm).symm]; exact e1⟩
   ·show Bd (Di s.N s.x b) K
    rw [rL e hm]
    intro i a' n' m' sz' mk' hi
    rcases bR hi with ⟨_,k⟩|⟨_,k⟩
    ·cases k
    ·exact h.bd _ _ _ _ _ _ k
  ·rw [if_neg h0]
   exact ⟨h.cl,hvn,h.bd⟩
end T8
end
section
open Go Go.Eng Go.Proofs T1 T2 T3 T4 T5 T6 T7 T8
set_option maxRecDepth 100000
namespace T9
structure HX where
 p:Bool
 N:Nat->NO
 c:Nat
 r:Nat
 t:B
 i:B
def HX.fin (x:HX):CS:=chN x.p ⟨x.N,x.c,x.r⟩ x.t
def zI (N:Nat->NO) (x:Nat):Nat :=
 match N x with
 | .node a _ _ _ _=>a
 | _=>0
def dU (p:Bool) (N:Nat->NO) (x y:Nat) (i:B):Nat->NO :=
 match N x with
 | .node a n m sz mk=>bif p then put (put N y (.arr (kA (cG N a) n (bM (cR N a n) i) i))) x (.node y (n+1) m sz mk)
   else put (put N a (.arr (qD (cG N a) n (bM (cR N a n) i)))) x (.node a (n - 1) m sz mk)
 | _=>N
theorem nT {k:Keep} {hp:List (Nat×aE)} {h:Nat} {f:Nat->aE} {N:Nat->NO} {j:Nat} {o o':aE} {n:NO} (h1:dN k hp o (noO h n)) (h2:∀ i,dN k hp (f i) (noO h (N i))) :
  ∀ i,dN k hp (bif Nat.beq i j then o else bif Nat.beq i j then o' else f i) (noO h (put N j n i)):=by
 intro i
 unfold put
 cases Nat.beq i j with
 | true=>exact h1
 | false=>exact h2 i
theorem sub_eq {k:Keep} {hp:List (Nat×aE)} {h:Nat} {F:Nat->aE} {f g:Nat->NO} (e:g=f) (hs:∀ i,dN k hp (F i) (noO h (f i))):∀ i,dN k hp (F i) (noO h (g i)):=by subst e; exact hs
theorem Rm {α:Type _} {i j:Nat} (h:i≠j) (A B:α):(bif Nat.beq i j then A else B)=B:=by rw [yB h]; rfl
theorem M7 {k:Keep} {hp:List (Nat×aE)} {h h' q:Nat} {l:List (aJ×Nat×Nat)} {ev:Nat->SV} {iv:SV->Option Nat} (e:∀ v,ev v=.fown h v 0) (hr:gB k h h':=by exact rfl):dN k hp (.map Nat (.i .u8) l q ev iv) (noO h' (.map l q)):=Is.sub (h:=h) ⟨ev,iv,rfl,e⟩ hr
theorem qA {α:Type _} (x:Nat) (A B:α):(bif Nat.beq x x then A else B)=A:=by rw [Nat.beq_refl]; rfl
def g41:List Nat:=[0,32,42,2,58,1,10,9,3,8]
def c41:aH :=
 .seq (.region g41 [(mv 11 0),(zo 12 (.nilCheck (.s 11))),(fa 13 0 12),(ld 14 13),(mv 8 14)]) (.seq (.seq (.region g41 [(zo 9 (.move (cj 0)))]) (.block 0 (.loop 0 [17,18,19,20,21,22,23,24,25,26,27,28,29,30,31,32,33,34,35,36,37,38,39,40,41,42,43,10,44,45,46,47,48,49,50,51,52,53,54,55,56,57,58,59,60,61,62,63,64,65,66,8,15,16,9] (.seq (.block 1 (.seq (.region g41 [(mv 17 8),(mv 18 8),(mv 19 8),(zo 20 (.nilCheck (.s 19))),(fa 21 2 20),(ld 22 21),(mv 23 2),(zo 24 (.bin (.add) (.s 22) (.s 23))),(zo 25 (.nilCheck (.s 17))),(fa 26 2 25),⟨none,none,.store 1 (.s 26) (.s 24),[]⟩,(zo 27 (.nilCheck (.s 18))),(fa 28 3 27),⟨none,none,.store 1 (.s 28) (.c (.str [])),[]⟩]) (.seq (.seq (.region g41 [(mv 29 9),(mv 30 1),(zo 31 (.lenStr (.s 30))),(zo 32 (.bin (.eql) (.s 29) (.s 31)))]) (.cond (.s 32) (.exit 0) .skip)) (.seq (.drawn g41 (.pure 0 (mv 33 8) (.pure 1 (zo 34 (.nilCheck (.s 33))) (.pure 2 (fa 35 1 34) (.pure 4 (mv 37 1) (.pure 5 (mv 38 9) (.pure 6 (zo 39 (.idxStr (.s 37) (.s 38))) (.eff 3 (ld 36 35) [] (.eff 7 (zo 40 (.mlook (.nilptr) false (.i (.u8)) (.s 36) (.s 39))) [] (.pure 8 (mv 10 40) .done) .none) .none)))))))) (.seq (.seq (.region g41 [(mv 41 10),(zo 42 (.ptrEq false (.s 41) (.c (.nilptr))))]) (.cond (.s 42) (.seq (.region g41 [(zo 43 (.call (.c (.fn 39)) [])),(mv 10 43)]) (.drawn g41 (.pure 0 (mv 44 8) (.pure 1 (zo 45 (.nilCheck (.s 44))) (.pure 2 (fa 46 1 45) (.pure 4 (mv 48 1) (.pure 5 (mv 49 9) (.pure 6 (zo 50 (.idxStr (.s 48) (.s 49))) (.pure 7 (mv 51 10) (.eff 3 (ld 47 46) [] (.eff 8 ⟨none,none,.mupd (.i (.u8)) (.s 47) (.s 50) (.s 51),[]⟩ [] .done .none) .none)))))))))) .skip)) (.seq (.seq (.region g41 [(mv 52 10),(zo 53 (.nilCheck (.s 52))),(fa 54 2 53),(ld 55 54),(mv 56 2),(zo 57 (.bin (.add) (.s 55) (.s 56))),(zo 58 (.bin (.eql) (.s 57) (cj 0)))]) (.cond (.s 58) (.drawn g41 (.pure 0 (mv 59 8) (.pure 1 (zo 60 (.nilCheck (.s 59))) (.pure 2 (fa 61 1 60) (.pure 4 (mv 63 1) (.pure 5 (mv 64 9) (.pure 6 (zo 65 (.idxStr (.s 63) (.s 64))) (.eff 3 (ld 62 61) [] (.eff 7 ⟨none,none,.mdele (.i (.u8)) (.s 62) (.s 65),[]⟩ [] .done .none) .none)))))))) .skip)) (.region g41 [(mv 66 10),(mv 8 66)]))))))) (.region g41 [(mv 15 9),(zo 16 (.bin (.add) (.s 15) (cj 1))),(mv 9 16)]))))) (.region g41 [(mv 67 3),(mv 68 8),(zo 69 (.call (.s 67) [.s 68]))]))
theorem e41:aS Tryz.prog 41 g41 [] [36,40,47,62,66] []=some (c41,[],70):=by kernel_rfl
def chS:aM where
 X:=HX
 Y:=Nat
 args:=fun x=>.cons (.own 0 0) (.cons (.str x.t) (.cons (.int .i64 (dv x.p)) (.cons (.fn (bif x.p then 45 else 42) (.cons (.own 2 0) .nil)) .nil)))
 pre:=fun x=>Ok ⟨x.N,x.c,x.r⟩ 1000000000000/\x.t.length<=1000/\Srt (iZ x.fin.N x.fin.x)/\(iZ x.fin.N x.fin.x).length < 1000000/\(x.p=false->x.i∈iZ x.fin.N x.fin.x)
 h0:=fun x=>tH 0 1 x.r x.N++[(2,.cells 32 (zF x.t x.i))]
 nx0:=3
 post:=fun x y=>x.p=true->(y=zI x.fin.N x.fin.x/\cG x.fin.N y≠[])\/y=x.fin.c
 res:=fun _ _=>.tup .nil
 h1:=fun x y=>tH 0 1 x.r (dU x.p x.fin.N x.fin.x y x.i)
 nx1:=3
theorem Qg:chS.Ok Tryz.prog 41:=by
 refine Eng.aM.okR e41 .nil (fun _=>[(39,.m Tf),(45,.m Q1),(42,.m Ki)]) (fun _ _=>aF.m Mc (aF.m Pq (aF.m Kj aF.nil))) ?_
 rintro ⟨p,N,c,r,t,i⟩ ⟨(hc:Ok ⟨N,c,r⟩ 1000000000000),(ht:t.length<=1000),(hs:Srt (iZ (HX.mk p N c r t i).fin.N (HX.mk p N c r t i).fin.x)),(hn:(iZ (HX.mk p N c r t i).fin.N (HX.mk p N c r t i).fin.x).length < 1000000),(hd:p=false->i∈iZ (HX.mk p N c r t i).fin.N (HX.mk p N c r t i).fin.x)⟩
 obtain ⟨F,hF⟩:∃ F,F=(HX.mk p N c r t i).fin:=⟨_,rfl⟩
 rw [<- hF] at hs hn hd
 refine ⟨trivial,?_⟩
 repeat' (first|apply And.intro|exact trivial|exact rfl|(exact fun (h:false=true)=>Bool.noConfusion h)|(refine fun (_:false=false)=>?_)|(exact fun (h:true=false)=>Bool.noConfusion h)|(refine fun (_:true=true)=>?_)|fail)
 refine ⟨⟨Nat×CS,fun x=>x.1<=t.length/\T8.Ok x.2 (1000000000000+(x.1:Int))/\chN p x.2 (t.drop x.1)=F,fun x=>[(9,.int .i64 (x.1:Int)),(8,.fown 1 x.2.x 0)],fun x=>[(1,.fam fun q=>noO 1 (x.2.N q))],fun x=>t.length - x.1⟩,(0,⟨N,c,r⟩),?_,?_,?_⟩
 ·exact ⟨Nat.zero_le _,by simpa using hc,hF.symm⟩
 ·repeat' (first|apply And.intro|exact trivial|exact rfl|exact fun (i:Nat)=>aC (by exact rfl) (N i)|exact fun (i:Nat)=>aD (by exact rfl) (by exact rfl) (N i)|fail)
 rintro ⟨j,M,k,x⟩ ⟨(k0:j<=t.length),(k1:T8.Ok ⟨M,k,x⟩ (1000000000000+(j:Int))),(k2:chN p ⟨M,k,x⟩ (t.drop j)=F)⟩
 obtain ⟨a,n,m,sz,mk,hx⟩:isNode M x:=k1.nd
 obtain ⟨l,q,hm⟩:∃ l q,M m=.map l q:=k1.cl.kids _ _ _ _ _ _ hx
 have hb:=k1.bd _ _ _ _ _ _ hx
 have p1:=Qk p
 have p2:=Qj p
 have g1:-9223372036854775808<=sz+dv p:=by omega
 have g2:sz+dv p<=9223372036854775807:=by omega
 repeat' (first|apply And.intro|exact trivial|exact rfl|(exact fun (h:false=true)=>Bool.noConfusion h)|(refine fun (_:false=false)=>?_)|(exact fun (h:true=false)=>Bool.noConfusion h)|(refine fun (_:true=true)=>?_)|fail)
 refine Exists.intro (noO 1 (.node a n m sz mk)) (And.intro (congrArg (noO 1) hx) ?_)
 repeat' (first|apply And.intro|exact trivial|exact rfl|(exact fun (h:false=true)=>Bool.noConfusion h)|(refine fun (_:false=false)=>?_)|(exact fun (h:true=false)=>Bool.noConfusion h)|(refine fun (_:true=true)=>?_)|with_reducible exact g1|with_reducible exact g2|fail)
 refine Exists.intro (noO 1 (.node a n m sz mk)) (And.intro (congrArg (noO 1) hx) ?_)
 repeat' (first|apply And.intro|exact trivial|exact rfl|(exact fun (h:false=true)=>Bool.noConfusion h)|(refine fun (_:false=false)=>?_)|(exact fun (h:true=false)=>Bool.noConfusion h)|(refine fun (_:true=true)=>?_)|fail)
 refine Exists.intro (noO 1 (.node a n m (sz+dv p) mk)) (And.intro (qA x _ _) ?_)
 repeat' (first|apply And.intro|exact trivial|exact rfl|(exact fun (h:false=true)=>Bool.noConfusion h)|(refine fun (_:false=false)=>?_)|(exact fun (h:true=false)=>Bool.noConfusion h)|(refine fun (_:true=true)=>?_)|fail)
 ·refine fun (h:decide ((j:Int)=(t.length:Int))=true)=>?_
  have hj:j=t.length:=by have:=of_decide_eq_true h; omega
  have hfin:F=⟨bump p M x,k,x⟩:=by rw [<- k2,hj,List.drop_length]; rfl
  subst hfin
  have hN:bump p M x=put M x (.node a n m (sz+dv p) []):=iU hx
  have hc1:Cl (put M x (.node a n m (sz+dv p) [])) k:=by rw [<- hN]; exact (Ok.bump (p:=p) k1).cl
  have hv:put M x (.node a n m (sz+dv p) []) x=.node a n m (sz+dv p) []:=bN _ _ _
  have hl:=hc1.lst _ _ _ _ _ _ hv
  have hidl:=jQ hl
  have hf0:=hc1.free k (Nat.le_refl _)
  simp only [hN,lV hv] at hs hn hd
  rw [hidl] at hn
  cases p
  ·have hd':=hd rfl
   repeat' (first|apply And.intro|exact trivial|exact rfl|(exact fun (h:false=true)=>Bool.noConfusion h)|(refine fun (_:false=false)=>?_)|(exact fun (h:true=false)=>Bool.noConfusion h)|(refine fun (_:true=true)=>?_)|fail)
   refine Exists.intro (PX.mk (put M x (.node a n m (sz+dv false) [])) x a n m (sz+dv false) [] 0 t i) (Exists.intro [1,2] ?_)
   repeat' (first|apply And.intro|exact trivial|exact rfl|(exact fun (h:false=true)=>Bool.noConfusion h)|(refine fun (_:false=false)=>?_)|(exact fun (h:true=false)=>Bool.noConfusion h)|(refine fun (_:true=true)=>?_)|with_reducible exact hv|with_reducible exact hl|with_reducible exact hs|with_reducible exact hn|with_reducible exact hd'|exact nT (iH (by exact rfl)) (fun i=>aC (by exact rfl) (M i))|fail)
   have he:dU false (HX.mk false N c r t i).fin.N (HX.mk false N c r t i).fin.x 0 i=iD (PX.mk (put M x (.node a n m (sz+dv false) [])) x a n m (sz+dv false) [] 0 t i):=by
    rw [<- hF]
    show dU false (bump false M x) x 0 i=_
    rw [hN]
    simp only [dU,hv]
    rfl
   refine fun (_:Unit) (_:True)=>?_
   repeat' (first|apply And.intro|exact trivial|exact rfl|(exact fun (h:false=true)=>Bool.noConfusion h)|(refine fun (_:false=false)=>?_)|(exact fun (h:true=false)=>Bool.noConfusion h)|(refine fun (_:true=true)=>?_)|fail)
   refine Exists.intro (0:Nat) ?_
   repeat' (first|apply And.intro|exact trivial|exact rfl|(exact fun (h:false=true)=>Bool.noConfusion h)|(refine fun (_:false=false)=>?_)|(exact fun (h:true=false)=>Bool.noConfusion h)|(refine fun (_:true=true)=>?_)|exact fun (h:false=true)=>Bool.noConfusion h|exact sub_eq he (fun i=>aD (by exact rfl) (by exact rfl) _)|fail)
  ·repeat' (first|apply And.intro|exact trivial|exact rfl|(exact fun (h:false=true)=>Bool.noConfusion h)|(refine fun (_:false=false)=>?_)|(exact fun (h:true=false)=>Bool.noConfusion h)|(refine fun (_:true=true)=>?_)|fail)
   refine Exists.intro (PX.mk (put M x (.node a n m (sz+dv true) [])) x a n m (sz+dv true) [] k t i) (Exists.intro [1,2] ?_)
   repeat' (first|apply And.intro|exact trivial|exact rfl|(exact fun (h:false=true)=>Bool.noConfusion h)|(refine fun (_:false=false)=>?_)|(exact fun (h:true=false)=>Bool.noConfusion h)|(refine fun (_:true=true)=>?_)|with_reducible exact hv|with_reducible exact hl|with_reducible exact hs|with_reducible exact hn|with_reducible exact hf0|exact nT (iH (by exact rfl)) (fun i=>aC (by exact rfl) (M i))|fail)
   have he:∀ y,dU true (HX.mk true N c r t i).fin.N (HX.mk true N c r t i).fin.x y i=Vm (PX.mk (put M x (.node a n m (sz+dv true) [])) x a n m (sz+dv true) [] k t i) y:=by
    intro y
    rw [<- hF]
    show dU true (bump true M x) x y i=_
    rw [hN]
    simp only [dU,hv]
    rfl
   refine fun (y:Nat) (hy:(y=a/\cG (put M x (.node a n m (sz+dv true) [])) a≠[])\/y=k)=>?_
   have hy':true=true->(y=zI (HX.mk true N c r t i).fin.N (HX.mk true N c r t i).fin.x/\cG (HX.mk true N c r t i).fin.N y≠[])\/y=(HX.mk true N c r t i).fin.c:=by
    intro _
    rw [<- hF]
    show (y=zI (bump true M x) x/\cG (bump true M x) y≠[])\/y=k
    rw [hN]
    rcases hy with ⟨rfl,h⟩|h
    ·exact .inl ⟨by simp only [zI,hv],h⟩
    ·exact .inr h
   repeat' (first|apply And.intro|exact trivial|exact rfl|(exact fun (h:false=true)=>Bool.noConfusion h)|(refine fun (_:false=false)=>?_)|(exact fun (h:true=false)=>Bool.noConfusion h)|(refine fun (_:true=true)=>?_)|fail)
   refine Exists.intro y ?_
   repeat' (first|apply And.intro|exact trivial|exact rfl|with_reducible exact hy' rfl|(exact fun (h:false=true)=>Bool.noConfusion h)|(refine fun (_:false=false)=>?_)|(exact fun (h:true=false)=>Bool.noConfusion h)|(refine fun (_:true=true)=>?_)|exact sub_eq (he y) (fun i=>aD (by exact rfl) (by exact rfl) _)|fail)
 ·refine fun (h:decide ((j:Int)=(t.length:Int))=false)=>?_
  have hj:j < t.length:=by have:=of_decide_eq_false h; omega
  have g3:(0:Int)<=(j:Int):=by omega
  have g4:(j:Int) < (t.length:Int):=by omega
  have hdr:t.drop j=t.getD j 0::t.drop (j+1):=by rw [List.drop_eq_getElem_cons hj]; simp [hj]
  obtain ⟨b,hbb⟩:∃ b,b=t.getD j 0:=⟨_,rfl⟩
  repeat' (first|apply And.intro|exact trivial|exact rfl|(exact fun (h:false=true)=>Bool.noConfusion h)|(refine fun (_:false=false)=>?_)|(exact fun (h:true=false)=>Bool.noConfusion h)|(refine fun (_:true=true)=>?_)|with_reducible exact g3|with_reducible exact g4|fail)
  have hmx:m≠x:=lX hx hm
  have hfm:(bif Nat.beq m x then noO 1 (.node a n m (sz+dv p) []) else bif Nat.beq m x then noO 1 (.node a n m (sz+dv p) mk) else noO 1 (M m))=noO 1 (.map l q):=by rw [yB hmx,hm]; rfl
  refine Exists.intro (noO 1 (.node a n m (sz+dv p) [])) (And.intro (qA x _ _) ?_)
  repeat' (first|apply And.intro|exact trivial|exact rfl|(exact fun (h:false=true)=>Bool.noConfusion h)|(refine fun (_:false=false)=>?_)|(exact fun (h:true=false)=>Bool.noConfusion h)|(refine fun (_:true=true)=>?_)|fail)
  refine Exists.intro (noO 1 (.map l q)) (And.intro hfm ?_)
  repeat' (first|apply And.intro|exact trivial|exact rfl|(exact fun (h:false=true)=>Bool.noConfusion h)|(refine fun (_:false=false)=>?_)|(exact fun (h:true=false)=>Bool.noConfusion h)|(refine fun (_:true=true)=>?_)|fail)
  have hN:bump p M x=put M x (.node a n m (sz+dv p) []):=iU hx
  have hv:put M x (.node a n m (sz+dv p) []) x=.node a n m (sz+dv p) []:=bN _ _ _
  have hm1:put M x (.node a n m (sz+dv p) []) m=.map l q:=(aI hmx).trans hm
  have hk1:Ok ⟨put M x (.node a n m (sz+dv p) []),k,x⟩ (1000000000000+(j:Int)+1):=by rw [<- hN]; exact Ok.bump (p:=p) k1
  have hst:=Ok.step (p:=p) hk1 (by omega) (t.getD j 0)
  have k3:chN p (stN p ⟨put M x (.node a n m (sz+dv p) []),k,x⟩ (t.getD j 0)) (t.drop (j+1))=F:=by rw [<- k2,hdr,<- hN]; rfl
  cases hl:mget l (dE (t.getD j 0)) with
  | none =>
   refine iB.zQ hl ?_
   repeat' (first|apply And.intro|exact trivial|exact rfl|(exact fun (h:false=true)=>Bool.noConfusion h)|(refine fun (_:false=false)=>?_)|(exact fun (h:true=false)=>Bool.noConfusion h)|(refine fun (_:true=true)=>?_)|fail)
   have hxk:x < k:=k1.cl.lt (by show M x≠_; rw [hx]; intro h; cases h)
   have hmk:m < k:=k1.cl.lt (by show M m≠_; rw [hm]; intro h; cases h)
   have hx2:eZ (put M x (.node a n m (sz+dv p) [])) k x=.node a n m (sz+dv p) []:=(oI hxk).trans hv
   have hm2:eZ (put M x (.node a n m (sz+dv p) [])) k m=.map l q:=(oI hmk).trans hm1
   have g7:((0:Int)+dv p)≠0:=Ur p
   have g5:-9223372036854775808<=(0:Int)+dv p:=by omega
   have g6:(0:Int)+dv p<=9223372036854775807:=by omega
   have hcl:Cl (put M x (.node a n m (sz+dv p) [])) k:=hk1.cl
   have hkid:rV (put M x (.node a n m (sz+dv p) [])) x (t.getD j 0)=none:=by rw [kG hv hm1,hl]; rfl
   have hstn:stN p ⟨put M x (.node a n m (sz+dv p) []),k,x⟩ (t.getD j 0)=⟨put (eZ (put M x (.node a n m (sz+dv p) [])) k) m (.map (l++[(dE (t.getD j 0),k+1,q)]) (q+1)),k+3,k+1⟩:=by
    unfold stN
    simp only [hkid,oB hv hm1]
   rw [hstn] at hst k3
   refine Exists.intro (put M x (.node a n m (sz+dv p) []),k) (Exists.intro [1] ?_)
   repeat' (first|apply And.intro|exact trivial|exact rfl|(exact fun (h:false=true)=>Bool.noConfusion h)|(refine fun (_:false=false)=>?_)|(exact fun (h:true=false)=>Bool.noConfusion h)|(refine fun (_:true=true)=>?_)|exact nT (iH (by exact rfl)) (fun i=>aC (by exact rfl) (M i))|exact hcl|fail)
   refine fun (_:Unit) (_:True)=>?_
   repeat' (first|apply And.intro|exact trivial|exact rfl|(exact fun (h:false=true)=>Bool.noConfusion h)|(refine fun (_:false=false)=>?_)|(exact fun (h:true=false)=>Bool.noConfusion h)|(refine fun (_:true=true)=>?_)|with_reducible exact g3|with_reducible exact g4|fail)
   refine Exists.intro (rnO [(0,1)] [(1,0)] (noO 0 (.node a n m (sz+dv p) []))) (And.intro (congrArg (fun o=>rnO [(0,1)] [(1,0)] (noO 0 o)) hx2) ?_)
   repeat' (first|apply And.intro|exact trivial|exact rfl|(exact fun (h:false=true)=>Bool.noConfusion h)|(refine fun (_:false=false)=>?_)|(exact fun (h:true=false)=>Bool.noConfusion h)|(refine fun (_:true=true)=>?_)|fail)
   refine Exists.intro (rnO [(0,1)] [(1,0)] (noO 0 (.map l q))) (And.intro (congrArg (fun o=>rnO [(0,1)] [(1,0)] (noO 0 o)) hm2) ?_)
   repeat' (first|apply And.intro|exact trivial|exact rfl|(exact fun (h:false=true)=>Bool.noConfusion h)|(refine fun (_:false=false)=>?_)|(exact fun (h:true=false)=>Bool.noConfusion h)|(refine fun (_:true=true)=>?_)|fail)
   refine iB.zQ hl ?_
   repeat' (first|apply And.intro|exact trivial|exact rfl|(exact fun (h:false=true)=>Bool.noConfusion h)|(refine fun (_:false=false)=>?_)|(exact fun (h:true=false)=>Bool.noConfusion h)|(refine fun (_:true=true)=>?_)|fail)
   have hkm:k+1≠m:=by omega
   have k0':j+1<=t.length:=hj
   have hb2:T8.Ok ⟨put (eZ (put M x (.node a n m (sz+dv p) [])) k) m (.map (l++[(dE (t.getD j 0),k+1,q)]) (q+1)),k+3,k+1⟩ (1000000000000+((j+1:Nat):Int)):=by
    have:(1000000000000+((j+1:Nat):Int))=1000000000000+(j:Int)+1:=by omega
    rw [this]; exact hst
   have hme:t.length - (j+1) < t.length - j:=by omega
   have g8:-9223372036854775808<=(j:Int)+1:=by omega
   have g9:(j:Int)+1<=9223372036854775807:=by omega
   refine Exists.intro (rnO [(0,1)] [(1,0)] (noO 0 (.node (k+2) 0 k 0 []))) (And.intro ((Rm hkm _ _).trans (congrArg (fun o=>rnO [(0,1)] [(1,0)] (noO 0 o)) qV)) ?_)
   repeat' (first|apply And.intro|exact trivial|exact rfl|(exact fun (h:false=true)=>Bool.noConfusion h)|(refine fun (_:false=false)=>?_)|(exact fun (h:true=false)=>Bool.noConfusion h)|(refine fun (_:true=true)=>?_)|with_reducible exact g5|with_reducible exact g6|fail)
   ·exact fun h=>absurd (of_decide_eq_true h) g7
   ·refine fun (_:decide ((0:Int)+dv p=0)=false)=>?_
    repeat' (first|apply And.intro|exact trivial|exact rfl|(exact fun (h:false=true)=>Bool.noConfusion h)|(refine fun (_:false=false)=>?_)|(exact fun (h:true=false)=>Bool.noConfusion h)|(refine fun (_:true=true)=>?_)|with_reducible exact g8|with_reducible exact g9|fail)
    refine Exists.intro (j+1,⟨put (eZ (put M x (.node a n m (sz+dv p) [])) k) m (.map (l++[(dE (t.getD j 0),k+1,q)]) (q+1)),k+3,k+1⟩) ?_
    repeat' (first|apply And.intro|exact trivial|exact rfl|(exact fun (h:false=true)=>Bool.noConfusion h)|(refine fun (_:false=false)=>?_)|(exact fun (h:true=false)=>Bool.noConfusion h)|(refine fun (_:true=true)=>?_)|with_reducible exact k0'|with_reducible exact hb2|with_reducible exact k3|with_reducible exact hme|exact mE (M7 fun v=>rfl) (fun i=>aD (by exact rfl) (by exact rfl) _)|fail)
  | some e =>
   obtain ⟨v,w⟩:=e
   refine iB.tQ hl ?_
   repeat' (first|apply And.intro|exact trivial|exact rfl|(exact fun (h:false=true)=>Bool.noConfusion h)|(refine fun (_:false=false)=>?_)|(exact fun (h:true=false)=>Bool.noConfusion h)|(refine fun (_:true=true)=>?_)|fail)
   have hkid:rV (put M x (.node a n m (sz+dv p) [])) x (t.getD j 0)=some v:=by rw [kG hv hm1,hl]; rfl
   obtain ⟨a1,n1,m1,sz1,mk1,hv1⟩:isNode (put M x (.node a n m (sz+dv p) [])) v:=hk1.cl.kid hkid
   have hf:∀ u,(bif Nat.beq u x then noO 1 (.node a n m (sz+dv p) []) else bif Nat.beq u x then noO 1 (.node a n m (sz+dv p) mk) else noO 1 (M u))=noO 1 (put M x (.node a n m (sz+dv p) []) u):=by
    intro u
    unfold put
    cases Nat.beq u x <;> rfl
   have hb1:=hk1.bd _ _ _ _ _ _ hv1
   have g5:-9223372036854775808<=sz1+dv p:=by omega
   have g6:sz1+dv p<=9223372036854775807:=by omega
   have g8:-9223372036854775808<=(j:Int)+1:=by omega
   have g9:(j:Int)+1<=9223372036854775807:=by omega
   have k0':j+1<=t.length:=hj
   have hme:t.length - (j+1) < t.length - j:=by omega
   have hcast:(1000000000000+((j+1:Nat):Int))=1000000000000+(j:Int)+1:=by omega
   have hstn:stN p ⟨put M x (.node a n m (sz+dv p) []),k,x⟩ (t.getD j 0)=⟨if sz1+dv p=0 then put (put M x (.node a n m (sz+dv p) [])) m (.map (mdel l (dE (t.getD j 0))) q) else put M x (.node a n m (sz+dv p) []),k,v⟩:=by
    unfold stN
    simp only [hkid,rL hv hm1,Cq hv1]
   rw [hstn] at hst k3
   refine Exists.intro (noO 1 (.node a1 n1 m1 sz1 mk1)) (And.intro ((hf v).trans (congrArg (noO 1) hv1)) ?_)
   repeat' (first|apply And.intro|exact trivial|exact rfl|(exact fun (h:false=true)=>Bool.noConfusion h)|(refine fun (_:false=false)=>?_)|(exact fun (h:true=false)=>Bool.noConfusion h)|(refine fun (_:true=true)=>?_)|with_reducible exact g5|with_reducible exact g6|fail)
   ·refine fun (h0:decide (sz1+dv p=0)=true)=>?_
    rw [if_pos (of_decide_eq_true h0)] at hst k3
    have hb2:T8.Ok ⟨put (put M x (.node a n m (sz+dv p) [])) m (.map (mdel l (dE (t.getD j 0))) q),k,v⟩ (1000000000000+((j+1:Nat):Int)):=by rw [hcast]; exact hst
    repeat' (first|apply And.intro|exact trivial|exact rfl|(exact fun (h:false=true)=>Bool.noConfusion h)|(refine fun (_:false=false)=>?_)|(exact fun (h:true=false)=>Bool.noConfusion h)|(refine fun (_:true=true)=>?_)|with_reducible exact g3|with_reducible exact g4|fail)
    refine Exists.intro (noO 1 (.node a n m (sz+dv p) [])) (And.intro (qA x _ _) ?_)
    repeat' (first|apply And.intro|exact trivial|exact rfl|(exact fun (h:false=true)=>Bool.noConfusion h)|(refine fun (_:false=false)=>?_)|(exact fun (h:true=false)=>Bool.noConfusion h)|(refine fun (_:true=true)=>?_)|fail)
    refine Exists.intro (noO 1 (.map l q)) (And.intro hfm ?_)
    repeat' (first|apply And.intro|exact trivial|exact rfl|(exact fun (h:false=true)=>Bool.noConfusion h)|(refine fun (_:false=false)=>?_)|(exact fun (h:true=false)=>Bool.noConfusion h)|(refine fun (_:true=true)=>?_)|with_reducible exact g8|with_reducible exact g9|fail)
    refine Exists.intro (j+1,⟨put (put M x (.node a n m (sz+dv p) [])) m (.map (mdel l (dE (t.getD j 0))) q),k,v⟩) ?_
    repeat' (first|apply And.intro|exact trivial|exact rfl|(exact fun (h:false=true)=>Bool.noConfusion h)|(refine fun (_:false=false)=>?_)|(exact fun (h:true=false)=>Bool.noConfusion h)|(refine fun (_:true=true)=>?_)|with_reducible exact k0'|with_reducible exact hb2|with_reducible exact k3|with_reducible exact hme|exact mE (M7 fun v=>rfl) (nT (iH (by exact rfl)) (fun i=>aC (by exact rfl) (M i)))|fail)
   ·refine fun (h0:decide (sz1+dv p=0)=false)=>?_
    rw [if_neg (of_decide_eq_false h0)] at hst k3
    have hb2:T8.Ok ⟨put M x (.node a n m (sz+dv p) []),k,v⟩ (1000000000000+((j+1:Nat):Int)):=by rw [hcast]; exact hst
    repeat' (first|apply And.intro|exact trivial|exact rfl|(exact fun (h:false=true)=>Bool.noConfusion h)|(refine fun (_:false=false)=>?_)|(exact fun (h:true=false)=>Bool.noConfusion h)|(refine fun (_:true=true)=>?_)|with_reducible exact g8|with_reducible exact g9|fail)
    refine Exists.intro (j+1,⟨put M x (.node a n m (sz+dv p) []),k,v⟩) ?_
    repeat' (first|apply And.intro|exact trivial|exact rfl|(exact fun (h:false=true)=>Bool.noConfusion h)|(refine fun (_:false=false)=>?_)|(exact fun (h:true=false)=>Bool.noConfusion h)|(refine fun (_:true=true)=>?_)|with_reducible exact k0'|with_reducible exact hb2|with_reducible exact k3|with_reducible exact hme|exact nT (iH (by exact rfl)) (fun i=>aC (by exact rfl) (M i))|fail)
end T9
end
section
open Go Go.Eng Go.Proofs
set_option maxRecDepth 100000
namespace L1
def iF (s:List UInt8) (c:Int) (f:Nat->Int) (j:Nat):Int:=bif s.any (fun b=>Nat.beq b.toNat j) then c else f j
def g117:List Nat:=[11,0,1,4]
def c117:aH :=
 .seq (.region g117 [(zo 4 (.move (cj 0)))]) (.seq (.seq (.region g117 [(mv 5 1),(mv 6 0),(zo 7 (.nilCheck (.s 6))),(fa 8 0 7),(ld 9 8),(zo 10 (.lenStr (.s 9))),(zo 11 (.bin (.geq) (.s 5) (.s 10)))]) (.cond (.s 11) (.seq (.region g117 [(zo 4 (.move (cj 0)))]) .ret) .skip)) (.seq (.drawn g117 (.pure 0 (mv 12 0) (.pure 1 (mv 13 0) (.pure 2 (zo 14 (.nilCheck (.s 13))) (.pure 3 (fa 15 0 14) (.pure 4 (ld 16 15) (.pure 5 (mv 17 1) (.pure 6 (zo 18 (.idxStr (.s 16) (.s 17))) (.pure 7 (zo 19 (.nilCheck (.s 12))) (.pure 8 (fa 20 1 19) (.pure 9 (zo 21 (.idxArr 256 1 (.s 20) (.s 18))) (.pure 10 (ld 22 21) (.pure 11 (mv 4 22) .done))))))))))))) .ret))
theorem e117:aS Tryz.prog 117 g117 [] [] []=some (c117,[.slot 4],23):=by kernel_rfl
def AtX:=List UInt8×(Nat->Int)×Int
def atV (t:List UInt8) (f:Nat->Int) (i:Int):Int:=bif decide (i>=(t.length:Int)) then 0 else f (t.getD i.toNat 0).toNat
def atS:Eng.Spec where
 X:=AtX
 args:=fun x=>.cons (.cptr (.cons (.str x.1) (.ints .i64 256 x.2.1 .nil))) (.cons (.int .i64 x.2.2) .nil)
 pre:=fun x=>0<=x.2.2
 res:=fun x=>.int .i64 (atV x.1 x.2.1 x.2.2)
 inst:=fun s=>match s with
  | .cons (.cptr (.cons (.str t) (.ints _ _ f _))) (.cons (.int _ i) _)=>some (t,f,i)
  | _=>none
theorem wM:atS.Ok Tryz.prog 117:=by
 refine Eng.Spec.oU e117 .nil (fun _=>[]) (fun _ _=>aF.nil) ?_
 rintro ⟨t,f,i⟩ (h0:0<=i)
 refine ⟨trivial,?_⟩
 repeat' (first|apply And.intro|exact trivial|exact rfl)
 ·refine fun (hg:decide ((t.length:Int)<=i)=true)=>?_
  have e:0=atV t f i:=by
   unfold atV
   rw [show decide (i>=(t.length:Int))=true from hg]; rfl
  repeat' (first|apply And.intro|exact trivial|exact rfl|exact e)
 ·refine fun (hg:decide ((t.length:Int)<=i)=false)=>?_
  have h1:i < (t.length:Int):=Int.not_le.1 (of_decide_eq_false hg)
  have h2:(0:Int)<=((t.getD i.toNat 0).toNat:Int):=by omega
  have h3:((t.getD i.toNat 0).toNat:Int) < 256:=by have:=(t.getD i.toNat 0).toNat_lt; omega
  have e:f ((t.getD i.toNat 0).toNat:Int).toNat=atV t f i:=by
   unfold atV
   rw [show decide (i>=(t.length:Int))=false from hg]; rfl
  repeat' (first|apply And.intro|exact trivial|exact rfl|exact h0|exact h1|exact h2|exact h3|exact e)
def g115:List Nat:=[9,0,1,2,5]
def c115:aH :=
 .seq (.region g115 [(zo 5 (.move (cj 0)))]) (.block 0 (.loop 0 [6,7,8,9,12,13,14,15,16,10,11,5] (.seq (.seq (.region g115 [(mv 6 5),(mv 7 0),(zo 8 (.lenStr (.s 7))),(zo 9 (.bin (.lss) (.s 6) (.s 8)))]) (.cond (.s 9) .skip (.exit 0))) (.seq (.block 1 (.region g115 [(mv 12 0),(mv 13 5),(zo 14 (.idxStr (.s 12) (.s 13))),(mv 15 1),(zo 16 (.idxArr 256 1 (.s 2) (.s 14))),⟨none,none,.store 1 (.s 16) (.s 15),[]⟩])) (.region g115 [(mv 10 5),(zo 11 (.bin (.add) (.s 10) (cj 1))),(mv 5 11)])))))
theorem e115:aS Tryz.prog 115 g115 [] [] []=some (c115,[],17):=by kernel_rfl
theorem Mw {c:Int} {f:Nat->Int} {i:Nat} {s:List UInt8}:f i=iF (s.take 0) c f i:=by simp [iF]
theorem Mx {s:List UInt8} {c:Int} {f:Nat->Int} {k:Nat} (h:k < s.length) (i:Nat):(bif Nat.beq i (((s.getD (k:Int).toNat 0).toNat:Int).toNat+0) then c else iF (s.take k) c f i)=iF (s.take (k+1)) c f i:=by
 unfold iF
 rw [List.take_succ_eq_append_getElem h,List.any_append]
 simp only [Int.toNat_natCast,Nat.add_zero,List.getD_eq_getElem?_getD,List.getElem?_eq_getElem h,Option.getD_some,List.any_cons,List.any_nil,Bool.or_false]
 by_cases e:i=s[k].toNat
 ·subst e
  rw [Nat.beq_refl]
  simp
 ·have h1:Nat.beq i s[k].toNat=false:=by
   cases hb:Nat.beq i s[k].toNat with
   | false=>rfl
   | true=>exact absurd (nbeq hb) e
  have h2:Nat.beq s[k].toNat i=false:=by
   cases hb:Nat.beq s[k].toNat i with
   | false=>rfl
   | true=>exact absurd (nbeq hb).symm e
  rw [h1,h2]
  simp
def Vp:Eng.aM where
 X:=List UInt8×Int×(Nat->Int)
 Y:=Nat->Int
 args:=fun x=>.cons (.str x.1) (.cons (.int .i64 x.2.1) (.cons (.own 0 0) .nil))
 pre:=fun x=>x.1.length<=1000
 h0:=fun x=>[(0,.cells 124 (.ints .i64 256 x.2.2 .nil))]
 nx0:=1
 post:=fun x y=>y=iF x.1 x.2.1 x.2.2
 res:=fun _ _=>.tup .nil
 h1:=fun _ y=>[(0,.cells 124 (.ints .i64 256 y .nil))]
 nx1:=1
theorem Tm:Vp.Ok Tryz.prog 115:=by
 refine Eng.aM.oU e115 .nil (fun _=>[]) (fun _ _=>aF.nil) ?_
 rintro ⟨s,c,f⟩ (hs:s.length<=1000)
 refine ⟨trivial,?_⟩
 repeat' (first|apply And.intro|exact trivial|exact rfl)
 refine ⟨⟨Nat,fun k=>k<=s.length,fun k=>[(5,.int .i64 (k:Int))],fun k=>[(0,.cells 124 (.ints .i64 256 (iF (s.take k) c f) .nil))],fun k=>s.length - k⟩,0,Nat.zero_le _,?_,?_⟩
 ·repeat' (first|apply And.intro|exact trivial|exact rfl|exact fun (i:Nat) (_:i < 256)=>Mw)
 rintro (k:Nat) (hk:k<=s.length)
 repeat' (first|apply And.intro|exact trivial|exact rfl)
 ·refine fun (hg:decide ((k:Int) < (s.length:Int))=true)=>?_
  have h1:(k:Int) < (s.length:Int):=of_decide_eq_true hg
  have h0:(0:Int)<=(k:Int):=by omega
  have h2:(0:Int)<=((s.getD (k:Int).toNat 0).toNat:Int):=by omega
  have h3:((s.getD (k:Int).toNat 0).toNat:Int) < 256:=by have:=(s.getD (k:Int).toNat 0).toNat_lt; omega
  have h4:((s.getD (k:Int).toNat 0).toNat:Int).toNat < 256 - 0:=by omega
  have b1:-9223372036854775808<=(k:Int)+1:=by omega
  have b2:(k:Int)+1<=9223372036854775807:=by omega
  have hkl:k < s.length:=by omega
  repeat' (first|apply And.intro|exact trivial|exact rfl)
  ·exact h0
  ·exact h1
  ·exact h2
  ·exact h3
  ·exact h4
  ·exact b1
  ·exact b2
  refine Exists.intro (k+1) ?_
  repeat' (first|apply And.intro|exact trivial|exact rfl)
  ·show k+1<=s.length
   exact hkl
  ·exact fun (i:Nat) (_:i < 256)=>Mx hkl i
  ·show s.length - (k+1) < s.length - k
   omega
 ·refine fun (hg:decide ((k:Int) < (s.length:Int))=false)=>?_
  have h1:¬ (k:Int) < (s.length:Int):=of_decide_eq_false hg
  have hkl:k=s.length:=by omega
  subst hkl
  repeat' (first|apply And.intro|exact trivial|exact rfl|(refine Exists.intro (iF s c f) ?_))
  exact fun (i:Nat) (_:i < 256)=>by rw [List.take_length]
end L1
end
section
open Go Go.Eng Go.Proofs L1
set_option maxRecDepth 100000
namespace L2
def f0:Nat->Int:=fun _=>0
def t1:List UInt8:=[97,98,99,100,101,102,103,104,105,106,107,108,109,110,111,112,113,114,115,116,117,118,119,120,121,122,65,66,67,68,69,70,71,72,73,74,75,76,77,78,79,80,81,82,83,84,85,86,87,88,89,90]
def f1:Nat->Int:=iF t1 3 f0
def t2:List UInt8:=[48,49,50,51,52,53,54,55,56,57]
def f2:Nat->Int:=iF t2 4 f1
def t3:List UInt8:=[95]
def f3:Nat->Int:=iF t3 5 f2
def t4:List UInt8:=[32,9,10]
def f4:Nat->Int:=iF t4 1 f3
def t5:List UInt8:=[35]
def f5:Nat->Int:=iF t5 2 f4
def t6:List UInt8:=[34]
def f6:Nat->Int:=iF t6 6 f5
def t7:List UInt8:=[33]
def f7:Nat->Int:=iF t7 7 f6
def t8:List UInt8:=[60,62]
def f8:Nat->Int:=iF t8 8 f7
def t9:List UInt8:=[59,44,46,58,40,41,91,93,123,125,61,43,45]
def f9:Nat->Int:=iF t9 9 f8
abbrev cls:=f9
def g93:List Nat:=[2,1,0]
def c93:aH :=
 .seq (.region g93 [(zo 0 (.alloc 124 (.zeros .i64 256 .nil)))]) (.seq (.region g93 [(zo 1 (.alloc 124 (.zeros .i64 256 .nil)))]) (.seq (.region g93 [(zo 3 (.mkfn 115 [.s 1])),(mv 2 3)]) (.seq (.region g93 [(mv 4 2),(zo 5 (.call (.s 4) [.c (.str [97,98,99,100,101,102,103,104,105,106,107,108,109,110,111,112,113,114,115,116,117,118,119,120,121,122,65,66,67,68,69,70,71,72,73,74,75,76,77,78,79,80,81,82,83,84,85,86,87,88,89,90]),cj 3]))]) (.seq (.region g93 [(mv 6 2),(zo 7 (.call (.s 6) [.c (.str [48,49,50,51,52,53,54,55,56,57]),cj 4]))]) (.seq (.region g93 [(mv 8 2),(zo 9 (.call (.s 8) [.c (.str [95]),cj 5]))]) (.seq (.region g93 [(mv 10 2),(zo 11 (.call (.s 10) [.c (.str [32,9,10]),cj 1]))]) (.seq (.region g93 [(mv 12 2),(zo 13 (.call (.s 12) [.c (.str [35]),cj 2]))]) (.seq (.region g93 [(mv 14 2),(zo 15 (.call (.s 14) [.c (.str [34]),cj 6]))]) (.seq (.region g93 [(mv 16 2),(zo 17 (.call (.s 16) [.c (.str [33]),cj 7]))]) (.seq (.region g93 [(mv 18 2),(zo 19 (.call (.s 18) [.c (.str [60,62]),cj 8]))]) (.seq (.region g93 [(mv 20 2),(zo 21 (.call (.s 20) [.c (.str [59,44,46,58,40,41,91,93,123,125,61,43,45]),cj 9]))]) (.seq (.region g93 [(zo 22 (.load 256 true (.s 1))),⟨none,none,.store 256 (.s 0) (.s 22),[]⟩]) .ret))))))))))))
theorem e93:aS Tryz.prog 93 g93 [] [] []=some (c93,[.cell 0 256 true],23):=by kernel_rfl
def Uh:Eng.Spec where
 X:=Unit
 args:=fun _=>.nil
 pre:=fun _=>True
 res:=fun _=>.agg (.ints .i64 256 cls .nil)
 inst:=fun _=>some ()
theorem Rt:Uh.Ok Tryz.prog 93:=by
 refine Eng.Spec.oU e93 .nil (fun _=>[(115,.m Vp)]) (fun _ _=>aF.m Tm aF.nil) ?_
 rintro ⟨⟩ _
 refine ⟨trivial,?_⟩
 refine Exists.intro (t1,3,f0) (Exists.intro [1] ?_)
 repeat' (first|apply And.intro|exact trivial|exact rfl|exact (by decide:t1.length<=1000)|exact fun (i:Nat) (_:i < 256)=>rfl)
 refine fun (y1:Nat->Int) (hy1:y1=iF t1 3 f0)=>?_
 repeat' (first|apply And.intro|exact trivial|exact rfl)
 refine Exists.intro (t2,4,y1) (Exists.intro [1] ?_)
 repeat' (first|apply And.intro|exact trivial|exact rfl|exact (by decide:t2.length<=1000)|exact fun (i:Nat) (_:i < 256)=>rfl)
 refine fun (y2:Nat->Int) (hy2:y2=iF t2 4 y1)=>?_
 repeat' (first|apply And.intro|exact trivial|exact rfl)
 refine Exists.intro (t3,5,y2) (Exists.intro [1] ?_)
 repeat' (first|apply And.intro|exact trivial|exact rfl|exact (by decide:t3.length<=1000)|exact fun (i:Nat) (_:i < 256)=>rfl)
 refine fun (y3:Nat->Int) (hy3:y3=iF t3 5 y2)=>?_
 repeat' (first|apply And.intro|exact trivial|exact rfl)
 refine Exists.intro (t4,1,y3) (Exists.intro [1] ?_)
 repeat' (first|apply And.intro|exact trivial|exact rfl|exact (by decide:t4.length<=1000)|exact fun (i:Nat) (_:i < 256)=>rfl)
 refine fun (y4:Nat->Int) (hy4:y4=iF t4 1 y3)=>?_
 repeat' (first|apply And.intro|exact trivial|exact rfl)
 refine Exists.intro (t5,2,y4) (Exists.intro [1] ?_)
 repeat' (first|apply And.intro|exact trivial|exact rfl|exact (by decide:t5.length<=1000)|exact fun (i:Nat) (_:i < 256)=>rfl)
 refine fun (y5:Nat->Int) (hy5:y5=iF t5 2 y4)=>?_
 repeat' (first|apply And.intro|exact trivial|exact rfl)
 refine Exists.intro (t6,6,y5) (Exists.intro [1] ?_)
 repeat' (first|apply And.intro|exact trivial|exact rfl|exact (by decide:t6.length<=1000)|exact fun (i:Nat) (_:i < 256)=>rfl)
 refine fun (y6:Nat->Int) (hy6:y6=iF t6 6 y5)=>?_
 repeat' (first|apply And.intro|exact trivial|exact rfl)
 refine Exists.intro (t7,7,y6) (Exists.intro [1] ?_)
 repeat' (first|apply And.intro|exact trivial|exact rfl|exact (by decide:t7.length<=1000)|exact fun (i:Nat) (_:i < 256)=>rfl)
 refine fun (y7:Nat->Int) (hy7:y7=iF t7 7 y6)=>?_
 repeat' (first|apply And.intro|exact trivial|exact rfl)
 refine Exists.intro (t8,8,y7) (Exists.intro [1] ?_)
 repeat' (first|apply And.intro|exact trivial|exact rfl|exact (by decide:t8.length<=1000)|exact fun (i:Nat) (_:i < 256)=>rfl)
 refine fun (y8:Nat->Int) (hy8:y8=iF t8 8 y7)=>?_
 repeat' (first|apply And.intro|exact trivial|exact rfl)
 refine Exists.intro (t9,9,y8) (Exists.intro [1] ?_)
 repeat' (first|apply And.intro|exact trivial|exact rfl|exact (by decide:t9.length<=1000)|exact fun (i:Nat) (_:i < 256)=>rfl)
 refine fun (y9:Nat->Int) (hy9:y9=iF t9 9 y8)=>?_
 repeat' (first|apply And.intro|exact trivial|exact rfl)
 have e:y9=cls:=by rw [hy9,hy8,hy7,hy6,hy5,hy4,hy3,hy2,hy1]; rfl
 exact fun (i:Nat) (_:i < 256)=>congrFun e i
end L2
end
