/- A part of the proof. -/
import Derived.Test.YtpiolkcdfgiefaaGreatDoorT11
section
open Go Go.Eng Go.Proofs T1 T2 T3 T4 T5 T6 T7 T8 T9 T10 T11
set_option maxRecDepth 100000
namespace T12
theorem Te {b:Bool} (h:(!b)=true):b=false:=by cases b <;> simp_all
theorem Td {b:Bool} (h:(!b)=false):b=true:=by cases b <;> simp_all
def HX.has (x:HX):Bool:=oL x.N x.r x.t x.i
def sR (x:HX):Int:=bif HX.has x then 0 else 10
def iD (x:HX):Nat->NO:=bif HX.has x then dU false x.fin.N x.fin.x 0 x.i else x.N
def g14:List Nat:=[1,5,8,0,3,4]
def c14:aH :=
 .seq (.region g14 [(zo 3 (.box 32 (.s 1))),(zo 4 (.move (cj 0)))]) (.seq (.block 0 (.seq (.region g14 [(mv 6 0),(zo 7 (.ptrEq false (.s 6) (.c (.nilptr)))),(mv 5 7)]) (.cond (.s 5) (.seq (.region g14 [(zo 4 (.move (cj 1)))]) .ret) (.seq (.region g14 [(mv 9 0),(zo 10 (.load 2 true (.s 3))),(zo 11 (.call (.c (.fn 40)) [.s 9,.s 10])),(zo 12 (.not (.s 11))),(mv 8 12)]) (.cond (.s 8) (.seq (.region g14 [(zo 4 (.move (cj 10)))]) .ret) .skip))))) (.seq (.region g14 [(mv 13 0),(fa 14 0 3),(ld 15 14),(zo 16 (.mkfn 42 [.s 3])),(zo 17 (.call (.c (.fn 41)) [.s 13,.s 15,cj (-1),.s 16]))]) (.seq (.region g14 [(zo 4 (.move (cj 0)))]) .ret)))
theorem e14:aS Tryz.prog 14 g14 [] [] []=some (c14,[.slot 4],18):=by kernel_rfl
def Kk:aM where
 X:=HX
 Y:=Unit
 args:=fun x=>.cons (.own 0 0) (.cons (.agg (zF x.t x.i)) .nil)
 pre:=fun x=>x.p=false/\Cl x.N x.c/\isNode x.N x.r/\x.t.length < 4611686018427387904/\(∀ v,atN x.N x.r x.t=some v->(iZ x.N v).length<=1000000)/\(HX.has x=true->chS.pre x)
 h0:=fun x=>tH 0 1 x.r x.N
 nx0:=2
 post:=fun _ _=>True
 res:=fun x _=>.int .i64 (sR x)
 h1:=fun x _=>tH 0 1 x.r (iD x)
 nx1:=2
theorem Og:Kk.Ok Tryz.prog 14:=by
 refine Eng.aM.okR e14 .nil (fun _=>[(40,.m Sn),(41,.m chS)]) (fun _ _=>aF.m K7 (aF.m Qg aF.nil)) ?_
 rintro ⟨p,N,c,r,t,i⟩ ⟨(hp:p=false),(hc:Cl N c),(hr:isNode N r),(ht:t.length < 4611686018427387904),(hi:∀ v,atN N r t=some v->(iZ N v).length<=1000000),(hch:HX.has (HX.mk p N c r t i)=true->chS.pre (HX.mk p N c r t i))⟩
 subst hp
 refine ⟨trivial,?_⟩
 repeat' (first|apply And.intro|exact trivial|exact rfl|(exact fun (h:false=true)=>Bool.noConfusion h)|(refine fun (_:false=false)=>?_)|(exact fun (h:true=false)=>Bool.noConfusion h)|(refine fun (_:true=true)=>?_)|fail)
 refine Exists.intro (r,N,c,t,i) (Exists.intro [0,1] ?_)
 repeat' (first|apply And.intro|exact trivial|exact rfl|(exact fun (h:false=true)=>Bool.noConfusion h)|(refine fun (_:false=false)=>?_)|(exact fun (h:true=false)=>Bool.noConfusion h)|(refine fun (_:true=true)=>?_)|exact fun (i:Nat)=>aC (by exact rfl) (N i)|exact fun (i:Nat)=>aD (by exact rfl) (by exact rfl) (N i)|with_reducible exact hc|with_reducible exact hr|with_reducible exact ht|with_reducible exact hi|fail)
 refine fun (y:Bool) (hy:y=oL N r t i)=>?_
 subst hy
 repeat' (first|apply And.intro|exact trivial|exact rfl|(exact fun (h:false=true)=>Bool.noConfusion h)|(refine fun (_:false=false)=>?_)|(exact fun (h:true=false)=>Bool.noConfusion h)|(refine fun (_:true=true)=>?_)|exact fun (i:Nat)=>aC (by exact rfl) (N i)|exact fun (i:Nat)=>aD (by exact rfl) (by exact rfl) (N i)|fail)
 ·refine fun (h:(!oL N r t i)=true)=>?_
  have h0:HX.has (HX.mk false N c r t i)=false:=Te h
  have e1:10=sR (HX.mk false N c r t i):=by unfold sR; rw [h0]; rfl
  have e2:iD (HX.mk false N c r t i)=N:=by unfold iD; rw [h0]; rfl
  repeat' (first|apply And.intro|exact trivial|exact rfl|(exact fun (h:false=true)=>Bool.noConfusion h)|(refine fun (_:false=false)=>?_)|(exact fun (h:true=false)=>Bool.noConfusion h)|(refine fun (_:true=true)=>?_)|fail)
  refine Exists.intro () ?_
  repeat' (first|apply And.intro|exact trivial|exact rfl|(exact fun (h:false=true)=>Bool.noConfusion h)|(refine fun (_:false=false)=>?_)|(exact fun (h:true=false)=>Bool.noConfusion h)|(refine fun (_:true=true)=>?_)|exact e1|exact sub_eq e2 (fun i=>aD (by exact rfl) (by exact rfl) (N i))|fail)
 ·refine fun (h:(!oL N r t i)=false)=>?_
  have h0:HX.has (HX.mk false N c r t i)=true:=Td h
  have e1:0=sR (HX.mk false N c r t i):=by unfold sR; rw [h0]; rfl
  have e2:∀ y,iD (HX.mk false N c r t i)=dU false (HX.mk false N c r t i).fin.N (HX.mk false N c r t i).fin.x y i:=by
   intro y
   unfold iD
   rw [h0]
   show dU false _ _ 0 i=dU false _ _ y i
   unfold dU
   split <;> rfl
  have hpre:=hch h0
  repeat' (first|apply And.intro|exact trivial|exact rfl|(exact fun (h:false=true)=>Bool.noConfusion h)|(refine fun (_:false=false)=>?_)|(exact fun (h:true=false)=>Bool.noConfusion h)|(refine fun (_:true=true)=>?_)|fail)
  refine Exists.intro (HX.mk false N c r t i) (Exists.intro [0,1,2] ?_)
  repeat' (first|exact hpre|apply And.intro|exact trivial|exact rfl|(exact fun (h:false=true)=>Bool.noConfusion h)|(refine fun (_:false=false)=>?_)|(exact fun (h:true=false)=>Bool.noConfusion h)|(refine fun (_:true=true)=>?_)|exact fun (i:Nat)=>aC (by exact rfl) (N i)|exact fun (i:Nat)=>aD (by exact rfl) (by exact rfl) (N i)|fail)
  refine fun (y:Nat) _=>?_
  repeat' (first|apply And.intro|exact trivial|exact rfl|(exact fun (h:false=true)=>Bool.noConfusion h)|(refine fun (_:false=false)=>?_)|(exact fun (h:true=false)=>Bool.noConfusion h)|(refine fun (_:true=true)=>?_)|fail)
  refine Exists.intro () ?_
  repeat' (first|apply And.intro|exact trivial|exact rfl|(exact fun (h:false=true)=>Bool.noConfusion h)|(refine fun (_:false=false)=>?_)|(exact fun (h:true=false)=>Bool.noConfusion h)|(refine fun (_:true=true)=>?_)|exact e1|exact sub_eq (e2 y) (fun i=>Ag (by exact rfl) (by exact rfl) (by exact rfl) _)|exact sub_eq (e2 y) (fun i=>aD (by exact rfl) (by exact rfl) _)|fail)
def lG (x:HX):Int:=bif iI x.t x.i then (bif HX.has x then 8 else bif decide (20000<=szN x.N x.r) then 22 else 0) else 1
def HX.puts (x:HX):Bool:=iI x.t x.i && (!HX.has x && !decide (20000<=szN x.N x.r))
def nM (x:HX) (y:Nat):Nat->NO:=bif HX.puts x then dU true x.fin.N x.fin.x y x.i else x.N
def g15:List Nat:=[1,5,13,17,0,3,4]
def c15:aH :=
 .seq (.region g15 [(zo 3 (.box 32 (.s 1))),(zo 4 (.move (cj 0)))]) (.seq (.block 0 (.seq (.region g15 [(mv 6 0),(zo 7 (.ptrEq false (.s 6) (.c (.nilptr)))),(mv 8 7),(zg 9 8 false (.load 2 true (.s 3))),(zg 10 8 false (.call (.c (.fn 38)) [.s 9])),(zg 11 8 false (.not (.s 10))),(zo 12 (.pick (.s 8) cT (.s 11))),(mv 5 12)]) (.cond (.s 5) (.seq (.region g15 [(zo 4 (.move (cj 1)))]) .ret) (.seq (.region g15 [(mv 14 0),(zo 15 (.load 2 true (.s 3))),(zo 16 (.call (.c (.fn 40)) [.s 14,.s 15])),(mv 13 16)]) (.cond (.s 13) (.seq (.region g15 [(zo 4 (.move (cj 8)))]) .ret) (.seq (.region g15 [(mv 18 0),(zo 19 (.nilCheck (.s 18))),(fa 20 0 19),(ld 21 20),(zo 22 (.nilCheck (.s 21))),(fa 23 2 22),(ld 24 23),(zo 25 (.bin (.geq) (.s 24) (cj 20000))),(mv 17 25)]) (.cond (.s 17) (.seq (.region g15 [(zo 4 (.move (cj 22)))]) .ret) .skip))))))) (.seq (.region g15 [(mv 26 0),(fa 27 0 3),(ld 28 27),(zo 29 (.mkfn 45 [.s 3])),(zo 30 (.call (.c (.fn 41)) [.s 26,.s 28,cj 1,.s 29]))]) (.seq (.region g15 [(zo 4 (.move (cj 0)))]) .ret)))
theorem e15:aS Tryz.prog 15 g15 [] [] []=some (c15,[.slot 4],31):=by kernel_rfl
def Pr:aM where
 X:=HX
 Y:=Nat
 args:=fun x=>.cons (.own 0 0) (.cons (.agg (zF x.t x.i)) .nil)
 pre:=fun x=>x.p=true/\Cl x.N x.c/\isNode x.N x.r/\x.t.length < 4611686018427387904/\(∀ v,atN x.N x.r x.t=some v->(iZ x.N v).length<=1000000)/\(HX.puts x=true->chS.pre x)
 h0:=fun x=>tH 0 1 x.r x.N
 nx0:=2
 post:=fun x y=>HX.puts x=true->chS.post x y
 res:=fun x _=>.int .i64 (lG x)
 h1:=fun x y=>tH 0 1 x.r (nM x y)
 nx1:=2
theorem Mm:Pr.Ok Tryz.prog 15:=by
 refine Eng.aM.okR e15 .nil (fun _=>[(38,.p Tu),(40,.m Sn),(41,.m chS)]) (fun _ _=>aF.p Ni (aF.m K7 (aF.m Qg aF.nil))) ?_
 rintro ⟨p,N,c,r,t,i⟩ ⟨(hp:p=true),(hc:Cl N c),(hr:isNode N r),(ht:t.length < 4611686018427387904),(hi:∀ v,atN N r t=some v->(iZ N v).length<=1000000),(hch:HX.puts (HX.mk p N c r t i)=true->chS.pre (HX.mk p N c r t i))⟩
 subst hp
 obtain ⟨a,n,m,sz,mk,hrn⟩:=hr
 have hr:isNode N r:=⟨a,n,m,sz,mk,hrn⟩
 have hsz:szN N r=sz:=Cq hrn
 refine ⟨trivial,?_⟩
 repeat' (first|apply And.intro|exact trivial|exact rfl|(exact fun (h:false=true)=>Bool.noConfusion h)|(refine fun (_:false=false)=>?_)|(exact fun (h:true=false)=>Bool.noConfusion h)|(refine fun (_:true=true)=>?_)|exact ht|fail)
 ·refine fun (h:aW false cT (.s 11) true (!iI t i)=true)=>?_
  rw [eU,Bool.false_or] at h
  have hv:iI t i=false:=Te h
  have e1:1=lG (HX.mk true N c r t i):=by unfold lG; simp only [hv,cond_false]
  have e0:HX.puts (HX.mk true N c r t i)=false:=by unfold HX.puts; simp only [hv,Bool.false_and]
  have e2:∀ y,nM (HX.mk true N c r t i) y=N:=fun y=>by unfold nM; rw [e0]; rfl
  have e3:HX.puts (HX.mk true N c r t i)=true->chS.post (HX.mk true N c r t i) (0:Nat):=fun h=>by rw [e0] at h; cases h
  repeat' (first|apply And.intro|exact trivial|exact rfl|(exact fun (h:false=true)=>Bool.noConfusion h)|(refine fun (_:false=false)=>?_)|(exact fun (h:true=false)=>Bool.noConfusion h)|(refine fun (_:true=true)=>?_)|fail)
  refine Exists.intro (0:Nat) ?_
  repeat' (first|exact e3|apply And.intro|exact trivial|exact rfl|(exact fun (h:false=true)=>Bool.noConfusion h)|(refine fun (_:false=false)=>?_)|(exact fun (h:true=false)=>Bool.noConfusion h)|(refine fun (_:true=true)=>?_)|exact e1|exact sub_eq (e2 _) (fun i=>aC (by exact rfl) (N i))|fail)
 ·refine fun (h:aW false cT (.s 11) true (!iI t i)=false)=>?_
  rw [eU,Bool.false_or] at h
  have hv:iI t i=true:=Td h
  repeat' (first|apply And.intro|exact trivial|exact rfl|(exact fun (h:false=true)=>Bool.noConfusion h)|(refine fun (_:false=false)=>?_)|(exact fun (h:true=false)=>Bool.noConfusion h)|(refine fun (_:true=true)=>?_)|fail)
  refine Exists.intro (r,N,c,t,i) (Exists.intro [0,1] ?_)
  repeat' (first|apply And.intro|exact trivial|exact rfl|(exact fun (h:false=true)=>Bool.noConfusion h)|(refine fun (_:false=false)=>?_)|(exact fun (h:true=false)=>Bool.noConfusion h)|(refine fun (_:true=true)=>?_)|exact fun (i:Nat)=>aC (by exact rfl) (N i)|exact fun (i:Nat)=>aD (by exact rfl) (by exact rfl) (N i)|with_reducible exact hc|with_reducible exact hr|with_reducible exact ht|with_reducible exact hi|fail)
  refine fun (y:Bool) (hy:y=oL N r t i)=>?_
  subst hy
  repeat' (first|apply And.intro|exact trivial|exact rfl|(exact fun (h:false=true)=>Bool.noConfusion h)|(refine fun (_:false=false)=>?_)|(exact fun (h:true=false)=>Bool.noConfusion h)|(refine fun (_:true=true)=>?_)|exact fun (i:Nat)=>aC (by exact rfl) (N i)|exact fun (i:Nat)=>aD (by exact rfl) (by exact rfl) (N i)|fail)
  ·refine fun (h:oL N r t i=true)=>?_
   have e1:8=lG (HX.mk true N c r t i):=by unfold lG HX.has; simp only [hv,h,cond_true]
   have e0:HX.puts (HX.mk true N c r t i)=false:=by unfold HX.puts HX.has; simp only [hv,h,Bool.not_true,Bool.false_and,Bool.and_false]
   have e2:∀ y,nM (HX.mk true N c r t i) y=N:=fun y=>by unfold nM; rw [e0]; rfl
   have e3:HX.puts (HX.mk true N c r t i)=true->chS.post (HX.mk true N c r t i) (0:Nat):=fun h=>by rw [e0] at h; cases h
   repeat' (first|apply And.intro|exact trivial|exact rfl|(exact fun (h:false=true)=>Bool.noConfusion h)|(refine fun (_:false=false)=>?_)|(exact fun (h:true=false)=>Bool.noConfusion h)|(refine fun (_:true=true)=>?_)|fail)
   refine Exists.intro (0:Nat) ?_
   repeat' (first|exact e3|apply And.intro|exact trivial|exact rfl|(exact fun (h:false=true)=>Bool.noConfusion h)|(refine fun (_:false=false)=>?_)|(exact fun (h:true=false)=>Bool.noConfusion h)|(refine fun (_:true=true)=>?_)|exact e1|exact sub_eq (e2 _) (fun i=>aD (by exact rfl) (by exact rfl) (N i))|fail)
  ·refine fun (h:oL N r t i=false)=>?_
   repeat' (first|apply And.intro|exact trivial|exact rfl|(exact fun (h:false=true)=>Bool.noConfusion h)|(refine fun (_:false=false)=>?_)|(exact fun (h:true=false)=>Bool.noConfusion h)|(refine fun (_:true=true)=>?_)|fail)
   refine Exists.intro (rnO [(0,0),(1,1)] [(0,0),(1,1)] (noO 1 (.node a n m sz mk))) (And.intro (congrArg (fun o=>rnO [(0,0),(1,1)] [(0,0),(1,1)] (noO 1 o)) hrn) ?_)
   repeat' (first|apply And.intro|exact trivial|exact rfl|(exact fun (h:false=true)=>Bool.noConfusion h)|(refine fun (_:false=false)=>?_)|(exact fun (h:true=false)=>Bool.noConfusion h)|(refine fun (_:true=true)=>?_)|fail)
   ·refine fun (h3:decide (sz>=20000)=true)=>?_
    have h4:decide (20000<=szN N r)=true:=by rw [hsz]; exact h3
    have e1:22=lG (HX.mk true N c r t i):=by unfold lG HX.has; simp only [hv,h,h4,cond_true,cond_false]
    have e0:HX.puts (HX.mk true N c r t i)=false:=by unfold HX.puts HX.has; simp only [hv,h,h4,Bool.not_true,Bool.and_false]
    have e2:∀ y,nM (HX.mk true N c r t i) y=N:=fun y=>by unfold nM; rw [e0]; rfl
    have e3:HX.puts (HX.mk true N c r t i)=true->chS.post (HX.mk true N c r t i) (0:Nat):=fun h=>by rw [e0] at h; cases h
    repeat' (first|apply And.intro|exact trivial|exact rfl|(exact fun (h:false=true)=>Bool.noConfusion h)|(refine fun (_:false=false)=>?_)|(exact fun (h:true=false)=>Bool.noConfusion h)|(refine fun (_:true=true)=>?_)|fail)
    refine Exists.intro (0:Nat) ?_
    repeat' (first|exact e3|apply And.intro|exact trivial|exact rfl|(exact fun (h:false=true)=>Bool.noConfusion h)|(refine fun (_:false=false)=>?_)|(exact fun (h:true=false)=>Bool.noConfusion h)|(refine fun (_:true=true)=>?_)|exact e1|exact sub_eq (e2 _) (fun i=>aD (by exact rfl) (by exact rfl) (N i))|fail)
   ·refine fun (h3:decide (sz>=20000)=false)=>?_
    have h4:decide (20000<=szN N r)=false:=by rw [hsz]; exact h3
    have e1:0=lG (HX.mk true N c r t i):=by unfold lG HX.has; simp only [hv,h,h4,cond_true,cond_false]
    have e0:HX.puts (HX.mk true N c r t i)=true:=by unfold HX.puts HX.has; simp only [hv,h,h4,Bool.not_false,Bool.and_true]
    have e2:∀ y,nM (HX.mk true N c r t i) y=dU true (HX.mk true N c r t i).fin.N (HX.mk true N c r t i).fin.x y i:=fun y=>by unfold nM; rw [e0]; rfl
    have hpre:=hch e0
    repeat' (first|apply And.intro|exact trivial|exact rfl|(exact fun (h:false=true)=>Bool.noConfusion h)|(refine fun (_:false=false)=>?_)|(exact fun (h:true=false)=>Bool.noConfusion h)|(refine fun (_:true=true)=>?_)|fail)
    refine Exists.intro (HX.mk true N c r t i) (Exists.intro [0,1,2] ?_)
    repeat' (first|exact hpre|apply And.intro|exact trivial|exact rfl|(exact fun (h:false=true)=>Bool.noConfusion h)|(refine fun (_:false=false)=>?_)|(exact fun (h:true=false)=>Bool.noConfusion h)|(refine fun (_:true=true)=>?_)|exact fun (i:Nat)=>aC (by exact rfl) (N i)|exact fun (i:Nat)=>aD (by exact rfl) (by exact rfl) (N i)|fail)
    refine fun (y:Nat) (hy:chS.post (HX.mk true N c r t i) y)=>?_
    have e3:HX.puts (HX.mk true N c r t i)=true->chS.post (HX.mk true N c r t i) y:=fun _=>hy
    repeat' (first|apply And.intro|exact trivial|exact rfl|(exact fun (h:false=true)=>Bool.noConfusion h)|(refine fun (_:false=false)=>?_)|(exact fun (h:true=false)=>Bool.noConfusion h)|(refine fun (_:true=true)=>?_)|fail)
    refine Exists.intro y ?_
    repeat' (first|exact e3|apply And.intro|exact trivial|exact rfl|(exact fun (h:false=true)=>Bool.noConfusion h)|(refine fun (_:false=false)=>?_)|(exact fun (h:true=false)=>Bool.noConfusion h)|(refine fun (_:true=true)=>?_)|exact e1|exact sub_eq (e2 y) (fun i=>Ag (by exact rfl) (by exact rfl) (by exact rfl) _)|exact sub_eq (e2 y) (fun i=>aD (by exact rfl) (by exact rfl) _)|fail)
end T12
end
section
open Go Go.Eng Go.Proofs T1 T2 T3 T4 T5 T6 T7 T8 T9 T10 T11 T12
set_option maxRecDepth 100000
namespace T13
mutual
inductive TT where
 | node (ids:List B) (k:TK)
inductive TK where
 | nil
 | cons (b:UInt8) (t:TT) (r:TK)
end
abbrev Dg:=List B->List (UInt8×B)->B
mutual
def szT:TT->Nat
 | .node ids k=>ids.length+szK k
def szK:TK->Nat
 | .nil=>0
 | .cons _ t r=>szT t+szK r
end
mutual
def lR (D:Dg):TT->B
 | .node ids k=>D ids (uD D k)
def uD (D:Dg):TK->List (UInt8×B)
 | .nil=>[]
 | .cons b t r=>(b,lR D t)::uD D r
end
def aQ:TK->List UInt8
 | .nil=>[]
 | .cons b _ r=>b::aQ r
def bQ:TK->UInt8->Option TT
 | .nil,_=>none
 | .cons x t r,b=>if x=b then some t else bQ r b
def fC:TK->UInt8->TT->TK
 | .nil,b,t=>.cons b t .nil
 | .cons x s r,b,t=>if x=b then .cons b t r else if b < x then .cons b t (.cons x s r) else .cons x s (fC r b t)
def mD:TK->UInt8->TK
 | .nil,_=>.nil
 | .cons x s r,b=>if x=b then r else .cons x s (mD r b)
def emp:TT:=.node [] .nil
def eM (i:B):B->TT->TT
 | [],.node ids k=>.node (kA ids ids.length (bM ids i) i) k
 | b::t,.node ids k=>.node ids (fC k b (eM i t ((bQ k b).getD emp)))
def vJ (ids:List B) (i:B):List B:=ids.take (bM ids i)++ids.drop (bM ids i+1)
def fV (i:B):B->TT->TT
 | [],.node ids k=>.node (vJ ids i) k
 | b::t,.node ids k =>
  match bQ k b with
  | none=>.node ids k
  | some s=>if szT s=1 then .node ids (mD k b) else .node ids (fC k b (fV i t s))
def cM:B->TT->Option TT
 | [],T=>some T
 | b::t,.node _ k=>(bQ k b).bind (cM t)
def tD:TT->List B
 | .node ids _=>ids
def Sb (l:List UInt8):Prop:=l.Pairwise (· < ·)
mutual
def wfT:TT->Prop
 | .node ids k=>Srt ids/\Sb (aQ k)/\wfK k
def wfK:TK->Prop
 | .nil=>True
 | .cons _ t r=>wfT t/\0 < szT t/\wfK r
end
mutual
def dH (D:Dg) (N:Nat->NO):TT->Nat->(Nat->Prop)->Prop
 | .node ids k,v,F=>∃ a m mk l q G,N v=.node a ids.length m ((ids.length+szK k:Nat):Int) mk /\
   ((N a=.none/\ids=[])\/∃ A,N a=.arr A/\A≠[]/\ids.length<=A.length/\A.take ids.length=ids)/\N m=.map l q/\(mk=[]\/mk=D ids (uD D k)) /\
   (l.map (·.1)).Perm ((aQ k).map dE)/\fE D N k l G/\a≠v/\a≠m/\¬ G v/\¬ G m/\¬ G a/\(∀ x,F x ↔ x=v\/x=m\/x=a\/G x)
def fE (D:Dg) (N:Nat->NO):TK->List (aJ×Nat×Nat)->(Nat->Prop)->Prop
 | .nil,_,G=>∀ x,¬ G x
 | .cons b t r,l,G=>∃ u τ G1 G2,mget l (dE b)=some (u,τ)/\dH D N t u G1/\fE D N r l G2/\(∀ x,G1 x->¬ G2 x)/\(∀ x,G x ↔ G1 x\/G2 x)
end
mutual
theorem gH {D:Dg} {N N':Nat->NO}:∀ {T:TT} {v:Nat} {F:Nat->Prop},dH D N T v F->(∀ x,F x->N' x=N x)->dH D N' T v F
 | .node ids k,v,F,h,e=>by
  simp only [dH] at h ⊢
  obtain ⟨a,m,mk,l,q,G,h1,h2,h3,h4,h5,h6,h7,h8,h9,h10,h11,h12⟩:=h
  have ev:=e v ((h12 v).2 (.inl rfl))
  have em:=e m ((h12 m).2 (.inr (.inl rfl)))
  have ea:=e a ((h12 a).2 (.inr (.inr (.inl rfl))))
  exact ⟨a,m,mk,l,q,G,ev.trans h1,by rw [ea]; exact h2,em.trans h3,h4,h5,fL h6 fun x hx=>e x ((h12 x).2 (.inr (.inr (.inr hx)))),h7,h8,h9,h10,h11,h12⟩
theorem fL {D:Dg} {N N':Nat->NO}:∀ {k:TK} {l:List (aJ×Nat×Nat)} {G:Nat->Prop},fE D N k l G->(∀ x,G x->N' x=N x)->fE D N' k l G
 | .nil,l,G,h,e=>by
  simp only [fE] at h ⊢
  exact h
 | .cons b t r,l,G,h,e=>by
  simp only [fE] at h ⊢
  obtain ⟨u,τ,G1,G2,h1,h2,h3,h4,h5⟩:=h
  exact ⟨u,τ,G1,G2,h1,gH h2 fun x hx=>e x ((h5 x).2 (.inl hx)),fL h3 fun x hx=>e x ((h5 x).2 (.inr hx)),h4,h5⟩
end
theorem qP {a b:UInt8} (h:dE a=dE b):a=b:=by
 unfold dE at h
 injection h with _ h
 exact UInt8.toNat_inj.1 (by omega)
theorem rY {V:Type} {l:List (aJ×V×Nat)} {k:aJ} (h:k ∉ l.map (·.1)):mget l k=none:=by
 induction l with
 | nil=>rfl
 | cons x r ih =>
  simp only [List.map_cons,List.mem_cons,not_or] at h
  simp only [mget]
  rw [if_neg (fun e=>h.1 e.symm)]
  exact ih h.2
theorem kZ {k:TK} {b:UInt8} (h:b ∉ aQ k):bQ k b=none:=by
 induction k using TK.rec (motive_1:=fun _=>True) with
 | node=>trivial
 | nil=>rfl
 | cons x t r _ ih =>
  simp only [aQ,List.mem_cons,not_or] at h
  simp only [bQ]
  rw [if_neg (fun e=>h.1 e.symm)]
  exact ih h.2
theorem rR {k:TK} {b:UInt8} (h:b∈aQ k):∃ t,bQ k b=some t:=by
 induction k using TK.rec (motive_1:=fun _=>True) with
 | node=>trivial
 | nil=>cases h
 | cons x t r _ ih =>
  simp only [bQ]
  by_cases e:x=b
  ·rw [if_pos e]; exact ⟨_,rfl⟩
  ·rw [if_neg e]
   rcases List.mem_cons.1 h with rfl|h
   ·exact absurd rfl e
   ·exact ih h
theorem jW {D:Dg} {N:Nat->NO} {b:UInt8} {s:TT}:∀ {k:TK} {l:List (aJ×Nat×Nat)} {G:Nat->Prop},fE D N k l G->bQ k b=some s->Sb (aQ k) ->
  ∃ u τ G1 G2,mget l (dE b)=some (u,τ)/\dH D N s u G1/\(∀ x,G1 x->¬ G2 x)/\(∀ x,G x ↔ G1 x\/G2 x) /\
   (∀ N' s' G1',dH D N' s' u G1'->(∀ x,G1' x->¬ G2 x)->(∀ x,G2 x->N' x=N x)->fE D N' (fC k b s') l (fun x=>G1' x\/G2 x)) /\
   (∀ N' l',(∀ x,x≠b->mget l' (dE x)=mget l (dE x))->(∀ x,G2 x->N' x=N x)->fE D N' (mD k b) l' G2)
 | .nil,_,_,_,h,_=>by cases h
 | .cons x t r,l,G,h,hg,hs=>by
  simp only [fE] at h
  obtain ⟨u,τ,G1,G2,h1,h2,h3,h4,h5⟩:=h
  simp only [bQ] at hg
  have hs':=List.pairwise_cons.1 hs
  by_cases e:x=b
  ·rw [if_pos e] at hg
   cases hg
   subst e
   refine ⟨u,τ,G1,G2,h1,h2,h4,h5,?_,?_⟩
   ·intro N' s' G1' k1 k2 k3
    simp only [fC,if_true,fE]
    exact ⟨u,τ,G1',G2,h1,k1,fL h3 k3,k2,fun _=>Iff.rfl⟩
   ·intro N' l' k1 k2
    simp only [mD,if_true]
    refine repK_map (fun y hy=>k1 y ?_) (fL h3 k2)
    rintro rfl
    exact absurd (hs'.1 _ hy) (UInt8.lt_irrefl _)
  ·rw [if_neg e] at hg
   obtain ⟨v,σ,H1,H2,j1,j2,j3,j4,j5,j6⟩:=jW h3 hg hs'.2
   have hlt:¬ b < x:=by
    intro hb
    have hmem:b∈aQ r:=by
     cases hm:decide (b∈aQ r) with
     | true=>exact of_decide_eq_true hm
     | false=>rw [kZ (of_decide_eq_false hm)] at hg; cases hg
    exact absurd (UInt8.lt_trans (hs'.1 _ hmem) hb) (UInt8.lt_irrefl _)
   refine ⟨v,σ,H1,fun y=>G1 y\/H2 y,j1,j2,?_,?_,?_,?_⟩
   ·rintro y hy (h'|h')
    ·exact h4 y h' ((j4 y).2 (.inl hy))
    ·exact j3 y hy h'
   ·intro y
    rw [h5,j4]
    constructor
    ·rintro (h|h|h)
     ·exact .inr (.inl h)
     ·exact .inl h
     ·exact .inr (.inr h)
    ·rintro (h|h|h)
     ·exact .inr (.inl h)
     ·exact .inl h
     ·exact .inr (.inr h)
   ·intro N' s' G1' k1 k2 k3
    simp only [fC,if_neg e,if_neg hlt,fE]
    refine ⟨u,τ,G1,fun y=>G1' y\/H2 y,h1,gH h2 fun y hy=>k3 y (.inl hy),j5 N' s' G1' k1 (fun y hy h'=>k2 y hy (.inr h')) (fun y hy=>k3 y (.inr hy)),?_,?_⟩
    ·rintro y hy (h'|h')
     ·exact k2 y h' (.inl hy)
     ·exact h4 y hy ((j4 y).2 (.inr h'))
    ·intro y
     constructor
     ·rintro (h|h|h)
      ·exact .inr (.inl h)
      ·exact .inl h
      ·exact .inr (.inr h)
     ·rintro (h|h|h)
      ·exact .inr (.inl h)
      ·exact .inl h
      ·exact .inr (.inr h)
   ·intro N' l' k1 k2
    simp only [mD,if_neg e,fE]
    exact ⟨u,τ,G1,H2,(k1 x e).trans h1,gH h2 fun y hy=>k2 y (.inl hy),j6 N' l' k1 fun y hy=>k2 y (.inr hy),fun y hy h'=>h4 y hy ((j4 y).2 (.inr h')),fun _=>Iff.rfl⟩
where
 repK_map {D:Dg} {N:Nat->NO} {l l':List (aJ×Nat×Nat)}:∀ {k:TK} {G:Nat->Prop},(∀ y,y∈aQ k->mget l' (dE y)=mget l (dE y))->fE D N k l G->fE D N k l' G
  | .nil,G,_,h=>by simp only [fE] at h ⊢; exact h
  | .cons b t r,G,e,h=>by
   simp only [fE] at h ⊢
   obtain ⟨u,τ,G1,G2,h1,h2,h3,h4,h5⟩:=h
   exact ⟨u,τ,G1,G2,(e b List.mem_cons_self).trans h1,h2,repK_map (fun y hy=>e y (List.mem_cons_of_mem _ hy)) h3,h4,h5⟩
end T13
end
section
open Go Go.Eng Go.Proofs T1 T2 T3 T4 T5 T6 T7 T8 T9 T10 T11 T12 T13
set_option maxRecDepth 100000
namespace T14
theorem zJ {a b:UInt8} (h:a < b):¬ b < a:=fun k=>UInt8.lt_irrefl _ (UInt8.lt_trans h k)
theorem Lt {a b:UInt8} (h:¬ a < b) (e:b≠a):b < a:=by
 rw [UInt8.lt_iff_toNat_lt] at h ⊢
 have:b.toNat≠a.toNat:=fun h=>e (UInt8.toNat_inj.1 h)
 omega
theorem jM {k:TK} {b:UInt8} {s:TT} (h:bQ k b=some s):b∈aQ k:=by
 cases hm:decide (b∈aQ k) with
 | true=>exact of_decide_eq_true hm
 | false=>rw [kZ (of_decide_eq_false hm)] at h; cases h
theorem yC {b:UInt8} {s s':TT}:∀ {k:TK},bQ k b=some s->Sb (aQ k)->aQ (fC k b s')=aQ k
 | .nil,h,_=>by cases h
 | .cons x t r,h,hs=>by
  have hs':=List.pairwise_cons.1 hs
  simp only [bQ] at h
  simp only [fC]
  by_cases e:x=b
  ·rw [if_pos e]; subst e; rfl
  ·rw [if_neg e] at h
   rw [if_neg e,if_neg (zJ (hs'.1 _ (jM h)))]
   simp only [aQ]
   rw [yC h hs'.2]
theorem Gc {b:UInt8} {s':TT}:∀ {k:TK},b ∉ aQ k->(aQ (fC k b s')).Perm (b::aQ k)
 | .nil,_=>by simp [fC,aQ]
 | .cons x t r,h=>by
  simp only [aQ,List.mem_cons,not_or] at h
  simp only [fC]
  rw [if_neg (fun e=>h.1 e.symm)]
  split
  ·exact .refl _
  ·simp only [aQ]
   exact ((Gc h.2).cons x).trans (.swap _ _ _)
theorem mem_set {b y:UInt8} {s':TT}:∀ {k:TK},y∈aQ (fC k b s')->y=b\/y∈aQ k
 | .nil,h=>by simp [fC,aQ] at h; exact .inl h
 | .cons x t r,h=>by
  simp only [fC] at h
  split at h
  ·rename_i e
   subst e
   exact .inr h
  ·split at h
   ·rcases List.mem_cons.1 h with h|h
    ·exact .inl h
    ·exact .inr h
   ·rcases List.mem_cons.1 h with h|h
    ·exact .inr (by rw [h]; exact List.mem_cons_self)
    ·rcases mem_set h with h|h
     ·exact .inl h
     ·exact .inr (List.mem_cons_of_mem _ h)
theorem Fe {b:UInt8} {s':TT}:∀ {k:TK},Sb (aQ k)->Sb (aQ (fC k b s'))
 | .nil,_=>List.pairwise_singleton _ _
 | .cons x t r,h=>by
  have h':=List.pairwise_cons.1 h
  simp only [fC]
  split
  ·rename_i e
   subst e
   exact h
  ·rename_i e
   split
   ·rename_i hb
    refine List.pairwise_cons.2 ⟨fun y hy=>?_,h⟩
    rcases List.mem_cons.1 hy with rfl|hy
    ·exact hb
    ·exact UInt8.lt_trans hb (h'.1 y hy)
   ·rename_i hb
    refine List.pairwise_cons.2 ⟨fun y hy=>?_,Fe h'.2⟩
    rcases mem_set hy with rfl|hy
    ·exact Lt hb e
    ·exact h'.1 y hy
theorem vP {b:UInt8} {s s':TT}:∀ {k:TK},bQ k b=some s->Sb (aQ k)->szK (fC k b s')+szT s=szK k+szT s'
 | .nil,h,_=>by cases h
 | .cons x t r,h,hs=>by
  have hs':=List.pairwise_cons.1 hs
  simp only [bQ] at h
  simp only [fC]
  by_cases e:x=b
  ·rw [if_pos e] at h ⊢
   cases h
   simp only [szK]
   omega
  ·rw [if_neg e] at h
   rw [if_neg e,if_neg (zJ (hs'.1 _ (jM h)))]
   simp only [szK]
   have:=vP (s':=s') h hs'.2
   omega
theorem Fu {b:UInt8} {s':TT}:∀ {k:TK},b ∉ aQ k->szK (fC k b s')=szK k+szT s'
 | .nil,_=>by simp [fC,szK]
 | .cons x t r,h=>by
  simp only [aQ,List.mem_cons,not_or] at h
  simp only [fC]
  rw [if_neg (fun e=>h.1 e.symm)]
  split
  ·simp only [szK]; omega
  ·simp only [szK]
   rw [Fu h.2]; omega
theorem yW {b:UInt8} {s':TT}:∀ {k:TK},Sb (aQ k)->∀ y,bQ (fC k b s') y=if y=b then some s' else bQ k y
 | .nil,_,y=>by
  simp only [fC,bQ]
  by_cases e:b=y
  ·subst e; simp
  ·rw [if_neg e,if_neg (fun h=>e h.symm)]
 | .cons x t r,h,y=>by
  have h':=List.pairwise_cons.1 h
  simp only [fC]
  by_cases e:x=b
  ·subst e
   rw [if_pos rfl]
   simp only [bQ]
   by_cases ey:x=y
   ·subst ey; simp
   ·rw [if_neg ey,if_neg ey,if_neg (show ¬ y=x from fun h=>ey h.symm)]
  ·rw [if_neg e]
   split
   ·simp only [bQ]
    by_cases ey:b=y
    ·subst ey; simp
    ·rw [if_neg ey,if_neg (show ¬ y=b from fun h=>ey h.symm)]
   ·simp only [bQ]
    rw [yW h'.2]
    by_cases ey:x=y
    ·subst ey; rw [if_pos rfl,if_neg e,if_pos rfl]
    ·rw [if_neg ey,if_neg ey]
theorem iA {b:UInt8} {s:TT}:∀ {k:TK},bQ k b=some s->wfK k->wfT s/\0 < szT s
 | .nil,h,_=>by cases h
 | .cons x t r,h,w=>by
  simp only [wfK] at w
  simp only [bQ] at h
  split at h
  ·cases h; exact ⟨w.1,w.2.1⟩
  ·exact iA h w.2.2
theorem wf_set {b:UInt8} {s':TT} (h1:wfT s') (h2:0 < szT s'):∀ {k:TK},wfK k->wfK (fC k b s')
 | .nil,_=>by simp only [fC,wfK]; exact ⟨h1,h2,trivial⟩
 | .cons x t r,w=>by
  simp only [wfK] at w
  simp only [fC]
  split
  ·simp only [wfK]; exact ⟨h1,h2,w.2.2⟩
  ·split
   ·simp only [wfK]; exact ⟨h1,h2,w⟩
   ·simp only [wfK]; exact ⟨w.1,w.2.1,wf_set h1 h2 w.2.2⟩
theorem pU:wfT emp:=by simp only [emp,wfT,wfK,aQ]; exact ⟨.nil,.nil,trivial⟩
theorem zA (l:List B) (i:B):kA l l.length (bM l i) i=l.take (bM l i)++i::l.drop (bM l i):=by unfold kA; rw [List.take_length]
theorem A9 (l:List B) (i:B):(kA l l.length (bM l i) i).length=l.length+1:=by
 rw [zA]
 have:=qW l i
 simp
 omega
theorem P0 {l:List B} (h:Srt l) {i:B} (hi:i ∉ l):Srt (kA l l.length (bM l i) i):=by
 rw [zA]
 have hp:=qW l i
 refine List.pairwise_append.2 ⟨h.sublist (List.take_sublist _ _),List.pairwise_cons.2 ⟨fun y hy=>?_,h.sublist (List.drop_sublist _ _)⟩,fun x hx y hy=>?_⟩
 ·obtain ⟨j,hj,e⟩:=List.getElem_of_mem hy
  rw [List.getElem_drop] at e
  have hj':bM l i+j < l.length:=by simp at hj; omega
  have h1:¬ (bl (l.getD (bM l i+j) []) i=true):=fun h'=>by have:=(oJ h i hj').1 h'; omega
  have e':l.getD (bM l i+j) []=y:=by simp [hj',e]
  rw [e'] at h1
  cases h2:bl i y with
  | true=>rfl
  | false =>
   have:=Rn (Bool.eq_false_iff.2 h1) h2
   subst this
   exact absurd (List.mem_of_mem_drop hy) hi
 ·have hx1:bl x i=true:=by
   obtain ⟨j,hj,e⟩:=List.getElem_of_mem hx
   rw [List.getElem_take] at e
   have hj':j < l.length:=by simp at hj; omega
   have:=(oJ h i hj').2 (by simp at hj; omega)
   simpa [hj',e] using this
  rcases List.mem_cons.1 hy with rfl|hy
  ·exact hx1
  ·obtain ⟨j,hj,e⟩:=List.getElem_of_mem hx
   obtain ⟨q,hq,e2⟩:=List.getElem_of_mem hy
   rw [List.getElem_take] at e
   rw [List.getElem_drop] at e2
   simp at hj hq
   have:=h.lt (i:=j) (j:=bM l i+q) (by omega) (by omega)
   have d1:l.getD j []=x:=by simp [show j < l.length by omega,e]
   have d2:l.getD (bM l i+q) []=y:=by simp [show bM l i+q < l.length by omega,e2]
   rwa [d1,d2] at this
def dJ (t i:B) (T:TT):Prop:=∃ s,cM t T=some s/\i∈tD s
theorem nU {i:B}:∀ (t:B) {T:TT},wfT T->szT (eM i t T)=szT T+1
 | [],.node ids k,_=>by
  simp only [eM,szT]
  rw [A9]; omega
 | b::t,.node ids k,w=>by
  simp only [wfT] at w
  simp only [eM,szT]
  cases hg:bQ k b with
  | none =>
   have hb:b ∉ aQ k:=fun h=>by obtain ⟨s,e⟩:=rR h; rw [hg] at e; cases e
   rw [Fu hb]
   show ids.length+(szK k+szT (eM i t emp))=_
   rw [nU t pU]
   simp only [emp,szT,szK,List.length_nil]
   omega
  | some s =>
   have:=vP (s':=eM i t s) hg w.2.1
   have h2:=nU (i:=i) t (iA hg w.2.2).1
   show ids.length+szK (fC k b (eM i t s))=_
   omega
theorem vT {i:B}:∀ (t:B) {T:TT},wfT T->¬ dJ t i T->wfT (eM i t T)
 | [],.node ids k,w,hm=>by
  simp only [wfT] at w
  simp only [eM,wfT]
  exact ⟨P0 w.1 fun h=>hm ⟨_,rfl,h⟩,w.2⟩
 | b::t,.node ids k,w,hm=>by
  have w':=w
  simp only [wfT] at w
  simp only [eM,wfT]
  have h1:wfT ((bQ k b).getD emp)/\¬ dJ t i ((bQ k b).getD emp):=by
   cases hg:bQ k b with
   | none =>
    refine ⟨pU,?_⟩
    rintro ⟨s,e,hi⟩
    cases t with
    | nil=>cases e; cases hi
    | cons c t=>cases e
   | some s =>
    refine ⟨(iA hg w.2.2).1,?_⟩
    rintro ⟨s',e,hi⟩
    exact hm ⟨s',by simp only [cM,hg,Option.bind_some]; exact e,hi⟩
  refine ⟨w.1,Fe w.2.1,wf_set (vT t h1.1 h1.2) ?_ w.2.2⟩
  rw [nU t h1.1]; omega
theorem Cd {D:Dg} {N N':Nat->NO} {b:UInt8} {s':TT} {u τ:Nat} {l l':List (aJ×Nat×Nat)} {G1:Nat->Prop} (hu:mget l' (dE b)=some (u,τ)) (hl:∀ x,x≠b->mget l' (dE x)=mget l (dE x)) (h1:dH D N' s' u G1) :
  ∀ {k:TK} {G:Nat->Prop},fE D N k l G->b ∉ aQ k->(∀ x,G1 x->¬ G x)->(∀ x,G x->N' x=N x)->fE D N' (fC k b s') l' (fun x=>G1 x\/G x)
 | .nil,G,h,_,hd,_=>by
  simp only [fE] at h
  simp only [fC,fE]
  exact ⟨u,τ,G1,G,hu,h1,fun x hx=>h x hx,hd,fun _=>Iff.rfl⟩
 | .cons x t r,G,h,hb,hd,he=>by
  simp only [aQ,List.mem_cons,not_or] at hb
  have hx:¬ x=b:=fun e=>hb.1 e.symm
  simp only [fC,if_neg hx]
  split
  ·simp only [fE]
   refine ⟨u,τ,G1,G,hu,h1,?_,hd,fun _=>Iff.rfl⟩
   have h2:=fL (N':=N') h he
   have h3:fE D N' (.cons x t r) l' G:=jW.repK_map (fun y hy=>hl y ?_) h2
   ·simpa only [fE] using h3
   ·rintro rfl
    rcases List.mem_cons.1 hy with e|hy
    ·exact hb.1 e
    ·exact hb.2 hy
  ·simp only [fE] at h
   obtain ⟨v,σ,H1,H2,j1,j2,j3,j4,j5⟩:=h
   have:=Cd hu hl h1 j3 hb.2 (fun y hy h'=>hd y hy ((j5 y).2 (.inr h'))) (fun y hy=>he y ((j5 y).2 (.inr hy)))
   simp only [fE]
   refine ⟨v,σ,H1,fun y=>G1 y\/H2 y,(hl x hx).trans j1,gH j2 fun y hy=>he y ((j5 y).2 (.inl hy)),this,?_,?_⟩
   ·rintro y hy (h'|h')
    ·exact hd y h' ((j5 y).2 (.inl hy))
    ·exact j4 y hy h'
   ·intro y
    rw [j5]
    constructor
    ·rintro (h|h|h)
     ·exact .inr (.inl h)
     ·exact .inl h
     ·exact .inr (.inr h)
    ·rintro (h|h|h)
     ·exact .inr (.inl h)
     ·exact .inl h
     ·exact .inr (.inr h)
end T14
end
section
open Go Go.Eng Go.Proofs T1 T2 T3 T4 T5 T6 T7 T8 T9 T10 T11 T12 T13 T14
set_option maxRecDepth 100000
namespace T15
theorem Bv {V:Type} {l:List (aJ×V×Nat)} {k y:aJ} {v:V} {q:Nat}:mget (l++[(k,v,q)]) y=match mget l y with
  | some e=>some e
  | none=>if k=y then some (v,q) else none:=by
 induction l with
 | nil=>simp only [List.nil_append,mget]
 | cons x r ih =>
  simp only [List.cons_append,mget]
  split
  ·rfl
  ·exact ih
theorem xZ {N:Nat->NO} {a:Nat} {ids:List B} (h:(N a=.none/\ids=[])\/∃ A,N a=.arr A/\A≠[]/\ids.length<=A.length/\A.take ids.length=ids) :
  cR N a ids.length=ids/\(cG N a).take ids.length=ids:=by
 rcases h with ⟨h1,h2⟩|⟨A,h1,_,_,h4⟩
 ·subst h2; constructor <;> simp [cR,cG,h1]
 ·simp only [cR,cG,h1]; exact ⟨h4,h4⟩
def Ir (T:TT) (b:UInt8):TT :=
 match T with
 | .node _ k=>(bQ k b).getD emp
theorem rC (b:UInt8) (t:B) (T:TT):(cM (b::t) T).getD emp=(cM t (Ir T b)).getD emp:=by
 obtain ⟨ids,k⟩:=T
 simp only [cM,Ir]
 cases bQ k b with
 | some s=>rfl
 | none =>
  cases t with
  | nil=>rfl
  | cons c t=>rfl
structure Vx (D:Dg) (i:B) (t:B) (N:Nat->NO) (c x:Nat) (T:TT) (F:Nat->Prop) (y:Nat) (F':Nat->Prop):Prop where
 rep:dH D (dU true (chN true ⟨N,c,x⟩ t).N (chN true ⟨N,c,x⟩ t).x y i) (eM i t T) x F'
 new:∀ z,F' z->F z\/(c<=z/\z < (chN true ⟨N,c,x⟩ t).c+1)
 old:∀ z,¬ F z->z < c->dU true (chN true ⟨N,c,x⟩ t).N (chN true ⟨N,c,x⟩ t).x y i z=N z
 free:∀ z,(chN true ⟨N,c,x⟩ t).c+1<=z->dU true (chN true ⟨N,c,x⟩ t).N (chN true ⟨N,c,x⟩ t).x y i z=.none
 le:c<=(chN true ⟨N,c,x⟩ t).c
theorem tT {D:Dg} {i:B}:∀ (t:B) {N:Nat->NO} {c x:Nat} {T:TT} {F:Nat->Prop},dH D N T x F->(∀ z,F z->z < c)->(∀ z,c<=z->N z=.none)->wfT T ->
  iZ (chN true ⟨N,c,x⟩ t).N (chN true ⟨N,c,x⟩ t).x=tD ((cM t T).getD emp) /\
  ∀ y,((y=zI (chN true ⟨N,c,x⟩ t).N (chN true ⟨N,c,x⟩ t).x/\cG (chN true ⟨N,c,x⟩ t).N y≠[])\/y=(chN true ⟨N,c,x⟩ t).c)->∃ F',Vx D i t N c x T F y F'
 | [],N,c,x,.node ids k,F,h,hF,h0,w=>by
  simp only [dH] at h
  obtain ⟨a,m,mk,l,q,G,h1,h2,h3,h4,h5,h6,h7,h8,h9,h10,h11,h12⟩:=h
  have hxc:x < c:=hF x ((h12 x).2 (.inl rfl))
  have hmc:m < c:=hF m ((h12 m).2 (.inr (.inl rfl)))
  have hac:a < c:=hF a ((h12 a).2 (.inr (.inr (.inl rfl))))
  have hmx:m≠x:=lX h1 h3
  have e1:bump true N x=put N x (.node a ids.length m (((ids.length+szK k:Nat):Int)+1) []):=iU h1
  have ec:chN true ⟨N,c,x⟩ []=⟨put N x (.node a ids.length m (((ids.length+szK k:Nat):Int)+1) []),c,x⟩:=by show CS.mk _ _ _=_; rw [e1]
  generalize hN1:put N x (.node a ids.length m (((ids.length+szK k:Nat):Int)+1) [])=N1 at ec
  have n1x:N1 x=.node a ids.length m (((ids.length+szK k:Nat):Int)+1) []:=by rw [<- hN1,bN]
  have n1o:∀ z,z≠x->N1 z=N z:=fun z hz=>by rw [<- hN1,aI hz]
  have ha:=xZ h2
  have hla:cR N1 a ids.length=ids:=by have h:=ha.1; simp only [cR,n1o a h7] at h ⊢; exact h
  have haa:(cG N1 a).take ids.length=ids:=by have h:=ha.2; simp only [cG,n1o a h7] at h ⊢; exact h
  have hsx:(chN true ⟨N,c,x⟩ []).x=x:=by rw [ec]
  have hsN:(chN true ⟨N,c,x⟩ []).N=N1:=by rw [ec]
  have hsc:(chN true ⟨N,c,x⟩ []).c=c:=by rw [ec]
  refine ⟨by rw [hsx,hsN,lV n1x,hla]; rfl,?_⟩
  intro y hy
  rw [hsx,hsN,hsc] at hy
  have hyx:y≠x/\y≠m/\¬ G y/\(y=a\/y=c):=by
   rcases hy with ⟨h,_⟩|h
   ·have:y=a:=by rw [h]; simp only [zI,n1x]
    subst this
    exact ⟨h7,h8,h11,.inl rfl⟩
   ·subst h
    exact ⟨by omega,by omega,fun hg=>Nat.lt_irrefl _ (hF _ ((h12 _).2 (.inr (.inr (.inr hg))))),.inr rfl⟩
  obtain ⟨y1,y2,y3,y4⟩:=hyx
  have hL:kA (cG N1 a) ids.length (bM (cR N1 a ids.length) i) i=kA ids ids.length (bM ids i) i:=by
   rw [hla]
   unfold kA
   rw [haa,List.take_length]
  have ee:dU true N1 x y i=put (put N1 y (.arr (kA ids ids.length (bM ids i) i))) x (.node y (ids.length+1) m (((ids.length+szK k:Nat):Int)+1) []):=by
   simp only [dU,n1x,hL,cond_true]
  have hlen:=A9 ids i
  generalize hLL:kA ids ids.length (bM ids i) i=L at ee hlen
  refine ⟨fun z=>z=x\/z=m\/z=y\/G z,?_⟩
  have rx:dU true N1 x y i x=.node y L.length m (((L.length+szK k:Nat):Int)) []:=by
   rw [ee,bN,hlen]
   have:((ids.length+1+szK k:Nat):Int)=((ids.length+szK k:Nat):Int)+1:=by omega
   rw [this]
  have ry:dU true N1 x y i y=.arr L:=by rw [ee,aI y1,bN]
  have ro:∀ z,z≠x->z≠y->dU true N1 x y i z=N z:=fun z hx hy=>by rw [ee,aI hx,aI hy,n1o z hx]
  refine ⟨?_,?_,?_,?_,?_⟩
  ·rw [hsx,hsN]
   simp only [eM,hLL,dH]
   refine ⟨y,m,[],l,q,G,rx,.inr ⟨L,ry,fun e=>by rw [e] at hlen; simp at hlen,Nat.le_refl _,List.take_length⟩,(ro m hmx (Ne.symm y2)).trans h3,.inl rfl,h5,fL h6 fun z hz=>ro z (fun e=>h9 (e ▸ hz)) (fun e=>y3 (e ▸ hz)),y1,y2,h9,h10,y3,fun _=>Iff.rfl⟩
  ·rw [hsc]
   rintro z (rfl|rfl|rfl|hz)
   ·exact .inl ((h12 _).2 (.inl rfl))
   ·exact .inl ((h12 _).2 (.inr (.inl rfl)))
   ·rcases y4 with rfl|rfl
    ·exact .inl ((h12 _).2 (.inr (.inr (.inl rfl))))
    ·exact .inr ⟨Nat.le_refl _,Nat.lt_succ_self _⟩
   ·exact .inl ((h12 _).2 (.inr (.inr (.inr hz))))
  ·rw [hsx,hsN]
   intro z hz hc
   refine ro z (fun e=>hz ((h12 z).2 (.inl e))) (fun e=>?_)
   rcases y4 with h|h
   ·exact hz ((h12 z).2 (.inr (.inr (.inl (e.trans h)))))
   ·omega
  ·rw [hsx,hsN,hsc]
   intro z hz
   rw [ro z (by omega) (by rcases y4 with h|h <;> omega)]
   exact h0 z (by omega)
  ·rw [hsc]; exact Nat.le_refl _
 | b::t,N,c,x,.node ids k,F,h,hF,h0,w=>by
  simp only [dH] at h
  obtain ⟨a,m,mk,l,q,G,h1,h2,h3,h4,h5,h6,h7,h8,h9,h10,h11,h12⟩:=h
  have w':=w
  simp only [wfT] at w
  have hxc:x < c:=hF x ((h12 x).2 (.inl rfl))
  have hmc:m < c:=hF m ((h12 m).2 (.inr (.inl rfl)))
  have hac:a < c:=hF a ((h12 a).2 (.inr (.inr (.inl rfl))))
  have hGc:∀ z,G z->z < c:=fun z hz=>hF z ((h12 z).2 (.inr (.inr (.inr hz))))
  have hmx:m≠x:=lX h1 h3
  have e1:bump true N x=put N x (.node a ids.length m (((ids.length+szK k:Nat):Int)+1) []):=iU h1
  have ec:chN true ⟨N,c,x⟩ (b::t)=chN true (stN true ⟨put N x (.node a ids.length m (((ids.length+szK k:Nat):Int)+1) []),c,x⟩ b) t:=by show chN true (stN true ⟨bump true N x,c,x⟩ b) t=_; rw [e1]
  generalize hN1:put N x (.node a ids.length m (((ids.length+szK k:Nat):Int)+1) [])=N1 at ec
  have n1x:N1 x=.node a ids.length m (((ids.length+szK k:Nat):Int)+1) []:=by rw [<- hN1,bN]
  have n1o:∀ z,z≠x->N1 z=N z:=fun z hz=>by rw [<- hN1,aI hz]
  have n1m:N1 m=.map l q:=(n1o m hmx).trans h3
  have hkd:rV N1 x b=(mget l (dE b)).map (·.1):=kG n1x n1m b
  have hsz:=nU (i:=i) (b::t) w'
  cases hg:bQ k b with
  | some s =>
   obtain ⟨u,τ,G1,G2,j1,j2,j3,j4,j5,_⟩:=jW h6 hg w.2.1
   have hus:isNode N1 u/\szN N1 u+dv true≠0:=by
    obtain ⟨ids',k'⟩:=s
    have j2':=j2
    simp only [dH] at j2'
    obtain ⟨a',m',mk',l',q',G',i1,_,_,_,_,_,_,_,_,_,_,i12⟩:=j2'
    have:N1 u=N u:=n1o u fun e=>h9 ((j4 x).2 (.inl ((i12 x).2 (.inl e.symm))))
    rw [i1] at this
    refine ⟨⟨_,_,_,_,_,this⟩,?_⟩
    rw [Cq this]
    show _+(1:Int)≠0
    omega
   have est:stN true ⟨N1,c,x⟩ b=⟨N1,c,u⟩:=by
    unfold stN
    simp only [hkd,j1,Option.map_some,if_neg hus.2]
   rw [est] at ec
   have r1:dH D N1 s u G1:=gH j2 fun z hz=>n1o z fun e=>h9 ((j4 x).2 (.inl (e ▸ hz)))
   obtain ⟨ih1,ih2⟩:=tT t (N:=N1) (c:=c) (x:=u) (T:=s) (F:=G1) r1 (fun z hz=>hGc z ((j4 z).2 (.inl hz))) (fun z hz=>(n1o z (by omega)).trans (h0 z hz)) (iA hg w.2.2).1
   refine ⟨?_,?_⟩
   ·rw [ec,ih1,rC]
    simp only [Ir,hg,Option.getD_some]
   ·intro y hy
    rw [ec] at hy
    obtain ⟨F1,p⟩:=ih2 y hy
    have n'o:∀ z,¬ G1 z->z < c->dU true (chN true ⟨N1,c,u⟩ t).N (chN true ⟨N1,c,u⟩ t).x y i z=N1 z:=p.old
    have hG1x:∀ z,(z=x\/z=m\/z=a)->¬ G1 z:=by
     rintro z (rfl|rfl|rfl) hz
     ·exact h9 ((j4 _).2 (.inl hz))
     ·exact h10 ((j4 _).2 (.inl hz))
     ·exact h11 ((j4 _).2 (.inl hz))
    refine ⟨fun z=>z=x\/z=m\/z=a\/(F1 z\/G2 z),?_⟩
    have hF1:∀ z,F1 z->G1 z\/c<=z:=fun z hz=>(p.new z hz).imp id And.left
    refine ⟨?_,?_,?_,?_,?_⟩
    ·rw [ec]
     simp only [eM,hg,Option.getD_some,dH]
     refine ⟨a,m,[],l,q,fun z=>F1 z\/G2 z,?_,?_,(n'o m (hG1x m (.inr (.inl rfl))) hmc).trans n1m,.inl rfl,?_,?_,h7,h8,?_,?_,?_,fun _=>Iff.rfl⟩
     ·rw [n'o x (hG1x x (.inl rfl)) hxc,n1x]
      have h:=vP (s':=eM i t s) hg w.2.1
      have h2:=nU (i:=i) t (iA hg w.2.2).1
      have:((ids.length+szK k:Nat):Int)+1=((ids.length+szK (fC k b (eM i t s)):Nat):Int):=by omega
      rw [this]
     ·rw [n'o a (hG1x a (.inr (.inr rfl))) hac,n1o a h7]
      exact h2
     ·rw [yC hg w.2.1]; exact h5
     ·refine j5 _ _ F1 p.rep (fun z hz h'=>?_) (fun z hz=>?_)
      ·rcases hF1 z hz with h1|h1
       ·exact j3 z h1 h'
       ·have:=hGc z ((j4 z).2 (.inr h')); omega
      ·exact (n'o z (fun h'=>j3 z h' hz) (hGc z ((j4 z).2 (.inr hz)))).trans (n1o z fun e=>h9 ((j4 x).2 (.inr (e ▸ hz))))
     ·rintro (h|h)
      ·rcases hF1 x h with h|h
       ·exact hG1x x (.inl rfl) h
       ·omega
      ·exact h9 ((j4 x).2 (.inr h))
     ·rintro (h|h)
      ·rcases hF1 m h with h|h
       ·exact hG1x m (.inr (.inl rfl)) h
       ·omega
      ·exact h10 ((j4 m).2 (.inr h))
     ·rintro (h|h)
      ·rcases hF1 a h with h|h
       ·exact hG1x a (.inr (.inr rfl)) h
       ·omega
      ·exact h11 ((j4 a).2 (.inr h))
    ·rw [ec]
     rintro z (h|h|h|h|h)
     ·exact .inl ((h12 z).2 (.inl h))
     ·exact .inl ((h12 z).2 (.inr (.inl h)))
     ·exact .inl ((h12 z).2 (.inr (.inr (.inl h))))
     ·rcases p.new z h with h|h
      ·exact .inl ((h12 z).2 (.inr (.inr (.inr ((j4 z).2 (.inl h))))))
      ·exact .inr h
     ·exact .inl ((h12 z).2 (.inr (.inr (.inr ((j4 z).2 (.inr h))))))
    ·rw [ec]
     intro z hz hc
     rw [n'o z (fun h=>hz ((h12 z).2 (.inr (.inr (.inr ((j4 z).2 (.inl h))))))) hc]
     exact n1o z fun e=>hz ((h12 z).2 (.inl e))
    ·rw [ec]; exact p.free
    ·rw [ec]; exact p.le
  | none =>
   have hb:b ∉ aQ k:=fun h=>by obtain ⟨s,e⟩:=rR h; rw [hg] at e; cases e
   have hbl:dE b ∉ l.map (·.1):=fun h=>by
    obtain ⟨x,hx,e⟩:=List.mem_map.1 (h5.mem_iff.1 h)
    exact hb (qP e ▸ hx)
   have hno:=rY hbl
   have est:stN true ⟨N1,c,x⟩ b=⟨put (eZ N1 c) m (.map (l++[(dE b,c+1,q)]) (q+1)),c+3,c+1⟩:=by
    unfold stN
    simp only [hkd,hno,Option.map_none,oB n1x n1m]
   rw [est] at ec
   generalize hN2:put (eZ N1 c) m (.map (l++[(dE b,c+1,q)]) (q+1))=N2 at ec
   have n2o:∀ z,z≠m->z < c->N2 z=N1 z:=fun z hz hc=>by rw [<- hN2,aI hz,oI hc]
   have n2m:N2 m=.map (l++[(dE b,c+1,q)]) (q+1):=by rw [<- hN2,bN]
   have n2c:N2 c=.map [] 0:=by rw [<- hN2,aI (by omega)]; unfold eZ; rw [aI (by omega),bN]
   have n2n:N2 (c+1)=.node (c+2) 0 c 0 []:=by rw [<- hN2,aI (by omega)]; exact qV
   have n2f:∀ z,c+2<=z->N2 z=.none:=fun z hz=>by
    rw [<- hN2,aI (by omega)]
    unfold eZ
    rw [aI (by omega),aI (by omega),n1o z (by omega)]
    exact h0 z (by omega)
   have r1:dH D N2 emp (c+1) (fun z=>z=c+1\/z=c\/z=c+2\/False):=by
    simp only [emp,dH]
    refine ⟨c+2,c,[],[],0,fun _=>False,n2n,.inl ⟨n2f _ (by omega),trivial⟩,n2c,.inl rfl,.refl _,?_,by omega,by omega,id,id,id,fun _=>Iff.rfl⟩
    simp only [fE]
    exact fun _ h=>h
   obtain ⟨ih1,ih2⟩:=tT t (N:=N2) (c:=c+3) (x:=c+1) (T:=emp) r1 (fun z hz=>by rcases hz with h|h|h|h <;> first|omega|exact h.elim) (fun z hz=>n2f z (by omega)) pU
   refine ⟨?_,?_⟩
   ·rw [ec,ih1,rC]
    simp only [Ir,hg,Option.getD_none]
   ·intro y hy
    rw [ec] at hy
    obtain ⟨F1,p⟩:=ih2 y hy
    have n'o:∀ z,z < c->dU true (chN true ⟨N2,c+3,c+1⟩ t).N (chN true ⟨N2,c+3,c+1⟩ t).x y i z=N2 z:=fun z hz=>p.old z (by rintro (h|h|h|h) <;> first|omega|exact h) (by omega)
    have hF1:∀ z,F1 z->c<=z:=fun z hz=>by
     rcases p.new z hz with h|h
     ·rcases h with h|h|h|h <;> first|omega|exact h.elim
     ·omega
    have hF2:∀ z,F1 z->c<=z/\z < (chN true ⟨N2,c+3,c+1⟩ t).c+1:=fun z hz=>by
     have:=p.le
     rcases p.new z hz with h|h
     ·rcases h with h|h|h|h <;> first|omega|exact h.elim
     ·omega
    have hl1:mget (l++[(dE b,c+1,q)]) (dE b)=some (c+1,q):=by rw [Bv,hno]; simp
    have hl2:∀ z,z≠b->mget (l++[(dE b,c+1,q)]) (dE z)=mget l (dE z):=fun z hz=>by
     rw [Bv]
     cases mget l (dE z) with
     | some e=>rfl
     | none=>simp only; rw [if_neg fun e=>hz (qP e).symm]
    refine ⟨fun z=>z=x\/z=m\/z=a\/(F1 z\/G z),?_⟩
    refine ⟨?_,?_,?_,?_,?_⟩
    ·rw [ec]
     simp only [eM,hg,Option.getD_none,dH]
     refine ⟨a,m,[],_,_,fun z=>F1 z\/G z,?_,?_,(n'o m hmc).trans n2m,.inl rfl,?_,Cd hl1 hl2 p.rep h6 hb (fun z hz h'=>?_) (fun z hz=>?_),h7,h8,?_,?_,?_,fun _=>Iff.rfl⟩
     ·rw [n'o x hxc,n2o x (Ne.symm hmx) hxc,n1x]
      have h2:=nU (i:=i) t pU
      have h3:=Fu (s':=eM i t emp) hb
      have h4:szT emp=0:=rfl
      have:((ids.length+szK k:Nat):Int)+1=((ids.length+szK (fC k b (eM i t emp)):Nat):Int):=by omega
      rw [this]
     ·rw [n'o a hac,n2o a h8 hac,n1o a h7]
      exact h2
     ·rw [List.map_append]
      refine .trans ?_ ((Gc (s':=eM i t emp) hb).symm.map dE)
      simp only [List.map_cons,List.map_nil]
      exact (List.perm_append_comm).trans (h5.cons _)
     ·have:=hGc z h'
      have:=hF1 z hz
      omega
     ·have hzc:=hGc z hz
      rw [n'o z hzc,n2o z (fun e=>h10 (e ▸ hz)) hzc]
      exact n1o z fun e=>h9 (e ▸ hz)
     ·rintro (h|h)
      ·have:=hF1 x h; omega
      ·exact h9 h
     ·rintro (h|h)
      ·have:=hF1 m h; omega
      ·exact h10 h
     ·rintro (h|h)
      ·have:=hF1 a h; omega
      ·exact h11 h
    ·rw [ec]
     rintro z (h|h|h|h|h)
     ·exact .inl ((h12 z).2 (.inl h))
     ·exact .inl ((h12 z).2 (.inr (.inl h)))
     ·exact .inl ((h12 z).2 (.inr (.inr (.inl h))))
     ·exact .inr (hF2 z h)
     ·exact .inl ((h12 z).2 (.inr (.inr (.inr h))))
    ·rw [ec]
     intro z hz hc
     rw [n'o z hc,n2o z (fun e=>hz ((h12 z).2 (.inr (.inl e)))) hc]
     exact n1o z fun e=>hz ((h12 z).2 (.inl e))
    ·rw [ec]; exact p.free
    ·rw [ec]; have:=p.le; omega
end T15
end
section
open Go Go.Eng Go.Proofs T1 T2 T3 T4 T5 T6 T7 T8 T9 T10 T11 T12 T13 T14 T15
set_option maxRecDepth 100000
namespace T16
theorem Ha {l:List B} (h:Srt l) {i:B} (hi:i∈l):(vJ l i).length+1=l.length:=by
 have:=((tS h i).1 hi).1
 unfold vJ
 simp
 omega
theorem P1 {l:List B} (h:Srt l) (i:B):Srt (vJ l i):=by
 unfold vJ
 rw [<- List.eraseIdx_eq_take_drop_succ]
 exact h.sublist (List.eraseIdx_sublist _ _)
theorem Gd {b:UInt8} {s:TT}:∀ {k:TK},bQ k b=some s->(aQ k).Perm (b::aQ (mD k b))
 | .nil,h=>by cases h
 | .cons x t r,h=>by
  simp only [bQ] at h
  simp only [mD]
  by_cases e:x=b
  ·rw [if_pos e]; subst e; exact .refl _
  ·rw [if_neg e] at h ⊢
   exact ((Gd h).cons x).trans (.swap _ _ _)
theorem G4 {b y:UInt8}:∀ {k:TK},y∈aQ (mD k b)->y∈aQ k
 | .nil,h=>h
 | .cons x t r,h=>by
  simp only [mD] at h
  split at h
  ·exact List.mem_cons_of_mem _ h
  ·rcases List.mem_cons.1 h with h|h
   ·rw [h]; exact List.mem_cons_self
   ·exact List.mem_cons_of_mem _ (G4 h)
theorem Mv {b:UInt8}:∀ {k:TK},Sb (aQ k)->Sb (aQ (mD k b))
 | .nil,h=>h
 | .cons x t r,h=>by
  have h':=List.pairwise_cons.1 h
  simp only [mD]
  split
  ·exact h'.2
  ·exact List.pairwise_cons.2 ⟨fun y hy=>h'.1 y (G4 hy),Mv h'.2⟩
theorem Ai {b:UInt8} {s:TT}:∀ {k:TK},bQ k b=some s->szK (mD k b)+szT s=szK k
 | .nil,h=>by cases h
 | .cons x t r,h=>by
  simp only [bQ] at h
  simp only [mD]
  by_cases e:x=b
  ·rw [if_pos e] at h ⊢; cases h; simp only [szK]; omega
  ·rw [if_neg e] at h ⊢
   have:=Ai h
   simp only [szK]; omega
theorem Gr {b:UInt8}:∀ {k:TK},Sb (aQ k)->∀ y,bQ (mD k b) y=if y=b then none else bQ k y
 | .nil,_,y=>by simp [mD,bQ]
 | .cons x t r,h,y=>by
  have h':=List.pairwise_cons.1 h
  simp only [mD]
  by_cases e:x=b
  ·subst e
   rw [if_pos rfl]
   simp only [bQ]
   by_cases ey:y=x
   ·subst ey
    rw [if_pos rfl]
    exact kZ fun hm=>UInt8.lt_irrefl _ (h'.1 _ hm)
   ·rw [if_neg ey,if_neg (show ¬ x=y from fun h=>ey h.symm)]
  ·rw [if_neg e]
   simp only [bQ]
   rw [Gr h'.2]
   by_cases ey:x=y
   ·subst ey; rw [if_pos rfl,if_neg e,if_pos rfl]
   ·rw [if_neg ey,if_neg ey]
theorem Nk {b:UInt8}:∀ {k:TK},wfK k->wfK (mD k b)
 | .nil,h=>h
 | .cons x t r,w=>by
  simp only [wfK] at w
  simp only [mD]
  split
  ·exact w.2.2
  ·simp only [wfK]; exact ⟨w.1,w.2.1,Nk w.2.2⟩
theorem mem_cons {t:B} {i:B} {b:UInt8} {ids:List B} {k:TK} (h:dJ (b::t) i (.node ids k)):∃ s,bQ k b=some s/\dJ t i s:=by
 obtain ⟨s,e,hi⟩:=h
 simp only [cM] at e
 cases hg:bQ k b with
 | none=>rw [hg] at e; cases e
 | some s'=>rw [hg] at e; exact ⟨s',rfl,s,e,hi⟩
theorem sJ {i:B}:∀ (t:B) {T:TT},wfT T->dJ t i T->szT (fV i t T)+1=szT T
 | [],.node ids k,w,h=>by
  simp only [wfT] at w
  obtain ⟨s,e,hi⟩:=h
  cases e
  have:=Ha w.1 hi
  simp only [fV,szT]; omega
 | b::t,.node ids k,w,h=>by
  simp only [wfT] at w
  obtain ⟨s,hg,hm⟩:=mem_cons h
  have ih:=sJ t (iA hg w.2.2).1 hm
  simp only [fV,hg]
  split
  ·have:=Ai hg
   simp only [szT]; omega
  ·have:=vP (s':=fV i t s) hg w.2.1
   simp only [szT]; omega
theorem Aj {i:B}:∀ (t:B) {T:TT},wfT T->dJ t i T->wfT (fV i t T)
 | [],.node ids k,w,h=>by
  simp only [wfT] at w
  simp only [fV,wfT]
  exact ⟨P1 w.1 i,w.2⟩
 | b::t,.node ids k,w,h=>by
  simp only [wfT] at w
  obtain ⟨s,hg,hm⟩:=mem_cons h
  have hs:=iA hg w.2.2
  have ih:=Aj t hs.1 hm
  have hz:=sJ t hs.1 hm
  simp only [fV,hg]
  split
  ·simp only [wfT]; exact ⟨w.1,Mv w.2.1,Nk w.2.2⟩
  ·rename_i hne
   simp only [wfT]
   refine ⟨w.1,Fe w.2.1,wf_set ih ?_ w.2.2⟩
   have:=hs.2
   omega
theorem Iy {V:Type} {l:List (aJ×V×Nat)} {k y:aJ} (h:y≠k):mget (mdel l k) y=mget l y:=by
 induction l with
 | nil=>rfl
 | cons x r ih =>
  simp only [mdel]
  split
  ·rename_i e
   simp only [mget]
   rw [if_neg (fun e'=>h (e'.symm.trans e))]
  ·simp only [mget]
   rw [ih]
theorem Ix {V:Type} {l:List (aJ×V×Nat)} {k:aJ} {e:V×Nat} (h:mget l k=some e):(l.map (·.1)).Perm (k::(mdel l k).map (·.1)):=by
 induction l with
 | nil=>cases h
 | cons x r ih =>
  simp only [mget] at h
  simp only [mdel]
  split
  ·rename_i e'
   simp only [List.map_cons,e']
   exact .refl _
  ·rename_i e'
   rw [if_neg e'] at h
   simp only [List.map_cons]
   exact ((ih h).cons x.1).trans (.swap _ _ _)
structure Tx (D:Dg) (i:B) (t:B) (N:Nat->NO) (c x:Nat) (T:TT) (F:Nat->Prop) (F':Nat->Prop):Prop where
 rep:dH D (dU false (chN false ⟨N,c,x⟩ t).N (chN false ⟨N,c,x⟩ t).x 0 i) (fV i t T) x F'
 new:∀ z,F' z->F z
 old:∀ z,¬ F z->dU false (chN false ⟨N,c,x⟩ t).N (chN false ⟨N,c,x⟩ t).x 0 i z=N z
 ids:iZ (chN false ⟨N,c,x⟩ t).N (chN false ⟨N,c,x⟩ t).x=tD ((cM t T).getD emp)
 c:(chN false ⟨N,c,x⟩ t).c=c
theorem qF {D:Dg} {i:B}:∀ (t:B) {N:Nat->NO} {c x:Nat} {T:TT} {F:Nat->Prop},dH D N T x F->wfT T->dJ t i T->∃ F',Tx D i t N c x T F F'
 | [],N,c,x,.node ids k,F,h,w,hm=>by
  simp only [dH] at h
  obtain ⟨a,m,mk,l,q,G,h1,h2,h3,h4,h5,h6,h7,h8,h9,h10,h11,h12⟩:=h
  simp only [wfT] at w
  have hi:i∈ids:=by obtain ⟨s,e,hi⟩:=hm; cases e; exact hi
  have hmx:m≠x:=lX h1 h3
  have e1:bump false N x=put N x (.node a ids.length m (((ids.length+szK k:Nat):Int)+-1) []):=iU h1
  have ec:chN false ⟨N,c,x⟩ []=⟨put N x (.node a ids.length m (((ids.length+szK k:Nat):Int)+-1) []),c,x⟩:=by show CS.mk _ _ _=_; rw [e1]
  generalize hN1:put N x (.node a ids.length m (((ids.length+szK k:Nat):Int)+-1) [])=N1 at ec
  have n1x:N1 x=.node a ids.length m (((ids.length+szK k:Nat):Int)+-1) []:=by rw [<- hN1,bN]
  have n1o:∀ z,z≠x->N1 z=N z:=fun z hz=>by rw [<- hN1,aI hz]
  have ha:=xZ h2
  have hla:cR N1 a ids.length=ids:=by have h:=ha.1; simp only [cR,n1o a h7] at h ⊢; exact h
  have haa:(cG N1 a).take ids.length=ids:=by have h:=ha.2; simp only [cG,n1o a h7] at h ⊢; exact h
  have hsx:(chN false ⟨N,c,x⟩ []).x=x:=by rw [ec]
  have hsN:(chN false ⟨N,c,x⟩ []).N=N1:=by rw [ec]
  have hL:qD (cG N1 a) ids.length (bM (cR N1 a ids.length) i)=vJ ids i++[[]]:=by
   rw [hla]
   unfold qD vJ
   rw [haa]
  have ee:dU false N1 x 0 i=put (put N1 a (.arr (vJ ids i++[[]]))) x (.node a (ids.length - 1) m (((ids.length+szK k:Nat):Int)+-1) []):=by
   simp only [dU,n1x,hL,cond_false]
  have hlen:=Ha w.1 hi
  generalize hLL:vJ ids i=L at ee hlen
  have rx:dU false N1 x 0 i x=.node a L.length m (((L.length+szK k:Nat):Int)) []:=by
   rw [ee,bN,<- hlen]
   have:((L.length+szK k:Nat):Int)=((L.length+1+szK k:Nat):Int)+-1:=by omega
   rw [this]
   rfl
  have ra:dU false N1 x 0 i a=.arr (L++[[]]):=by rw [ee,aI h7,bN]
  have ro:∀ z,z≠x->z≠a->dU false N1 x 0 i z=N z:=fun z hx hy=>by rw [ee,aI hx,aI hy,n1o z hx]
  refine ⟨fun z=>z=x\/z=m\/z=a\/G z,?_,?_,?_,?_,?_⟩
  ·rw [hsx,hsN]
   simp only [fV,hLL,dH]
   refine ⟨a,m,[],l,q,G,rx,.inr ⟨L++[[]],ra,by simp,by simp,by simp⟩,(ro m hmx (Ne.symm h8)).trans h3,.inl rfl,h5,fL h6 fun z hz=>ro z (fun e=>h9 (e ▸ hz)) (fun e=>h11 (e ▸ hz)),h7,h8,h9,h10,h11,fun _=>Iff.rfl⟩
  ·exact fun z hz=>(h12 z).2 hz
  ·rw [hsx,hsN]
   exact fun z hz=>ro z (fun e=>hz ((h12 z).2 (.inl e))) (fun e=>hz ((h12 z).2 (.inr (.inr (.inl e)))))
  ·rw [hsx,hsN,lV n1x,hla]; rfl
  ·rw [ec]
 | b::t,N,c,x,.node ids k,F,h,w,hm=>by
  simp only [dH] at h
  obtain ⟨a,m,mk,l,q,G,h1,h2,h3,h4,h5,h6,h7,h8,h9,h10,h11,h12⟩:=h
  simp only [wfT] at w
  obtain ⟨s,hg,hms⟩:=mem_cons hm
  have hmx:m≠x:=lX h1 h3
  have e1:bump false N x=put N x (.node a ids.length m (((ids.length+szK k:Nat):Int)+-1) []):=iU h1
  have ec:chN false ⟨N,c,x⟩ (b::t)=chN false (stN false ⟨put N x (.node a ids.length m (((ids.length+szK k:Nat):Int)+-1) []),c,x⟩ b) t:=by show chN false (stN false ⟨bump false N x,c,x⟩ b) t=_; rw [e1]
  generalize hN1:put N x (.node a ids.length m (((ids.length+szK k:Nat):Int)+-1) [])=N1 at ec
  have n1x:N1 x=.node a ids.length m (((ids.length+szK k:Nat):Int)+-1) []:=by rw [<- hN1,bN]
  have n1o:∀ z,z≠x->N1 z=N z:=fun z hz=>by rw [<- hN1,aI hz]
  have n1m:N1 m=.map l q:=(n1o m hmx).trans h3
  have hkd:rV N1 x b=(mget l (dE b)).map (·.1):=kG n1x n1m b
  have hw:=iA hg w.2.2
  have hsz:=sJ t hw.1 hms
  obtain ⟨u,τ,G1,G2,j1,j2,j3,j4,j5,j6⟩:=jW h6 hg w.2.1
  have hus:isNode N1 u/\szN N1 u=((szT s:Nat):Int):=by
   obtain ⟨ids',k'⟩:=s
   have j2':=j2
   simp only [dH] at j2'
   obtain ⟨a',m',mk',l',q',G',i1,_,_,_,_,_,_,_,_,_,_,i12⟩:=j2'
   have:N1 u=N u:=n1o u fun e=>h9 ((j4 x).2 (.inl ((i12 x).2 (.inl e.symm))))
   rw [i1] at this
   exact ⟨⟨_,_,_,_,_,this⟩,by rw [Cq this]; simp only [szT]⟩
  have hG1:∀ z,(z=x\/z=m\/z=a)->¬ G1 z:=by
   rintro z (rfl|rfl|rfl) hz
   ·exact h9 ((j4 _).2 (.inl hz))
   ·exact h10 ((j4 _).2 (.inl hz))
   ·exact h11 ((j4 _).2 (.inl hz))
  have r1:dH D N1 s u G1:=gH j2 fun z hz=>n1o z fun e=>h9 ((j4 x).2 (.inl (e ▸ hz)))
  by_cases h0:szT s=1
  ·have est:stN false ⟨N1,c,x⟩ b=⟨put N1 m (.map (mdel l (dE b)) q),c,u⟩:=by
    unfold stN
    have:szN N1 u+dv false=0:=by rw [hus.2,h0]; rfl
    simp only [hkd,j1,Option.map_some,if_pos this,rL n1x n1m]
   rw [est] at ec
   generalize hN2:put N1 m (.map (mdel l (dE b)) q)=N2 at ec
   have n2m:N2 m=.map (mdel l (dE b)) q:=by rw [<- hN2,bN]
   have n2o:∀ z,z≠m->N2 z=N1 z:=fun z hz=>by rw [<- hN2,aI hz]
   have r2:dH D N2 s u G1:=gH r1 fun z hz=>n2o z fun e=>hG1 m (.inr (.inl rfl)) (e ▸ hz)
   obtain ⟨F1,p⟩:=qF t (N:=N2) (c:=c) (x:=u) (F:=G1) r2 hw.1 hms
   have n'o:=p.old
   refine ⟨fun z=>z=x\/z=m\/z=a\/G2 z,?_,?_,?_,?_,?_⟩
   ·rw [ec]
    simp only [fV,hg,if_pos h0,dH]
    refine ⟨a,m,[],_,_,G2,?_,?_,(n'o m (hG1 m (.inr (.inl rfl)))).trans n2m,.inl rfl,?_,j6 _ _ (fun z hz=>Iy fun e=>hz (qP e)) (fun z hz=>?_),h7,h8,fun h=>h9 ((j4 x).2 (.inr h)),fun h=>h10 ((j4 m).2 (.inr h)),fun h=>h11 ((j4 a).2 (.inr h)),fun _=>Iff.rfl⟩
    ·rw [n'o x (hG1 x (.inl rfl)),n2o x (Ne.symm hmx),n1x]
     have:=Ai hg
     have:((ids.length+szK k:Nat):Int)+-1=((ids.length+szK (mD k b):Nat):Int):=by omega
     rw [this]
    ·rw [n'o a (hG1 a (.inr (.inr rfl))),n2o a h8,n1o a h7]
     exact h2
    ·have e1:=Ix j1
     have e2:=(Gd hg).map dE
     simp only [List.map_cons] at e2
     exact (List.perm_cons _).1 ((e1.symm.trans h5).trans e2)
    ·have hz':¬ G1 z:=fun h'=>j3 z h' hz
     rw [n'o z hz',n2o z fun e=>h10 ((j4 m).2 (.inr (e ▸ hz)))]
     exact n1o z fun e=>h9 ((j4 x).2 (.inr (e ▸ hz)))
   ·rintro z (h|h|h|h)
    ·exact (h12 z).2 (.inl h)
    ·exact (h12 z).2 (.inr (.inl h))
    ·exact (h12 z).2 (.inr (.inr (.inl h)))
    ·exact (h12 z).2 (.inr (.inr (.inr ((j4 z).2 (.inr h)))))
   ·rw [ec]
    intro z hz
    rw [n'o z fun h=>hz ((h12 z).2 (.inr (.inr (.inr ((j4 z).2 (.inl h)))))),n2o z fun e=>hz ((h12 z).2 (.inr (.inl e)))]
    exact n1o z fun e=>hz ((h12 z).2 (.inl e))
   ·rw [ec,p.ids,rC]
    simp only [Ir,hg,Option.getD_some]
   ·rw [ec]; exact p.c
  ·have est:stN false ⟨N1,c,x⟩ b=⟨N1,c,u⟩:=by
    unfold stN
    have:¬ (szN N1 u+dv false=0):=by rw [hus.2]; show ¬ (_+(-1:Int)=0); omega
    simp only [hkd,j1,Option.map_some,if_neg this]
   rw [est] at ec
   obtain ⟨F1,p⟩:=qF t (N:=N1) (c:=c) (x:=u) (F:=G1) r1 hw.1 hms
   have n'o:=p.old
   refine ⟨fun z=>z=x\/z=m\/z=a\/(F1 z\/G2 z),?_,?_,?_,?_,?_⟩
   ·rw [ec]
    simp only [fV,hg,if_neg h0,dH]
    refine ⟨a,m,[],l,q,fun z=>F1 z\/G2 z,?_,?_,(n'o m (hG1 m (.inr (.inl rfl)))).trans n1m,.inl rfl,?_,j5 _ _ F1 p.rep (fun z hz h'=>j3 z (p.new z hz) h') (fun z hz=>?_),h7,h8,?_,?_,?_,fun _=>Iff.rfl⟩
    ·rw [n'o x (hG1 x (.inl rfl)),n1x]
     have:=vP (s':=fV i t s) hg w.2.1
     have:((ids.length+szK k:Nat):Int)+-1=((ids.length+szK (fC k b (fV i t s)):Nat):Int):=by omega
     rw [this]
    ·rw [n'o a (hG1 a (.inr (.inr rfl))),n1o a h7]
     exact h2
    ·rw [yC hg w.2.1]; exact h5
    ·rw [n'o z fun h'=>j3 z h' hz]
     exact n1o z fun e=>h9 ((j4 x).2 (.inr (e ▸ hz)))
    ·rintro (h|h)
     ·exact hG1 x (.inl rfl) (p.new _ h)
     ·exact h9 ((j4 x).2 (.inr h))
    ·rintro (h|h)
     ·exact hG1 m (.inr (.inl rfl)) (p.new _ h)
     ·exact h10 ((j4 m).2 (.inr h))
    ·rintro (h|h)
     ·exact hG1 a (.inr (.inr rfl)) (p.new _ h)
     ·exact h11 ((j4 a).2 (.inr h))
   ·rintro z (h|h|h|h|h)
    ·exact (h12 z).2 (.inl h)
    ·exact (h12 z).2 (.inr (.inl h))
    ·exact (h12 z).2 (.inr (.inr (.inl h)))
    ·exact (h12 z).2 (.inr (.inr (.inr ((j4 z).2 (.inl (p.new z h))))))
    ·exact (h12 z).2 (.inr (.inr (.inr ((j4 z).2 (.inr h)))))
   ·rw [ec]
    intro z hz
    rw [n'o z fun h=>hz ((h12 z).2 (.inr (.inr (.inr ((j4 z).2 (.inl h))))))]
    exact n1o z fun e=>hz ((h12 z).2 (.inl e))
   ·rw [ec,p.ids,rC]
    simp only [Ir,hg,Option.getD_some]
   ·rw [ec]; exact p.c
end T16
end
