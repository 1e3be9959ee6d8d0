/- A part of the proof. -/
import Derived.Test.YtpiolkcdfgiefaaGreatDoorT6
import Derived.Test.YtpiolkcdfgiefaaGreatDoorT25
import Derived.Test.YtpiolkcdfgiefaaGreatDoorD13
import Derived.Test.YtpiolkcdfgiefaaGreatDoorD14
import Derived.Test.YtpiolkcdfgiefaaGreatDoorVO
section
open Go Go.Eng Go.Proofs T1 T3
set_option maxRecDepth 100000
namespace T4
theorem Xq {a b:B} (h:bl a b=true):bl b a=false:=by
 cases e:bl b a with
 | false=>rfl
 | true=>have:=Kb h e; rw [Dj] at this; cases this
end T4
end
section
open Go Go.Eng Go.Proofs T1 T2 T3 T4 T5 T6 T10 T11 T21 T22
set_option maxRecDepth 100000
namespace T23
def g30:List Nat:=[0,1,4]
def c30:aF :=
 .seq (.region g30 [(zo 4 (.move cF))]) (.seq (.region g30 [(mv 5 0),(zo 6 (.lenStr (.s 5))),(mv 7 1),(zo 8 (.lenStr (.s 7))),(zo 9 (.bin (.geq) (.s 6) (.s 8))),(mv 10 9),(mg 11 10 true 0),(mg 12 10 true 1),(zg 13 10 true (.lenStr (.s 12))),(zg 14 10 true (.sliceStr (.s 11) none (some (.s 13)))),(mg 15 10 true 1),(zg 16 10 true (.bin (.eql) (.s 14) (.s 15))),(zo 17 (.pick (.s 10) (.s 16) cF)),(mv 4 17)]) .ret)
theorem e30:aO Tryz.prog 30 g30 [] [] []=some (c30,[.slot 4],18):=by kernel_rfl
def Yd:Eng.Spec where
 X:=B×B
 args:=fun x=>.cons (.str x.1) (.cons (.str x.2) .nil)
 pre:=fun _=>True
 res:=fun x=>.bool (x.2.isPrefixOf x.1)
 inst:=fun
  | .cons (.str s) (.cons (.str w) _)=>some (s,w)
  | _=>none
theorem Xy:Yd.Ok Tryz.prog 30:=by
 refine Eng.Spec.okR e30 .nil (fun _=>[]) (fun _ _=>aD.nil) ?_
 rintro ⟨s,w⟩ _
 refine ⟨trivial,?_⟩
 repeat' (first|apply And.intro|exact trivial|exact rfl|exact zf|exact zh|refine zt ?_|fail)
 ·refine fun (h:decide ((s.length:Int)>=(w.length:Int))=true)=>?_
  have:=of_decide_eq_true h
  repeat' (first|apply And.intro|exact trivial|exact rfl|exact zf|exact zh|refine zt ?_|exact Int.natCast_nonneg _|exact this|fail)
 ·have e:aS (decide ((s.length:Int)>=(w.length:Int))) (.s 16) cF (decide (s.take (w.length:Int).toNat=w)) false=w.isPrefixOf s:=by
   rw [bA,Bool.eq_iff_iff,Bool.and_eq_true,decide_eq_true_iff,decide_eq_true_iff,List.isPrefixOf_iff_prefix,List.prefix_iff_eq_take]
   constructor
   ·rintro ⟨_,h⟩; exact h.symm
   ·intro h
    refine ⟨?_,h.symm⟩
    have:=congrArg List.length h
    rw [List.length_take] at this
    omega
  exact e
end T23
end
section
open Go Go.Eng Go.Proofs T1 T2 T3 T4 T5 T6 T7 T8 T13 T14 T17 T23 T25 T28 T30 T31 D3 D6 D9 D10
set_option maxRecDepth 100000
namespace D11
def g23:List Nat:=[4,0,2]
def c23:aF :=
 .seq (.region g23 [(zo 2 (.move (.c (.str []))))]) (.seq (.seq (.region g23 [(mv 3 0),(zo 4 (.ptrEq false (.s 3) (.c (.nilptr))))]) (.cond (.s 4) (.seq (.region g23 [(zo 2 (.move (.c (.str []))))]) .ret) .skip)) (.seq (.region g23 [(mv 5 0),(zo 6 (.nilCheck (.s 5))),(fa 7 0 6),(ld 8 7),(zo 9 (.call (.c (.fn 55)) [.s 8])),(mv 2 9)]) .ret))
theorem e23:aO Tryz.prog 23 g23 [] [] []=some (c23,[.slot 2],10):=by kernel_rfl
def Yh:aK where
 X:=DX
 Y:=Nat->NO
 args:=fun _=>.cons (.own 0 0) .nil
 pre:=fun x=>DOk (htT x.T) x
 h0:=fun x=>tH 0 1 x.v x.N
 nx0:=2
 post:=DPo
 res:=fun x _=>.str (oI Dd x.T)
 h1:=fun x y=>tH 0 1 x.v y
 nx1:=2
theorem Xw:Yh.Ok Tryz.prog 23:=by
 refine Eng.aK.okR e23 .nil (fun x=>[(55,.m (dgS (htT x.T)))]) (fun x _=>aD.m (both (htT x.T)).1 aD.nil) ?_
 rintro ⟨N,T,v,F⟩ (hok:DOk (htT T) ⟨N,T,v,F⟩)
 refine ⟨trivial,?_⟩
 repeat' (first|apply And.intro|exact trivial|exact rfl|exact zm N rfl|exact zr N rfl rfl|exact zf|exact zh|refine zt ?_|fail)
 refine Exists.intro ⟨N,T,v,F⟩ (Exists.intro [1] ?_)
 repeat' (first|exact hok|apply And.intro|exact trivial|exact rfl|exact zm N rfl|exact zr N rfl rfl|exact zf|exact zh|refine zt ?_|fail)
 refine fun (N2:Nat->NO) (hp2:DPo ⟨N,T,v,F⟩ N2)=>?_
 repeat' (first|apply And.intro|exact trivial|exact rfl|exact zm N2 rfl|exact zr N2 rfl rfl|exact zf|exact zh|refine zt ?_|fail)
 refine Exists.intro N2 (And.intro hp2 ?_)
 repeat' (first|apply And.intro|exact trivial|exact rfl|exact zm N2 rfl|exact zr N2 rfl rfl|exact zf|exact zh|refine zt ?_|fail)
end D11
end
section
open Go Go.Eng Go.Proofs T1 T2 T3 T4 T5 T10 T11 T12 T13 T14 T16 T17 T18 T19 T26 T31 D12 D13
set_option maxRecDepth 100000
namespace T35
theorem Xc:∀ {l m:List B},Srt l->Srt m->(∀ x,x∈l ↔ x∈m)->l=m
 | [],[],_,_,_=>rfl
 | [],y::m,_,_,h=>absurd ((h y).2 List.mem_cons_self) List.not_mem_nil
 | x::l,[],_,_,h=>absurd ((h x).1 List.mem_cons_self) List.not_mem_nil
 | x::l,y::m,h1,h2,h=>by
  have k1:=List.pairwise_cons.1 h1
  have k2:=List.pairwise_cons.1 h2
  have e:x=y:=by
   rcases List.mem_cons.1 ((h x).1 List.mem_cons_self) with e|e
   ·exact e
   ·rcases List.mem_cons.1 ((h y).2 List.mem_cons_self) with f|f
    ·exact f.symm
    ·have a:=k2.1 _ e
     have b:=k1.1 _ f
     rw [Xq a] at b
     cases b
  subst e
  refine congrArg (x::·) (Xc k1.2 k2.2 fun z=>?_)
  constructor
  ·intro hz
   rcases List.mem_cons.1 ((h z).1 (List.mem_cons_of_mem _ hz)) with e|e
   ·subst e; have:=k1.1 _ hz; rw [Dj] at this; cases this
   ·exact e
  ·intro hz
   rcases List.mem_cons.1 ((h z).2 (List.mem_cons_of_mem _ hz)) with e|e
   ·subst e; have:=k2.1 _ hz; rw [Dj] at this; cases this
   ·exact e
mutual
theorem Xo:∀ (T T':TT),wfT T->wfT T'->(∀ t i,eB t i T ↔ eB t i T')->T=T'
 | .node ids k,.node ids' k',w,w',h=>by
  simp only [wfT] at w w'
  have e1:ids=ids':=Xc w.1 w'.1 fun i=>by have:=h [] i; rw [fP,fP] at this; exact this
  have e2:k=k':=Xd k k' w.2.1 w'.2.1 w.2.2 w'.2.2 fun b t i=>by have:=h (b::t) i; rw [cD,cD] at this; exact this
  rw [e1,e2]
theorem Xd:∀ (k k':TK),Sb (aP k)->Sb (aP k')->wfK k->wfK k'->(∀ b t i,V8 t i b k ↔ V8 t i b k')->k=k'
 | .nil,.nil,_,_,_,_,_=>rfl
 | .nil,.cons b s r,_,_,_,w',h=>by
  simp only [wfK] at w'
  obtain ⟨t,i,hm⟩:=Cp w'.2.1 w'.1
  obtain ⟨s',e,_⟩:=(h b t i).2 ⟨s,by simp only [cC,if_pos],hm⟩
  cases e
 | .cons b s r,.nil,_,_,w,_,h=>by
  simp only [wfK] at w
  obtain ⟨t,i,hm⟩:=Cp w.2.1 w.1
  obtain ⟨s',e,_⟩:=(h b t i).1 ⟨s,by simp only [cC,if_pos],hm⟩
  cases e
 | .cons b s r,.cons b' s' r',hs,hs',w,w',h=>by
  simp only [wfK] at w w'
  simp only [aP] at hs hs'
  have p1:=List.pairwise_cons.1 hs
  have p2:=List.pairwise_cons.1 hs'
  have m1:b∈aP (.cons b' s' r'):=by
   obtain ⟨t,i,hm⟩:=Cp w.2.1 w.1
   obtain ⟨x,e,_⟩:=(h b t i).1 ⟨s,by simp only [cC,if_pos],hm⟩
   exact jN e
  have m2:b'∈aP (.cons b s r):=by
   obtain ⟨t,i,hm⟩:=Cp w'.2.1 w'.1
   obtain ⟨x,e,_⟩:=(h b' t i).2 ⟨s',by simp only [cC,if_pos],hm⟩
   exact jN e
  have e:b=b':=by
   simp only [aP,List.mem_cons] at m1 m2
   rcases m1 with e|e
   ·exact e
   ·rcases m2 with f|f
    ·exact f.symm
    ·exact absurd (p1.1 _ f) (Hb (p2.1 _ e))
  subst e
  have es:s=s':=Xo s s' w.1 w'.1 fun t i=>by
   have:=h b t i
   unfold V8 at this
   simp only [cC,if_true,Option.some.injEq,exists_eq_left'] at this
   exact this
  subst es
  have er:r=r':=Xd r r' p1.2 p2.2 w.2.2 w'.2.2 fun y t i=>by
   by_cases e:b=y
   ·subst e
    have n1:cC r b=none:=rT fun hm=>UInt8.lt_irrefl _ (p1.1 _ hm)
    have n2:cC r' b=none:=rT fun hm=>UInt8.lt_irrefl _ (p2.1 _ hm)
    unfold V8
    rw [n1,n2]
   ·have:=h y t i
    unfold V8 at this ⊢
    simp only [cC,if_neg e] at this
    exact this
  rw [er]
end
theorem Xv {T:TT} {k:Ky}:pcT T k=0 ↔ jD k.1 k.2=true/\¬ eB k.1 k.2 T/\szT T < 20000:=by
 rw [<- gN]
 unfold pcT
 cases h1:jD k.1 k.2 <;> cases h2:tG T k.1 k.2 <;> cases h3:decide (20000<=szT T) <;> simp_all <;> omega
theorem W9:∀ (l:List Ky) {T T':TT},E9 l T=(0,T')->wfT T->wfT T'/\szT T'=szT T+l.length/\(∀ t i,eB t i T' ↔ eB t i T\/(t,i)∈l)
 | [],T,T',h,w=>by
  cases h
  exact ⟨w,rfl,fun t i=>by simp⟩
 | k::l,T,T',h,w=>by
  unfold E9 at h
  by_cases e:pcT T k=0
  ·rw [if_pos e] at h
   have hz:=Xv.1 e
   obtain ⟨h1,h2,h3⟩:=W9 l h (Nv k.1 w hz.2.1)
   refine ⟨h1,?_,fun t i=>?_⟩
   ·rw [h2,nS k.1 w,List.length_cons]; omega
   ·rw [h3,zQ k.1 w,List.mem_cons]
    obtain ⟨a,b⟩:=k
    simp only [Prod.mk.injEq]
    constructor
    ·rintro ((h|h)|h)
     ·exact .inr (.inl h)
     ·exact .inl h
     ·exact .inr (.inr h)
    ·rintro (h|h|h)
     ·exact .inl (.inr h)
     ·exact .inl (.inl h)
     ·exact .inr h
  ·rw [if_neg e] at h
   injection h with h1 _
   exact absurd h1 e
theorem Xu {l:List Ky} {T:TT} (h:T19.eZ l=(0,T)):wfT T/\szT T=l.length/\∀ t i,eB t i T ↔ (t,i)∈l:=by
 unfold T19.eZ at h
 by_cases h1:20000 < l.length
 ·rw [if_pos h1] at h; cases h
 ·rw [if_neg h1] at h
  by_cases h2:l.any lC=true
  ·rw [if_pos h2] at h; cases h
  ·rw [if_neg h2] at h
   obtain ⟨a,b,c⟩:=W9 l h sM
   refine ⟨a,by rw [b]; simp [emp,szT,szK],fun t i=>?_⟩
   rw [c]
   constructor
   ·rintro (h|h)
    ·exact absurd h zP
    ·exact h
   ·exact .inr
end T35
end
section
open Go Go.Eng Go.Proofs T1 T2 T3 T4 T5 T11 T12 T13 T14 T17 T18 T19 T23 T26 T31 T33 D3 D6 D9 D11 D12 D13 T30 T25 T35
set_option maxRecDepth 100000
namespace D14
def Yi:aK where
 X:=UX
 Y:=Nat->NO
 args:=fun _=>.cons (.own 0 0) .nil
 pre:=UOk
 h0:=fun x=>tH 0 1 x.r x.N
 nx0:=2
 post:=fun x y=>Tr Dd x.T y x.c x.r x.K
 res:=fun x _=>.str (oI Dd x.T)
 h1:=fun x y=>tH 0 1 x.r y
 nx1:=2
theorem Ya:Yi.Ok Tryz.prog 23:=by
 refine Wo Xw rfl rfl rfl ?_
 rintro x ⟨h1,h2,_⟩
 obtain ⟨F,hd,hF⟩:=h1.dok h2
 exact ⟨⟨x.N,x.T,x.r,F⟩,hd,rfl,rfl,fun y hy=>⟨y,h1.mark hF hy,rfl,rfl⟩⟩
def Yg:aK where
 X:=UX
 Y:=(Nat->NO)×ND×Bool
 args:=fun x=>.cons (.own 0 0) (.cons (.str x.p) .nil)
 pre:=UOk
 h0:=fun x=>tH 0 1 x.r x.N
 nx0:=2
 post:=fun x y=>Tr Dd x.T y.1 x.c x.r x.K/\y.2.1=ndO (cL x.p x.T)/\y.2.2=(cL x.p x.T).isSome
 res:=fun _ y=>.tup (.cons (.agg (.cons (.lsl 2 1 y.2.1.ids.length) (.cons (.str y.2.1.bys) (.cons (.lsl 3 1 y.2.1.kids.length) .nil)))) (.cons (.bool y.2.2) .nil))
 h1:=fun x y=>lsH 3 y.2.1.kids::lsH 2 y.2.1.ids::tH 0 1 x.r y.1
 nx1:=4
theorem X4:Yg.Ok Tryz.prog 25:=by
 refine Wo Pt rfl rfl rfl ?_
 rintro x ⟨h1,h2,h3⟩
 obtain ⟨F,hd,hF⟩:=h1.dok h2
 exact ⟨⟨⟨x.N,x.T,x.r,F⟩,x.c,x.p⟩,⟨hd,h1.ok.cl,h3⟩,rfl,rfl,fun y hy=>⟨y,⟨h1.mark hF hy.1,hy.2⟩,rfl,rfl⟩⟩
end D14
end
section
namespace VO
open Go Go.Eng Go.Proofs Go.RowKit Go.ChangeShapes Go.WideShapes T1 T10 T11 T23 T24
set_option maxRecDepth 100000
def Yk:Sp:=.cons .str (.cons .str .nil)
theorem sp29:Ah Tryz.prog 8 29=some (.cons (.slice 2 Yk) .nil):=by kernel_rfl
theorem sp9:Ah Tryz.prog 6 9=some (.cons .str .nil):=by kernel_rfl
theorem Yj {l:SV} (h:Sh Yk l):∃ q:Ky,bgK q/\∀ E vs,R E l vs->R E (oL q) vs:=by
 obtain ⟨_,_,rfl,⟨x,rfl,hx⟩,_,_,rfl,⟨y,rfl,hy⟩,rfl⟩:=h
 exact ⟨(x,y),Wh hx,fun _ _ h=>h⟩
section
variable {H:Type} {enc:TypeId×Value->H} {W:World} {base:Nat} {sp:Nat->Bool} {held:Bool} {r:Reach} {b0:Nat} {v:Value} {d:DataW H} {ps:List MemPlace}
theorem open29 (hval:Value.okWide Tryz.prog W r b0 29 v) (hd:DataW.Trod enc Tryz.prog W base sp held 29 v d ps) (hw:Light Tryz.prog 29 d):∃ l:List Ky,R (eN (Wall W) W) (ksE l) [v]/\l.length < 4611686018427387904/\∀ j,j < l.length->(l.getD j k0).1.length < 4611686018427387904:=by
 obtain ⟨a,h1,h2⟩:=Oe sp29 ⟨fun fs e=>by rw [Tryz.underlying29] at e; (cases e),fun m k e=>by rw [Tryz.underlying29] at e; (cases e)⟩ hval hd hw
 obtain ⟨l,hb,hr⟩:=P7 (d:=k0) (g:=oL) (fun _ h=>Yj h) h1
 exact ⟨l,hr _ _ h2,hb⟩
theorem open9 (hval:Value.okWide Tryz.prog W r b0 9 v) (hd:DataW.Trod enc Tryz.prog W base sp held 9 v d ps) (hw:Light Tryz.prog 9 d):∃ m:B,R (eN (Wall W) W) (.str m) [v]/\m.length < 4611686018427387904:=by
 obtain ⟨a,h1,h2⟩:=Oe sp9 ⟨fun fs e=>by rw [Tryz.underlying9] at e; (cases e),fun m k e=>by rw [Tryz.underlying9] at e; (cases e)⟩ hval hd hw
 obtain ⟨m,rfl,hw⟩:=h1
 exact ⟨m,h2,Wh hw⟩
end
section
variable {H:Type} {enc:TypeId×Value->H} {P:Program} {w:World} {base:Nat} {spare:Nat->Bool} {held:Bool}
theorem Xf {t1 t2:TypeId} {args:Array Value} {ds:List (DataW H)} {ps:List MemPlace} (h:DataW.TrodAll enc P w base spare held [t1,t2] args.toList ds ps) :
  ∃ v1 v2 d1 d2 p1 p2,args=#[v1,v2]/\ds=[d1,d2]/\DataW.Trod enc P w base spare held t1 v1 d1 p1/\DataW.Trod enc P w base spare held t2 v2 d2 p2:=by
 obtain ⟨v1,vs1,d1,ds1,p1,q1,hargs,rfl,rfl,h1,r1⟩:=trodAll_cons h
 obtain ⟨v2,vs2,d2,ds2,p2,q2,rfl,rfl,rfl,h2,r2⟩:=trodAll_cons r1
 obtain ⟨rfl,rfl,rfl⟩:=trodAll_nil r2
 exact ⟨v1,v2,d1,d2,p1,p2,by cases args; simp_all,rfl,h1,h2⟩
end
end VO
end
