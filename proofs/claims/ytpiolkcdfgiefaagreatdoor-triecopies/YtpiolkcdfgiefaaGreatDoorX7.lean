/- A part of the proof. -/
import Derived.Test.YtpiolkcdfgiefaaGreatDoorT25
import Derived.Test.YtpiolkcdfgiefaaGreatDoorD13
import Derived.Test.YtpiolkcdfgiefaaGreatDoorD14
import Derived.Test.YtpiolkcdfgiefaaGreatDoorVO
section
open Go Go.Eng Go.Proofs T1 T2 T3 T4 T5 T6 T10 T11 T21
set_option maxRecDepth 100000
namespace T22
def W8:aK:=Wf.mof Bool (fun x y=>y=decide (x.1=x.2)) (fun _ y=>.bool y)
theorem Wv:W8.Ok Tryz.prog 28:=Eng.Spec.iN Lp fun _ _=>⟨_,rfl,rfl⟩
end T22
end
section
open Go Go.Eng Go.Proofs T1 T2 T3 T4 T5 T6 T7 T8 T13 T14 T17 T23 T25 T28 T30 T31 D3 D6 D9 D10
set_option maxRecDepth 100000
namespace D11
def g23:List Nat:=[4,0,2]
def c23:aF :=
 .seq (.region g23 [(zo 2 (.move (.c (.str []))))]) (.seq (.seq (.region g23 [(mv 3 0),(zo 4 (.ptrEq false (.s 3) (.c (.nilptr))))]) (.cond (.s 4) (.seq (.region g23 [(zo 2 (.move (.c (.str []))))]) .ret) .skip)) (.seq (.region g23 [(mv 5 0),(zo 6 (.nilCheck (.s 5))),(fa 7 0 6),(ld 8 7),(zo 9 (.call (.c (.fn 55)) [.s 8])),(mv 2 9)]) .ret))
theorem e23:aO Tryz.prog 23 g23 [] [] []=some (c23,[.slot 2],10):=by kernel_rfl
def Xa:aK where
 X:=DX
 Y:=Nat->NO
 args:=fun _=>.cons (.own 0 0) .nil
 pre:=fun x=>DOk (htT x.T) x
 h0:=fun x=>tH 0 1 x.v x.N
 nx0:=2
 post:=DPo
 res:=fun x _=>.str (oI Dd x.T)
 h1:=fun x y=>tH 0 1 x.v y
 nx1:=2
theorem Wy:Xa.Ok Tryz.prog 23:=by
 refine Eng.aK.okR e23 .nil (fun x=>[(55,.m (dgS (htT x.T)))]) (fun x _=>aD.m (both (htT x.T)).1 aD.nil) ?_
 rintro ⟨N,T,v,F⟩ (hok:DOk (htT T) ⟨N,T,v,F⟩)
 refine ⟨trivial,?_⟩
 repeat' (first|apply And.intro|exact trivial|exact rfl|exact zm N rfl|exact zr N rfl rfl|exact zf|exact zh|refine zt ?_|fail)
 refine Exists.intro ⟨N,T,v,F⟩ (Exists.intro [1] ?_)
 repeat' (first|exact hok|apply And.intro|exact trivial|exact rfl|exact zm N rfl|exact zr N rfl rfl|exact zf|exact zh|refine zt ?_|fail)
 refine fun (N2:Nat->NO) (hp2:DPo ⟨N,T,v,F⟩ N2)=>?_
 repeat' (first|apply And.intro|exact trivial|exact rfl|exact zm N2 rfl|exact zr N2 rfl rfl|exact zf|exact zh|refine zt ?_|fail)
 refine Exists.intro N2 (And.intro hp2 ?_)
 repeat' (first|apply And.intro|exact trivial|exact rfl|exact zm N2 rfl|exact zr N2 rfl rfl|exact zf|exact zh|refine zt ?_|fail)
end D11
end
section
open Go Go.Eng Go.Proofs T1 T2 T3 T4 T5 T10 T11 T12 T13 T14 T16 T17 T18 T19 T26 T31 D12 D13
set_option maxRecDepth 100000
namespace T35
theorem Wx {T:TT} {k:Ky}:pcT T k=0 ↔ jD k.1 k.2=true/\¬ eB k.1 k.2 T/\szT T < 20000:=by
 rw [<- gN]
 unfold pcT
 cases h1:jD k.1 k.2 <;> cases h2:tG T k.1 k.2 <;> cases h3:decide (20000<=szT T) <;> simp_all <;> omega
theorem Wr:∀ (l:List Ky) {T T':TT},E9 l T=(0,T')->wfT T->wfT T'/\szT T'=szT T+l.length/\(∀ t i,eB t i T' ↔ eB t i T\/(t,i)∈l)
 | [],T,T',h,w=>by
  cases h
  exact ⟨w,rfl,fun t i=>by simp⟩
 | k::l,T,T',h,w=>by
  unfold E9 at h
  by_cases e:pcT T k=0
  ·rw [if_pos e] at h
   have hz:=Wx.1 e
   obtain ⟨h1,h2,h3⟩:=Wr l h (Nv k.1 w hz.2.1)
   refine ⟨h1,?_,fun t i=>?_⟩
   ·rw [h2,nS k.1 w,List.length_cons]; omega
   ·rw [h3,zQ k.1 w,List.mem_cons]
    obtain ⟨a,b⟩:=k
    simp only [Prod.mk.injEq]
    constructor
    ·rintro ((h|h)|h)
     ·exact .inr (.inl h)
     ·exact .inl h
     ·exact .inr (.inr h)
    ·rintro (h|h|h)
     ·exact .inl (.inr h)
     ·exact .inl (.inl h)
     ·exact .inr h
  ·rw [if_neg e] at h
   injection h with h1 _
   exact absurd h1 e
theorem Ww {l:List Ky} {T:TT} (h:T19.eZ l=(0,T)):wfT T/\szT T=l.length/\∀ t i,eB t i T ↔ (t,i)∈l:=by
 unfold T19.eZ at h
 by_cases h1:20000 < l.length
 ·rw [if_pos h1] at h; cases h
 ·rw [if_neg h1] at h
  by_cases h2:l.any lC=true
  ·rw [if_pos h2] at h; cases h
  ·rw [if_neg h2] at h
   obtain ⟨a,b,c⟩:=Wr l h sM
   refine ⟨a,by rw [b]; simp [emp,szT,szK],fun t i=>?_⟩
   rw [c]
   constructor
   ·rintro (h|h)
    ·exact absurd h zP
    ·exact h
   ·exact .inr
end T35
end
section
open Go Go.Eng Go.Proofs T1 T2 T3 T4 T5 T11 T12 T13 T14 T17 T18 T19 T23 T26 T31 T33 D3 D6 D9 D11 D12 D13 T30 T25 T35
set_option maxRecDepth 100000
namespace D14
def Xb:aK where
 X:=UX
 Y:=Nat->NO
 args:=fun _=>.cons (.own 0 0) .nil
 pre:=UOk
 h0:=fun x=>tH 0 1 x.r x.N
 nx0:=2
 post:=fun x y=>Tr Dd x.T y x.c x.r x.K
 res:=fun x _=>.str (oI Dd x.T)
 h1:=fun x y=>tH 0 1 x.r y
 nx1:=2
theorem W6:Xb.Ok Tryz.prog 23:=by
 refine Wo Wy rfl rfl rfl ?_
 rintro x ⟨h1,h2,_⟩
 obtain ⟨F,hd,hF⟩:=h1.dok h2
 exact ⟨⟨x.N,x.T,x.r,F⟩,hd,rfl,rfl,fun y hy=>⟨y,h1.mark hF hy,rfl,rfl⟩⟩
def W9:aK where
 X:=UX
 Y:=(Nat->NO)×ND×Bool
 args:=fun x=>.cons (.own 0 0) (.cons (.str x.p) .nil)
 pre:=UOk
 h0:=fun x=>tH 0 1 x.r x.N
 nx0:=2
 post:=fun x y=>Tr Dd x.T y.1 x.c x.r x.K/\y.2.1=ndO (cL x.p x.T)/\y.2.2=(cL x.p x.T).isSome
 res:=fun _ y=>.tup (.cons (.agg (.cons (.lsl 2 1 y.2.1.ids.length) (.cons (.str y.2.1.bys) (.cons (.lsl 3 1 y.2.1.kids.length) .nil)))) (.cons (.bool y.2.2) .nil))
 h1:=fun x y=>lsH 3 y.2.1.kids::lsH 2 y.2.1.ids::tH 0 1 x.r y.1
 nx1:=4
theorem W5:W9.Ok Tryz.prog 25:=by
 refine Wo Pt rfl rfl rfl ?_
 rintro x ⟨h1,h2,h3⟩
 obtain ⟨F,hd,hF⟩:=h1.dok h2
 exact ⟨⟨⟨x.N,x.T,x.r,F⟩,x.c,x.p⟩,⟨hd,h1.ok.cl,h3⟩,rfl,rfl,fun y hy=>⟨y,⟨h1.mark hF hy.1,hy.2⟩,rfl,rfl⟩⟩
end D14
end
section
namespace VO
open Go Go.Eng Go.Proofs Go.RowKit Go.ChangeShapes Go.WideShapes T1 T10 T11 T23 T24
set_option maxRecDepth 100000
def Xd:Sp:=.cons .str (.cons .str .nil)
theorem sp29:Ah Tryz.prog 8 29=some (.cons (.slice 2 Xd) .nil):=by kernel_rfl
theorem sp9:Ah Tryz.prog 6 9=some (.cons .str .nil):=by kernel_rfl
theorem Xc {l:SV} (h:Sh Xd l):∃ q:Ky,bgK q/\∀ E vs,R E l vs->R E (oL q) vs:=by
 obtain ⟨_,_,rfl,⟨x,rfl,hx⟩,_,_,rfl,⟨y,rfl,hy⟩,rfl⟩:=h
 exact ⟨(x,y),Wh hx,fun _ _ h=>h⟩
section
variable {H:Type} {enc:TypeId×Value->H} {W:World} {base:Nat} {sp:Nat->Bool} {held:Bool} {r:Reach} {b0:Nat} {v:Value} {d:DataW H} {ps:List MemPlace}
theorem open29 (hval:Value.okWide Tryz.prog W r b0 29 v) (hd:DataW.Trod enc Tryz.prog W base sp held 29 v d ps) (hw:Light Tryz.prog 29 d):∃ l:List Ky,R (eN (Wall W) W) (ksE l) [v]/\l.length < 4611686018427387904/\∀ j,j < l.length->(l.getD j k0).1.length < 4611686018427387904:=by
 obtain ⟨a,h1,h2⟩:=Oe sp29 ⟨fun fs e=>by rw [Tryz.underlying29] at e; (cases e),fun m k e=>by rw [Tryz.underlying29] at e; (cases e)⟩ hval hd hw
 obtain ⟨l,hb,hr⟩:=P7 (d:=k0) (g:=oL) (fun _ h=>Xc h) h1
 exact ⟨l,hr _ _ h2,hb⟩
theorem open9 (hval:Value.okWide Tryz.prog W r b0 9 v) (hd:DataW.Trod enc Tryz.prog W base sp held 9 v d ps) (hw:Light Tryz.prog 9 d):∃ m:B,R (eN (Wall W) W) (.str m) [v]/\m.length < 4611686018427387904:=by
 obtain ⟨a,h1,h2⟩:=Oe sp9 ⟨fun fs e=>by rw [Tryz.underlying9] at e; (cases e),fun m k e=>by rw [Tryz.underlying9] at e; (cases e)⟩ hval hd hw
 obtain ⟨m,rfl,hw⟩:=h1
 exact ⟨m,h2,Wh hw⟩
end
section
variable {H:Type} {enc:TypeId×Value->H} {P:Program} {w:World} {base:Nat} {spare:Nat->Bool} {held:Bool}
theorem Wt {t1 t2:TypeId} {args:Array Value} {ds:List (DataW H)} {ps:List MemPlace} (h:DataW.TrodAll enc P w base spare held [t1,t2] args.toList ds ps) :
  ∃ v1 v2 d1 d2 p1 p2,args=#[v1,v2]/\ds=[d1,d2]/\DataW.Trod enc P w base spare held t1 v1 d1 p1/\DataW.Trod enc P w base spare held t2 v2 d2 p2:=by
 obtain ⟨v1,vs1,d1,ds1,p1,q1,hargs,rfl,rfl,h1,r1⟩:=trodAll_cons h
 obtain ⟨v2,vs2,d2,ds2,p2,q2,rfl,rfl,rfl,h2,r2⟩:=trodAll_cons r1
 obtain ⟨rfl,rfl,rfl⟩:=trodAll_nil r2
 exact ⟨v1,v2,d1,d2,p1,p2,by cases args; simp_all,rfl,h1,h2⟩
end
end VO
end
