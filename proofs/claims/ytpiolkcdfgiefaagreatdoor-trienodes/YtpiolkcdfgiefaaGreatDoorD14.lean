/- A part of the proof. -/
import Derived.Test.YtpiolkcdfgiefaaGreatDoorD13
section
open Go Go.Eng Go.Proofs T1 T2 T3 T4 T5 T10 T11 T12 T13 T14 T16 T17 T18 T19 T26 T31 D12 D13
set_option maxRecDepth 100000
namespace T35
def V8 (t i:B) (b:UInt8) (k:TK):Prop:=∃ s,cC k b=some s/\eB t i s
def klt (a b:B×B):Prop:=bl a.1 b.1=true\/(a.1=b.1/\bl a.2 b.2=true)
theorem Dl:∀ (p:B) {x y:B},bl (p++x) (p++y)=bl x y
 | [],_,_=>rfl
 | b::p,x,y=>by
  rw [List.cons_append,List.cons_append,yF,Dl p]
  simp [UInt8.lt_irrefl]
theorem Og (p:B) (b:UInt8) (x:B):bl p (p++b::x)=true:=by
 have:=Dl p (x:=[]) (y:=b::x)
 rw [List.append_nil] at this
 rw [this]
 rfl
mutual
theorem qP:∀ (T:TT) (p:B),(bS p T).length=szT T
 | .node ids k,p=>by
  simp only [bS,szT,List.length_append,List.length_map]
  rw [wZ k p]
theorem wZ:∀ (k:TK) (p:B),(nF p k).length=szK k
 | .nil,_=>rfl
 | .cons b t r,p=>by
  simp only [nF,szK,List.length_append]
  rw [qP t,wZ r]
end
mutual
theorem mem_keys:∀ (T:TT) (p:B),wfT T->∀ t i,(t,i)∈bS p T ↔ ∃ s,t=p++s/\eB s i T
 | .node ids k,p,w,t,i=>by
  simp only [wfT] at w
  simp only [bS,List.mem_append]
  rw [oE k p w.2.1 w.2.2]
  constructor
  ·rintro (h|⟨b,s,e,h⟩)
   ·obtain ⟨j,hj,e⟩:=List.mem_map.1 h
    cases e
    exact ⟨[],(List.append_nil _).symm,fP.2 hj⟩
   ·exact ⟨b::s,e,cD.2 h⟩
  ·rintro ⟨s,e,h⟩
   cases s with
   | nil =>
    rw [List.append_nil] at e
    subst e
    exact .inl (List.mem_map.2 ⟨i,fP.1 h,rfl⟩)
   | cons b s=>exact .inr ⟨b,s,e,cD.1 h⟩
theorem oE:∀ (k:TK) (p:B),Sb (aP k)->wfK k->∀ t i,(t,i)∈nF p k ↔ ∃ b s,t=p++b::s/\V8 s i b k
 | .nil,p,_,_,t,i=>by
  simp only [nF]
  constructor
  ·intro h; cases h
  ·rintro ⟨b,s,_,u,e,_⟩; cases e
 | .cons b u r,p,hs,w,t,i=>by
  simp only [wfK] at w
  simp only [aP] at hs
  have p1:=List.pairwise_cons.1 hs
  simp only [nF,List.mem_append]
  rw [mem_keys u _ w.1,oE r p p1.2 w.2.2]
  constructor
  ·rintro (⟨s,e,h⟩|⟨y,s,e,v,hg,h⟩)
   ·exact ⟨b,s,by rw [e,List.append_assoc]; rfl,u,by simp only [cC,if_pos],h⟩
   ·refine ⟨y,s,e,v,?_,h⟩
    simp only [cC]
    rw [if_neg]
    ·exact hg
    ·rintro rfl
     exact UInt8.lt_irrefl _ (p1.1 _ (jN hg))
  ·rintro ⟨y,s,e,v,hg,h⟩
   simp only [cC] at hg
   by_cases ey:b=y
   ·subst ey
    rw [if_pos rfl] at hg
    cases hg
    exact .inl ⟨s,by rw [e,List.append_assoc]; rfl,h⟩
   ·rw [if_neg ey] at hg
    exact .inr ⟨y,s,e,v,hg,h⟩
end
mutual
theorem Bm:∀ (T:TT) (p:B),wfT T->(bS p T).Pairwise klt
 | .node ids k,p,w=>by
  simp only [wfT] at w
  simp only [bS]
  refine List.pairwise_append.2 ⟨List.pairwise_map.2 (List.Pairwise.imp (fun h=>.inr ⟨rfl,h⟩) w.1),xA k p w.2.1 w.2.2,?_⟩
  intro a ha b hb
  obtain ⟨i,_,rfl⟩:=List.mem_map.1 ha
  obtain ⟨t,j⟩:=b
  obtain ⟨y,s,e,_⟩:=(oE k p w.2.1 w.2.2 t j).1 hb
  refine .inl ?_
  show bl p t=true
  rw [e]
  exact Og p y s
theorem xA:∀ (k:TK) (p:B),Sb (aP k)->wfK k->(nF p k).Pairwise klt
 | .nil,_,_,_=>.nil
 | .cons b u r,p,hs,w=>by
  simp only [wfK] at w
  simp only [aP] at hs
  have p1:=List.pairwise_cons.1 hs
  simp only [nF]
  refine List.pairwise_append.2 ⟨Bm u _ w.1,xA r p p1.2 w.2.2,?_⟩
  rintro ⟨t,i⟩ ha ⟨t',i'⟩ hb
  obtain ⟨s,e,_⟩:=(mem_keys u _ w.1 t i).1 ha
  obtain ⟨y,s',e',v,hg,_⟩:=(oE r p p1.2 w.2.2 t' i').1 hb
  refine .inl ?_
  show bl t t'=true
  rw [e,e',List.append_assoc,Dl]
  exact yG.2 (.inl (p1.1 _ (jN hg)))
end
end T35
end
section
open Go Go.Eng Go.Proofs T1 T2 T3 T4 T5 T11 T12 T13 T14 T17 T18 T19 T23 T26 T31 T33 D3 D6 D9 D11 D12 D13 T30 T25 T35
set_option maxRecDepth 100000
namespace D14
theorem Wo {P:Program} {f:Nat} {S S':aK} (h:S.Ok P f) (e0:S'.nx0=S.nx0) (e1:S'.nx1=S.nx1) (ef:S'.fresh=S.fresh)
  (H:∀ x',S'.pre x'->∃ x,S.pre x/\S'.args x'=S.args x/\S'.h0 x'=S.h0 x/\∀ y,S.post x y->∃ y',S'.post x' y'/\S'.res x' y'=S.res x y/\S'.h1 x' y'=S.h1 x y):S'.Ok P f:=by
 refine ⟨h.call,?_⟩
 intro x' w μ vs T U hU hg hh hpr hR
 obtain ⟨x,k1,k2,k3,k4⟩:=H x' hpr
 rw [e0] at hg hh hR
 rw [k3] at hh hR
 rw [k2] at hR
 refine (h.does x w μ vs T U hU hg hh k1 hR).mono ?_
 intro e w' he
 cases e with
 | returned v =>
  obtain ⟨y,μ',h1,h2,h3,h4⟩:=he
  obtain ⟨y',j1,j2,j3⟩:=k4 y h1
  refine ⟨y',μ',j1,?_,?_,h4⟩
  ·rw [e0,e1,ef,j3]
   exact h2
  ·rw [e0,ef,j2,j3]
   exact h3
 | panicked c=>exact he.elim
 | outgrown=>exact he.elim
structure UX where
 T:TT
 N:Nat->NO
 c:Nat
 r:Nat
 K:Int
 p:B
structure UOk (x:UX):Prop where
 tr:Tr Dd x.T x.N x.c x.r x.K
 sz:szT x.T<=12
 ln:x.p.length<=1000000
def Vj:aK where
 X:=UX
 Y:=List Ky
 args:=fun _=>.cons (.own 0 0) .nil
 pre:=UOk
 h0:=fun x=>tH 0 1 x.r x.N
 nx0:=2
 post:=fun x y=>y=bS [] x.T
 res:=fun _ y=>.lsl 2 2 y.length
 h1:=fun x y=>(2,.arr 32 2 y.length (kyE y))::tH 0 1 x.r x.N
 nx1:=3
theorem Tl:Vj.Ok Tryz.prog 16:=by
 refine Wo G7 rfl rfl rfl ?_
 rintro x ⟨h1,h2,_⟩
 exact ⟨⟨x.N,x.T,x.r,[]⟩,⟨h1.aok h2,by rw [qP]; exact Nat.le_trans h2 (by decide),rfl⟩,rfl,rfl,fun _ _=>⟨_,rfl,rfl,rfl⟩⟩
end D14
end
