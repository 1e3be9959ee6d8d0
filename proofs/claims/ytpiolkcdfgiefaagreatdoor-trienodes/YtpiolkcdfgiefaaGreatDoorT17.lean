/- A part of the proof. -/
import Derived.Test.YtpiolkcdfgiefaaGreatDoorT12
section
open Go Go.Eng Go.Proofs T1 T2 T3 T4 T5 T6 T7 T8 T9 T10 T11 T12
set_option maxRecDepth 100000
namespace T13
mutual
inductive TT where
 | node (ids:List B) (k:TK)
inductive TK where
 | nil
 | cons (b:UInt8) (t:TT) (r:TK)
end
abbrev Dg:=List B->List (UInt8×B)->B
mutual
def szT:TT->Nat
 | .node ids k=>ids.length+szK k
def szK:TK->Nat
 | .nil=>0
 | .cons _ t r=>szT t+szK r
end
mutual
def oI (D:Dg):TT->B
 | .node ids k=>D ids (uF D k)
def uF (D:Dg):TK->List (UInt8×B)
 | .nil=>[]
 | .cons b t r=>(b,oI D t)::uF D r
end
def aP:TK->List UInt8
 | .nil=>[]
 | .cons b _ r=>b::aP r
def cC:TK->UInt8->Option TT
 | .nil,_=>none
 | .cons x t r,b=>if x=b then some t else cC r b
def fA:TK->UInt8->TT->TK
 | .nil,b,t=>.cons b t .nil
 | .cons x s r,b,t=>if x=b then .cons b t r else if b < x then .cons b t (.cons x s r) else .cons x s (fA r b t)
def mC:TK->UInt8->TK
 | .nil,_=>.nil
 | .cons x s r,b=>if x=b then r else .cons x s (mC r b)
def emp:TT:=.node [] .nil
def fX (i:B):B->TT->TT
 | [],.node ids k=>.node (kC ids ids.length (bK ids i) i) k
 | b::t,.node ids k=>.node ids (fA k b (fX i t ((cC k b).getD emp)))
def vK (ids:List B) (i:B):List B:=ids.take (bK ids i)++ids.drop (bK ids i+1)
def jL (i:B):B->TT->TT
 | [],.node ids k=>.node (vK ids i) k
 | b::t,.node ids k =>
  match cC k b with
  | none=>.node ids k
  | some s=>if szT s=1 then .node ids (mC k b) else .node ids (fA k b (jL i t s))
def cL:B->TT->Option TT
 | [],T=>some T
 | b::t,.node _ k=>(cC k b).bind (cL t)
def tI:TT->List B
 | .node ids _=>ids
def Sb (l:List UInt8):Prop:=l.Pairwise (· < ·)
mutual
def wfT:TT->Prop
 | .node ids k=>Srt ids/\Sb (aP k)/\wfK k
def wfK:TK->Prop
 | .nil=>True
 | .cons _ t r=>wfT t/\0 < szT t/\wfK r
end
mutual
def dG (D:Dg) (N:Nat->NO):TT->Nat->(Nat->Prop)->Prop
 | .node ids k,v,F=>∃ a m mk l q G,N v=.node a ids.length m ((ids.length+szK k:Nat):Int) mk /\
   ((N a=.none/\ids=[])\/∃ A,N a=.arr A/\A≠[]/\ids.length<=A.length/\A.take ids.length=ids)/\N m=.map l q/\(mk=[]\/mk=D ids (uF D k)) /\
   (l.map (·.1)).Perm ((aP k).map dC)/\fC D N k l G/\a≠v/\a≠m/\¬ G v/\¬ G m/\¬ G a/\(∀ x,F x ↔ x=v\/x=m\/x=a\/G x)
def fC (D:Dg) (N:Nat->NO):TK->List (aH×Nat×Nat)->(Nat->Prop)->Prop
 | .nil,_,G=>∀ x,¬ G x
 | .cons b t r,l,G=>∃ u τ G1 G2,mget l (dC b)=some (u,τ)/\dG D N t u G1/\fC D N r l G2/\(∀ x,G1 x->¬ G2 x)/\(∀ x,G x ↔ G1 x\/G2 x)
end
mutual
theorem gE {D:Dg} {N N':Nat->NO}:∀ {T:TT} {v:Nat} {F:Nat->Prop},dG D N T v F->(∀ x,F x->N' x=N x)->dG D N' T v F
 | .node ids k,v,F,h,e=>by
  simp only [dG] at h ⊢
  obtain ⟨a,m,mk,l,q,G,h1,h2,h3,h4,h5,h6,h7,h8,h9,h10,h11,h12⟩:=h
  have ev:=e v ((h12 v).2 (.inl rfl))
  have em:=e m ((h12 m).2 (.inr (.inl rfl)))
  have ea:=e a ((h12 a).2 (.inr (.inr (.inl rfl))))
  exact ⟨a,m,mk,l,q,G,ev.trans h1,by rw [ea]; exact h2,em.trans h3,h4,h5,fK h6 fun x hx=>e x ((h12 x).2 (.inr (.inr (.inr hx)))),h7,h8,h9,h10,h11,h12⟩
theorem fK {D:Dg} {N N':Nat->NO}:∀ {k:TK} {l:List (aH×Nat×Nat)} {G:Nat->Prop},fC D N k l G->(∀ x,G x->N' x=N x)->fC D N' k l G
 | .nil,l,G,h,e=>by
  simp only [fC] at h ⊢
  exact h
 | .cons b t r,l,G,h,e=>by
  simp only [fC] at h ⊢
  obtain ⟨u,τ,G1,G2,h1,h2,h3,h4,h5⟩:=h
  exact ⟨u,τ,G1,G2,h1,gE h2 fun x hx=>e x ((h5 x).2 (.inl hx)),fK h3 fun x hx=>e x ((h5 x).2 (.inr hx)),h4,h5⟩
end
theorem qO {a b:UInt8} (h:dC a=dC b):a=b:=by
 unfold dC at h
 injection h with _ h
 exact UInt8.toNat_inj.1 (by omega)
theorem sA {V:Type} {l:List (aH×V×Nat)} {k:aH} (h:k ∉ l.map (·.1)):mget l k=none:=by
 induction l with
 | nil=>rfl
 | cons x r ih =>
  simp only [List.map_cons,List.mem_cons,not_or] at h
  simp only [mget]
  rw [if_neg (fun e=>h.1 e.symm)]
  exact ih h.2
theorem rT {k:TK} {b:UInt8} (h:b ∉ aP k):cC k b=none:=by
 induction k using TK.rec (motive_1:=fun _=>True) with
 | node=>trivial
 | nil=>rfl
 | cons x t r _ ih =>
  simp only [aP,List.mem_cons,not_or] at h
  simp only [cC]
  rw [if_neg (fun e=>h.1 e.symm)]
  exact ih h.2
theorem rU {k:TK} {b:UInt8} (h:b∈aP k):∃ t,cC k b=some t:=by
 induction k using TK.rec (motive_1:=fun _=>True) with
 | node=>trivial
 | nil=>cases h
 | cons x t r _ ih =>
  simp only [cC]
  by_cases e:x=b
  ·rw [if_pos e]; exact ⟨_,rfl⟩
  ·rw [if_neg e]
   rcases List.mem_cons.1 h with rfl|h
   ·exact absurd rfl e
   ·exact ih h
theorem jX {D:Dg} {N:Nat->NO} {b:UInt8} {s:TT}:∀ {k:TK} {l:List (aH×Nat×Nat)} {G:Nat->Prop},fC D N k l G->cC k b=some s->Sb (aP k) ->
  ∃ u τ G1 G2,mget l (dC b)=some (u,τ)/\dG D N s u G1/\(∀ x,G1 x->¬ G2 x)/\(∀ x,G x ↔ G1 x\/G2 x) /\
   (∀ N' s' G1',dG D N' s' u G1'->(∀ x,G1' x->¬ G2 x)->(∀ x,G2 x->N' x=N x)->fC D N' (fA k b s') l (fun x=>G1' x\/G2 x)) /\
   (∀ N' l',(∀ x,x≠b->mget l' (dC x)=mget l (dC x))->(∀ x,G2 x->N' x=N x)->fC D N' (mC k b) l' G2)
 | .nil,_,_,_,h,_=>by cases h
 | .cons x t r,l,G,h,hg,hs=>by
  simp only [fC] at h
  obtain ⟨u,τ,G1,G2,h1,h2,h3,h4,h5⟩:=h
  simp only [cC] at hg
  have hs':=List.pairwise_cons.1 hs
  by_cases e:x=b
  ·rw [if_pos e] at hg
   cases hg
   subst e
   refine ⟨u,τ,G1,G2,h1,h2,h4,h5,?_,?_⟩
   ·intro N' s' G1' k1 k2 k3
    simp only [fA,if_true,fC]
    exact ⟨u,τ,G1',G2,h1,k1,fK h3 k3,k2,fun _=>Iff.rfl⟩
   ·intro N' l' k1 k2
    simp only [mC,if_true]
    refine repK_map (fun y hy=>k1 y ?_) (fK h3 k2)
    rintro rfl
    exact absurd (hs'.1 _ hy) (UInt8.lt_irrefl _)
  ·rw [if_neg e] at hg
   obtain ⟨v,σ,H1,H2,j1,j2,j3,j4,j5,j6⟩:=jX h3 hg hs'.2
   have hlt:¬ b < x:=by
    intro hb
    have hmem:b∈aP r:=by
     cases hm:decide (b∈aP r) with
     | true=>exact of_decide_eq_true hm
     | false=>rw [rT (of_decide_eq_false hm)] at hg; cases hg
    exact absurd (UInt8.lt_trans (hs'.1 _ hmem) hb) (UInt8.lt_irrefl _)
   refine ⟨v,σ,H1,fun y=>G1 y\/H2 y,j1,j2,?_,?_,?_,?_⟩
   ·rintro y hy (h'|h')
    ·exact h4 y h' ((j4 y).2 (.inl hy))
    ·exact j3 y hy h'
   ·intro y
    rw [h5,j4]
    constructor
    ·rintro (h|h|h)
     ·exact .inr (.inl h)
     ·exact .inl h
     ·exact .inr (.inr h)
    ·rintro (h|h|h)
     ·exact .inr (.inl h)
     ·exact .inl h
     ·exact .inr (.inr h)
   ·intro N' s' G1' k1 k2 k3
    simp only [fA,if_neg e,if_neg hlt,fC]
    refine ⟨u,τ,G1,fun y=>G1' y\/H2 y,h1,gE h2 fun y hy=>k3 y (.inl hy),j5 N' s' G1' k1 (fun y hy h'=>k2 y hy (.inr h')) (fun y hy=>k3 y (.inr hy)),?_,?_⟩
    ·rintro y hy (h'|h')
     ·exact k2 y h' (.inl hy)
     ·exact h4 y hy ((j4 y).2 (.inr h'))
    ·intro y
     constructor
     ·rintro (h|h|h)
      ·exact .inr (.inl h)
      ·exact .inl h
      ·exact .inr (.inr h)
     ·rintro (h|h|h)
      ·exact .inr (.inl h)
      ·exact .inl h
      ·exact .inr (.inr h)
   ·intro N' l' k1 k2
    simp only [mC,if_neg e,fC]
    exact ⟨u,τ,G1,H2,(k1 x e).trans h1,gE h2 fun y hy=>k2 y (.inl hy),j6 N' l' k1 fun y hy=>k2 y (.inr hy),fun y hy h'=>h4 y hy ((j4 y).2 (.inr h')),fun _=>Iff.rfl⟩
where
 repK_map {D:Dg} {N:Nat->NO} {l l':List (aH×Nat×Nat)}:∀ {k:TK} {G:Nat->Prop},(∀ y,y∈aP k->mget l' (dC y)=mget l (dC y))->fC D N k l G->fC D N k l' G
  | .nil,G,_,h=>by simp only [fC] at h ⊢; exact h
  | .cons b t r,G,e,h=>by
   simp only [fC] at h ⊢
   obtain ⟨u,τ,G1,G2,h1,h2,h3,h4,h5⟩:=h
   exact ⟨u,τ,G1,G2,(e b List.mem_cons_self).trans h1,h2,repK_map (fun y hy=>e y (List.mem_cons_of_mem _ hy)) h3,h4,h5⟩
end T13
end
section
open Go Go.Eng Go.Proofs T1 T2 T3 T4 T5 T6 T7 T8 T9 T10 T11 T12 T13
set_option maxRecDepth 100000
namespace T14
theorem Hb {a b:UInt8} (h:a < b):¬ b < a:=fun k=>UInt8.lt_irrefl _ (UInt8.lt_trans h k)
theorem Md {a b:UInt8} (h:¬ a < b) (e:b≠a):b < a:=by
 rw [UInt8.lt_iff_toNat_lt] at h ⊢
 have:b.toNat≠a.toNat:=fun h=>e (UInt8.toNat_inj.1 h)
 omega
theorem jN {k:TK} {b:UInt8} {s:TT} (h:cC k b=some s):b∈aP k:=by
 cases hm:decide (b∈aP k) with
 | true=>exact of_decide_eq_true hm
 | false=>rw [rT (of_decide_eq_false hm)] at h; cases h
theorem yJ {b:UInt8} {s s':TT}:∀ {k:TK},cC k b=some s->Sb (aP k)->aP (fA k b s')=aP k
 | .nil,h,_=>by cases h
 | .cons x t r,h,hs=>by
  have hs':=List.pairwise_cons.1 hs
  simp only [cC] at h
  simp only [fA]
  by_cases e:x=b
  ·rw [if_pos e]; subst e; rfl
  ·rw [if_neg e] at h
   rw [if_neg e,if_neg (Hb (hs'.1 _ (jN h)))]
   simp only [aP]
   rw [yJ h hs'.2]
theorem Gj {b:UInt8} {s':TT}:∀ {k:TK},b ∉ aP k->(aP (fA k b s')).Perm (b::aP k)
 | .nil,_=>by simp [fA,aP]
 | .cons x t r,h=>by
  simp only [aP,List.mem_cons,not_or] at h
  simp only [fA]
  rw [if_neg (fun e=>h.1 e.symm)]
  split
  ·exact .refl _
  ·simp only [aP]
   exact ((Gj h.2).cons x).trans (.swap _ _ _)
theorem mem_set {b y:UInt8} {s':TT}:∀ {k:TK},y∈aP (fA k b s')->y=b\/y∈aP k
 | .nil,h=>by simp [fA,aP] at h; exact .inl h
 | .cons x t r,h=>by
  simp only [fA] at h
  split at h
  ·rename_i e
   subst e
   exact .inr h
  ·split at h
   ·rcases List.mem_cons.1 h with h|h
    ·exact .inl h
    ·exact .inr h
   ·rcases List.mem_cons.1 h with h|h
    ·exact .inr (by rw [h]; exact List.mem_cons_self)
    ·rcases mem_set h with h|h
     ·exact .inl h
     ·exact .inr (List.mem_cons_of_mem _ h)
theorem Fm {b:UInt8} {s':TT}:∀ {k:TK},Sb (aP k)->Sb (aP (fA k b s'))
 | .nil,_=>List.pairwise_singleton _ _
 | .cons x t r,h=>by
  have h':=List.pairwise_cons.1 h
  simp only [fA]
  split
  ·rename_i e
   subst e
   exact h
  ·rename_i e
   split
   ·rename_i hb
    refine List.pairwise_cons.2 ⟨fun y hy=>?_,h⟩
    rcases List.mem_cons.1 hy with rfl|hy
    ·exact hb
    ·exact UInt8.lt_trans hb (h'.1 y hy)
   ·rename_i hb
    refine List.pairwise_cons.2 ⟨fun y hy=>?_,Fm h'.2⟩
    rcases mem_set hy with rfl|hy
    ·exact Md hb e
    ·exact h'.1 y hy
theorem vP {b:UInt8} {s s':TT}:∀ {k:TK},cC k b=some s->Sb (aP k)->szK (fA k b s')+szT s=szK k+szT s'
 | .nil,h,_=>by cases h
 | .cons x t r,h,hs=>by
  have hs':=List.pairwise_cons.1 hs
  simp only [cC] at h
  simp only [fA]
  by_cases e:x=b
  ·rw [if_pos e] at h ⊢
   cases h
   simp only [szK]
   omega
  ·rw [if_neg e] at h
   rw [if_neg e,if_neg (Hb (hs'.1 _ (jN h)))]
   simp only [szK]
   have:=vP (s':=s') h hs'.2
   omega
theorem F8 {b:UInt8} {s':TT}:∀ {k:TK},b ∉ aP k->szK (fA k b s')=szK k+szT s'
 | .nil,_=>by simp [fA,szK]
 | .cons x t r,h=>by
  simp only [aP,List.mem_cons,not_or] at h
  simp only [fA]
  rw [if_neg (fun e=>h.1 e.symm)]
  split
  ·simp only [szK]; omega
  ·simp only [szK]
   rw [F8 h.2]; omega
theorem zB {b:UInt8} {s':TT}:∀ {k:TK},Sb (aP k)->∀ y,cC (fA k b s') y=if y=b then some s' else cC k y
 | .nil,_,y=>by
  simp only [fA,cC]
  by_cases e:b=y
  ·subst e; simp
  ·rw [if_neg e,if_neg (fun h=>e h.symm)]
 | .cons x t r,h,y=>by
  have h':=List.pairwise_cons.1 h
  simp only [fA]
  by_cases e:x=b
  ·subst e
   rw [if_pos rfl]
   simp only [cC]
   by_cases ey:x=y
   ·subst ey; simp
   ·rw [if_neg ey,if_neg ey,if_neg (show ¬ y=x from fun h=>ey h.symm)]
  ·rw [if_neg e]
   split
   ·simp only [cC]
    by_cases ey:b=y
    ·subst ey; simp
    ·rw [if_neg ey,if_neg (show ¬ y=b from fun h=>ey h.symm)]
   ·simp only [cC]
    rw [zB h'.2]
    by_cases ey:x=y
    ·subst ey; rw [if_pos rfl,if_neg e,if_pos rfl]
    ·rw [if_neg ey,if_neg ey]
theorem iA {b:UInt8} {s:TT}:∀ {k:TK},cC k b=some s->wfK k->wfT s/\0 < szT s
 | .nil,h,_=>by cases h
 | .cons x t r,h,w=>by
  simp only [wfK] at w
  simp only [cC] at h
  split at h
  ·cases h; exact ⟨w.1,w.2.1⟩
  ·exact iA h w.2.2
theorem wf_set {b:UInt8} {s':TT} (h1:wfT s') (h2:0 < szT s'):∀ {k:TK},wfK k->wfK (fA k b s')
 | .nil,_=>by simp only [fA,wfK]; exact ⟨h1,h2,trivial⟩
 | .cons x t r,w=>by
  simp only [wfK] at w
  simp only [fA]
  split
  ·simp only [wfK]; exact ⟨h1,h2,w.2.2⟩
  ·split
   ·simp only [wfK]; exact ⟨h1,h2,w⟩
   ·simp only [wfK]; exact ⟨w.1,w.2.1,wf_set h1 h2 w.2.2⟩
theorem sM:wfT emp:=by simp only [emp,wfT,wfK,aP]; exact ⟨.nil,.nil,trivial⟩
theorem zF (l:List B) (i:B):kC l l.length (bK l i) i=l.take (bK l i)++i::l.drop (bK l i):=by unfold kC; rw [List.take_length]
theorem Be (l:List B) (i:B):(kC l l.length (bK l i) i).length=l.length+1:=by
 rw [zF]
 have:=qW l i
 simp
 omega
theorem P9 {l:List B} (h:Srt l) {i:B} (hi:i ∉ l):Srt (kC l l.length (bK l i) i):=by
 rw [zF]
 have hp:=qW l i
 refine List.pairwise_append.2 ⟨h.sublist (List.take_sublist _ _),List.pairwise_cons.2 ⟨fun y hy=>?_,h.sublist (List.drop_sublist _ _)⟩,fun x hx y hy=>?_⟩
 ·obtain ⟨j,hj,e⟩:=List.getElem_of_mem hy
  rw [List.getElem_drop] at e
  have hj':bK l i+j < l.length:=by simp at hj; omega
  have h1:¬ (bl (l.getD (bK l i+j) []) i=true):=fun h'=>by have:=(oH h i hj').1 h'; omega
  have e':l.getD (bK l i+j) []=y:=by simp [hj',e]
  rw [e'] at h1
  cases h2:bl i y with
  | true=>rfl
  | false =>
   have:=R2 (Bool.eq_false_iff.2 h1) h2
   subst this
   exact absurd (List.mem_of_mem_drop hy) hi
 ·have hx1:bl x i=true:=by
   obtain ⟨j,hj,e⟩:=List.getElem_of_mem hx
   rw [List.getElem_take] at e
   have hj':j < l.length:=by simp at hj; omega
   have:=(oH h i hj').2 (by simp at hj; omega)
   simpa [hj',e] using this
  rcases List.mem_cons.1 hy with rfl|hy
  ·exact hx1
  ·obtain ⟨j,hj,e⟩:=List.getElem_of_mem hx
   obtain ⟨q,hq,e2⟩:=List.getElem_of_mem hy
   rw [List.getElem_take] at e
   rw [List.getElem_drop] at e2
   simp at hj hq
   have:=h.lt (i:=j) (j:=bK l i+q) (by omega) (by omega)
   have d1:l.getD j []=x:=by simp [show j < l.length by omega,e]
   have d2:l.getD (bK l i+q) []=y:=by simp [show bK l i+q < l.length by omega,e2]
   rwa [d1,d2] at this
def eB (t i:B) (T:TT):Prop:=∃ s,cL t T=some s/\i∈tI s
theorem nS {i:B}:∀ (t:B) {T:TT},wfT T->szT (fX i t T)=szT T+1
 | [],.node ids k,_=>by
  simp only [fX,szT]
  rw [Be]; omega
 | b::t,.node ids k,w=>by
  simp only [wfT] at w
  simp only [fX,szT]
  cases hg:cC k b with
  | none =>
   have hb:b ∉ aP k:=fun h=>by obtain ⟨s,e⟩:=rU h; rw [hg] at e; cases e
   rw [F8 hb]
   show ids.length+(szK k+szT (fX i t emp))=_
   rw [nS t sM]
   simp only [emp,szT,szK,List.length_nil]
   omega
  | some s =>
   have:=vP (s':=fX i t s) hg w.2.1
   have h2:=nS (i:=i) t (iA hg w.2.2).1
   show ids.length+szK (fA k b (fX i t s))=_
   omega
theorem Nv {i:B}:∀ (t:B) {T:TT},wfT T->¬ eB t i T->wfT (fX i t T)
 | [],.node ids k,w,hm=>by
  simp only [wfT] at w
  simp only [fX,wfT]
  exact ⟨P9 w.1 fun h=>hm ⟨_,rfl,h⟩,w.2⟩
 | b::t,.node ids k,w,hm=>by
  have w':=w
  simp only [wfT] at w
  simp only [fX,wfT]
  have h1:wfT ((cC k b).getD emp)/\¬ eB t i ((cC k b).getD emp):=by
   cases hg:cC k b with
   | none =>
    refine ⟨sM,?_⟩
    rintro ⟨s,e,hi⟩
    cases t with
    | nil=>cases e; cases hi
    | cons c t=>cases e
   | some s =>
    refine ⟨(iA hg w.2.2).1,?_⟩
    rintro ⟨s',e,hi⟩
    exact hm ⟨s',by simp only [cL,hg,Option.bind_some]; exact e,hi⟩
  refine ⟨w.1,Fm w.2.1,wf_set (Nv t h1.1 h1.2) ?_ w.2.2⟩
  rw [nS t h1.1]; omega
theorem Cj {D:Dg} {N N':Nat->NO} {b:UInt8} {s':TT} {u τ:Nat} {l l':List (aH×Nat×Nat)} {G1:Nat->Prop} (hu:mget l' (dC b)=some (u,τ)) (hl:∀ x,x≠b->mget l' (dC x)=mget l (dC x)) (h1:dG D N' s' u G1) :
  ∀ {k:TK} {G:Nat->Prop},fC D N k l G->b ∉ aP k->(∀ x,G1 x->¬ G x)->(∀ x,G x->N' x=N x)->fC D N' (fA k b s') l' (fun x=>G1 x\/G x)
 | .nil,G,h,_,hd,_=>by
  simp only [fC] at h
  simp only [fA,fC]
  exact ⟨u,τ,G1,G,hu,h1,fun x hx=>h x hx,hd,fun _=>Iff.rfl⟩
 | .cons x t r,G,h,hb,hd,he=>by
  simp only [aP,List.mem_cons,not_or] at hb
  have hx:¬ x=b:=fun e=>hb.1 e.symm
  simp only [fA,if_neg hx]
  split
  ·simp only [fC]
   refine ⟨u,τ,G1,G,hu,h1,?_,hd,fun _=>Iff.rfl⟩
   have h2:=fK (N':=N') h he
   have h3:fC D N' (.cons x t r) l' G:=jX.repK_map (fun y hy=>hl y ?_) h2
   ·simpa only [fC] using h3
   ·rintro rfl
    rcases List.mem_cons.1 hy with e|hy
    ·exact hb.1 e
    ·exact hb.2 hy
  ·simp only [fC] at h
   obtain ⟨v,σ,H1,H2,j1,j2,j3,j4,j5⟩:=h
   have:=Cj hu hl h1 j3 hb.2 (fun y hy h'=>hd y hy ((j5 y).2 (.inr h'))) (fun y hy=>he y ((j5 y).2 (.inr hy)))
   simp only [fC]
   refine ⟨v,σ,H1,fun y=>G1 y\/H2 y,(hl x hx).trans j1,gE j2 fun y hy=>he y ((j5 y).2 (.inl hy)),this,?_,?_⟩
   ·rintro y hy (h'|h')
    ·exact hd y h' ((j5 y).2 (.inl hy))
    ·exact j4 y hy h'
   ·intro y
    rw [j5]
    constructor
    ·rintro (h|h|h)
     ·exact .inr (.inl h)
     ·exact .inl h
     ·exact .inr (.inr h)
    ·rintro (h|h|h)
     ·exact .inr (.inl h)
     ·exact .inl h
     ·exact .inr (.inr h)
end T14
end
section
open Go Go.Eng Go.Proofs T1 T2 T3 T4 T5 T6 T7 T8 T9 T10 T11 T12 T13 T14
set_option maxRecDepth 100000
namespace T15
theorem B0 {V:Type} {l:List (aH×V×Nat)} {k y:aH} {v:V} {q:Nat}:mget (l++[(k,v,q)]) y=match mget l y with
  | some e=>some e
  | none=>if k=y then some (v,q) else none:=by
 induction l with
 | nil=>simp only [List.nil_append,mget]
 | cons x r ih =>
  simp only [List.cons_append,mget]
  split
  ·rfl
  ·exact ih
theorem yC {N:Nat->NO} {a:Nat} {ids:List B} (h:(N a=.none/\ids=[])\/∃ A,N a=.arr A/\A≠[]/\ids.length<=A.length/\A.take ids.length=ids) :
  cQ N a ids.length=ids/\(cE N a).take ids.length=ids:=by
 rcases h with ⟨h1,h2⟩|⟨A,h1,_,_,h4⟩
 ·subst h2; constructor <;> simp [cQ,cE,h1]
 ·simp only [cQ,cE,h1]; exact ⟨h4,h4⟩
def Ix (T:TT) (b:UInt8):TT :=
 match T with
 | .node _ k=>(cC k b).getD emp
theorem rC (b:UInt8) (t:B) (T:TT):(cL (b::t) T).getD emp=(cL t (Ix T b)).getD emp:=by
 obtain ⟨ids,k⟩:=T
 simp only [cL,Ix]
 cases cC k b with
 | some s=>rfl
 | none =>
  cases t with
  | nil=>rfl
  | cons c t=>rfl
structure V9 (D:Dg) (i:B) (t:B) (N:Nat->NO) (c x:Nat) (T:TT) (F:Nat->Prop) (y:Nat) (F':Nat->Prop):Prop where
 rep:dG D (dQ true (chN true ⟨N,c,x⟩ t).N (chN true ⟨N,c,x⟩ t).x y i) (fX i t T) x F'
 new:∀ z,F' z->F z\/(c<=z/\z < (chN true ⟨N,c,x⟩ t).c+1)
 old:∀ z,¬ F z->z < c->dQ true (chN true ⟨N,c,x⟩ t).N (chN true ⟨N,c,x⟩ t).x y i z=N z
 free:∀ z,(chN true ⟨N,c,x⟩ t).c+1<=z->dQ true (chN true ⟨N,c,x⟩ t).N (chN true ⟨N,c,x⟩ t).x y i z=.none
 le:c<=(chN true ⟨N,c,x⟩ t).c
theorem tW {D:Dg} {i:B}:∀ (t:B) {N:Nat->NO} {c x:Nat} {T:TT} {F:Nat->Prop},dG D N T x F->(∀ z,F z->z < c)->(∀ z,c<=z->N z=.none)->wfT T ->
  iY (chN true ⟨N,c,x⟩ t).N (chN true ⟨N,c,x⟩ t).x=tI ((cL t T).getD emp) /\
  ∀ y,((y=zN (chN true ⟨N,c,x⟩ t).N (chN true ⟨N,c,x⟩ t).x/\cE (chN true ⟨N,c,x⟩ t).N y≠[])\/y=(chN true ⟨N,c,x⟩ t).c)->∃ F',V9 D i t N c x T F y F'
 | [],N,c,x,.node ids k,F,h,hF,h0,w=>by
  simp only [dG] at h
  obtain ⟨a,m,mk,l,q,G,h1,h2,h3,h4,h5,h6,h7,h8,h9,h10,h11,h12⟩:=h
  have hxc:x < c:=hF x ((h12 x).2 (.inl rfl))
  have hmc:m < c:=hF m ((h12 m).2 (.inr (.inl rfl)))
  have hac:a < c:=hF a ((h12 a).2 (.inr (.inr (.inl rfl))))
  have hmx:m≠x:=lX h1 h3
  have e1:bump true N x=put N x (.node a ids.length m (((ids.length+szK k:Nat):Int)+1) []):=iT h1
  have ec:chN true ⟨N,c,x⟩ []=⟨put N x (.node a ids.length m (((ids.length+szK k:Nat):Int)+1) []),c,x⟩:=by show CS.mk _ _ _=_; rw [e1]
  generalize hN1:put N x (.node a ids.length m (((ids.length+szK k:Nat):Int)+1) [])=N1 at ec
  have n1x:N1 x=.node a ids.length m (((ids.length+szK k:Nat):Int)+1) []:=by rw [<- hN1,bL]
  have n1o:∀ z,z≠x->N1 z=N z:=fun z hz=>by rw [<- hN1,aG hz]
  have ha:=yC h2
  have hla:cQ N1 a ids.length=ids:=by have h:=ha.1; simp only [cQ,n1o a h7] at h ⊢; exact h
  have haa:(cE N1 a).take ids.length=ids:=by have h:=ha.2; simp only [cE,n1o a h7] at h ⊢; exact h
  have hsx:(chN true ⟨N,c,x⟩ []).x=x:=by rw [ec]
  have hsN:(chN true ⟨N,c,x⟩ []).N=N1:=by rw [ec]
  have hsc:(chN true ⟨N,c,x⟩ []).c=c:=by rw [ec]
  refine ⟨by rw [hsx,hsN,lV n1x,hla]; rfl,?_⟩
  intro y hy
  rw [hsx,hsN,hsc] at hy
  have hyx:y≠x/\y≠m/\¬ G y/\(y=a\/y=c):=by
   rcases hy with ⟨h,_⟩|h
   ·have:y=a:=by rw [h]; simp only [zN,n1x]
    subst this
    exact ⟨h7,h8,h11,.inl rfl⟩
   ·subst h
    exact ⟨by omega,by omega,fun hg=>Nat.lt_irrefl _ (hF _ ((h12 _).2 (.inr (.inr (.inr hg))))),.inr rfl⟩
  obtain ⟨y1,y2,y3,y4⟩:=hyx
  have hL:kC (cE N1 a) ids.length (bK (cQ N1 a ids.length) i) i=kC ids ids.length (bK ids i) i:=by
   rw [hla]
   unfold kC
   rw [haa,List.take_length]
  have ee:dQ true N1 x y i=put (put N1 y (.arr (kC ids ids.length (bK ids i) i))) x (.node y (ids.length+1) m (((ids.length+szK k:Nat):Int)+1) []):=by
   simp only [dQ,n1x,hL,cond_true]
  have hlen:=Be ids i
  generalize hLL:kC ids ids.length (bK ids i) i=L at ee hlen
  refine ⟨fun z=>z=x\/z=m\/z=y\/G z,?_⟩
  have rx:dQ true N1 x y i x=.node y L.length m (((L.length+szK k:Nat):Int)) []:=by
   rw [ee,bL,hlen]
   have:((ids.length+1+szK k:Nat):Int)=((ids.length+szK k:Nat):Int)+1:=by omega
   rw [this]
  have ry:dQ true N1 x y i y=.arr L:=by rw [ee,aG y1,bL]
  have ro:∀ z,z≠x->z≠y->dQ true N1 x y i z=N z:=fun z hx hy=>by rw [ee,aG hx,aG hy,n1o z hx]
  refine ⟨?_,?_,?_,?_,?_⟩
  ·rw [hsx,hsN]
   simp only [fX,hLL,dG]
   refine ⟨y,m,[],l,q,G,rx,.inr ⟨L,ry,fun e=>by rw [e] at hlen; simp at hlen,Nat.le_refl _,List.take_length⟩,(ro m hmx (Ne.symm y2)).trans h3,.inl rfl,h5,fK h6 fun z hz=>ro z (fun e=>h9 (e ▸ hz)) (fun e=>y3 (e ▸ hz)),y1,y2,h9,h10,y3,fun _=>Iff.rfl⟩
  ·rw [hsc]
   rintro z (rfl|rfl|rfl|hz)
   ·exact .inl ((h12 _).2 (.inl rfl))
   ·exact .inl ((h12 _).2 (.inr (.inl rfl)))
   ·rcases y4 with rfl|rfl
    ·exact .inl ((h12 _).2 (.inr (.inr (.inl rfl))))
    ·exact .inr ⟨Nat.le_refl _,Nat.lt_succ_self _⟩
   ·exact .inl ((h12 _).2 (.inr (.inr (.inr hz))))
  ·rw [hsx,hsN]
   intro z hz hc
   refine ro z (fun e=>hz ((h12 z).2 (.inl e))) (fun e=>?_)
   rcases y4 with h|h
   ·exact hz ((h12 z).2 (.inr (.inr (.inl (e.trans h)))))
   ·omega
  ·rw [hsx,hsN,hsc]
   intro z hz
   rw [ro z (by omega) (by rcases y4 with h|h <;> omega)]
   exact h0 z (by omega)
  ·rw [hsc]; exact Nat.le_refl _
 | b::t,N,c,x,.node ids k,F,h,hF,h0,w=>by
  simp only [dG] at h
  obtain ⟨a,m,mk,l,q,G,h1,h2,h3,h4,h5,h6,h7,h8,h9,h10,h11,h12⟩:=h
  have w':=w
  simp only [wfT] at w
  have hxc:x < c:=hF x ((h12 x).2 (.inl rfl))
  have hmc:m < c:=hF m ((h12 m).2 (.inr (.inl rfl)))
  have hac:a < c:=hF a ((h12 a).2 (.inr (.inr (.inl rfl))))
  have hGc:∀ z,G z->z < c:=fun z hz=>hF z ((h12 z).2 (.inr (.inr (.inr hz))))
  have hmx:m≠x:=lX h1 h3
  have e1:bump true N x=put N x (.node a ids.length m (((ids.length+szK k:Nat):Int)+1) []):=iT h1
  have ec:chN true ⟨N,c,x⟩ (b::t)=chN true (stN true ⟨put N x (.node a ids.length m (((ids.length+szK k:Nat):Int)+1) []),c,x⟩ b) t:=by show chN true (stN true ⟨bump true N x,c,x⟩ b) t=_; rw [e1]
  generalize hN1:put N x (.node a ids.length m (((ids.length+szK k:Nat):Int)+1) [])=N1 at ec
  have n1x:N1 x=.node a ids.length m (((ids.length+szK k:Nat):Int)+1) []:=by rw [<- hN1,bL]
  have n1o:∀ z,z≠x->N1 z=N z:=fun z hz=>by rw [<- hN1,aG hz]
  have n1m:N1 m=.map l q:=(n1o m hmx).trans h3
  have hkd:rX N1 x b=(mget l (dC b)).map (·.1):=kJ n1x n1m b
  have hsz:=nS (i:=i) (b::t) w'
  cases hg:cC k b with
  | some s =>
   obtain ⟨u,τ,G1,G2,j1,j2,j3,j4,j5,_⟩:=jX h6 hg w.2.1
   have hus:isNode N1 u/\szN N1 u+dv true≠0:=by
    obtain ⟨ids',k'⟩:=s
    have j2':=j2
    simp only [dG] at j2'
    obtain ⟨a',m',mk',l',q',G',i1,_,_,_,_,_,_,_,_,_,_,i12⟩:=j2'
    have:N1 u=N u:=n1o u fun e=>h9 ((j4 x).2 (.inl ((i12 x).2 (.inl e.symm))))
    rw [i1] at this
    refine ⟨⟨_,_,_,_,_,this⟩,?_⟩
    rw [Cx this]
    show _+(1:Int)≠0
    omega
   have est:stN true ⟨N1,c,x⟩ b=⟨N1,c,u⟩:=by
    unfold stN
    simp only [hkd,j1,Option.map_some,if_neg hus.2]
   rw [est] at ec
   have r1:dG D N1 s u G1:=gE j2 fun z hz=>n1o z fun e=>h9 ((j4 x).2 (.inl (e ▸ hz)))
   obtain ⟨ih1,ih2⟩:=tW t (N:=N1) (c:=c) (x:=u) (T:=s) (F:=G1) r1 (fun z hz=>hGc z ((j4 z).2 (.inl hz))) (fun z hz=>(n1o z (by omega)).trans (h0 z hz)) (iA hg w.2.2).1
   refine ⟨?_,?_⟩
   ·rw [ec,ih1,rC]
    simp only [Ix,hg,Option.getD_some]
   ·intro y hy
    rw [ec] at hy
    obtain ⟨F1,p⟩:=ih2 y hy
    have n'o:∀ z,¬ G1 z->z < c->dQ true (chN true ⟨N1,c,u⟩ t).N (chN true ⟨N1,c,u⟩ t).x y i z=N1 z:=p.old
    have hG1x:∀ z,(z=x\/z=m\/z=a)->¬ G1 z:=by
     rintro z (rfl|rfl|rfl) hz
     ·exact h9 ((j4 _).2 (.inl hz))
     ·exact h10 ((j4 _).2 (.inl hz))
     ·exact h11 ((j4 _).2 (.inl hz))
    refine ⟨fun z=>z=x\/z=m\/z=a\/(F1 z\/G2 z),?_⟩
    have hF1:∀ z,F1 z->G1 z\/c<=z:=fun z hz=>(p.new z hz).imp id And.left
    refine ⟨?_,?_,?_,?_,?_⟩
    ·rw [ec]
     simp only [fX,hg,Option.getD_some,dG]
     refine ⟨a,m,[],l,q,fun z=>F1 z\/G2 z,?_,?_,(n'o m (hG1x m (.inr (.inl rfl))) hmc).trans n1m,.inl rfl,?_,?_,h7,h8,?_,?_,?_,fun _=>Iff.rfl⟩
     ·rw [n'o x (hG1x x (.inl rfl)) hxc,n1x]
      have h:=vP (s':=fX i t s) hg w.2.1
      have h2:=nS (i:=i) t (iA hg w.2.2).1
      have:((ids.length+szK k:Nat):Int)+1=((ids.length+szK (fA k b (fX i t s)):Nat):Int):=by omega
      rw [this]
     ·rw [n'o a (hG1x a (.inr (.inr rfl))) hac,n1o a h7]
      exact h2
     ·rw [yJ hg w.2.1]; exact h5
     ·refine j5 _ _ F1 p.rep (fun z hz h'=>?_) (fun z hz=>?_)
      ·rcases hF1 z hz with h1|h1
       ·exact j3 z h1 h'
       ·have:=hGc z ((j4 z).2 (.inr h')); omega
      ·exact (n'o z (fun h'=>j3 z h' hz) (hGc z ((j4 z).2 (.inr hz)))).trans (n1o z fun e=>h9 ((j4 x).2 (.inr (e ▸ hz))))
     ·rintro (h|h)
      ·rcases hF1 x h with h|h
       ·exact hG1x x (.inl rfl) h
       ·omega
      ·exact h9 ((j4 x).2 (.inr h))
     ·rintro (h|h)
      ·rcases hF1 m h with h|h
       ·exact hG1x m (.inr (.inl rfl)) h
       ·omega
      ·exact h10 ((j4 m).2 (.inr h))
     ·rintro (h|h)
      ·rcases hF1 a h with h|h
       ·exact hG1x a (.inr (.inr rfl)) h
       ·omega
      ·exact h11 ((j4 a).2 (.inr h))
    ·rw [ec]
     rintro z (h|h|h|h|h)
     ·exact .inl ((h12 z).2 (.inl h))
     ·exact .inl ((h12 z).2 (.inr (.inl h)))
     ·exact .inl ((h12 z).2 (.inr (.inr (.inl h))))
     ·rcases p.new z h with h|h
      ·exact .inl ((h12 z).2 (.inr (.inr (.inr ((j4 z).2 (.inl h))))))
      ·exact .inr h
     ·exact .inl ((h12 z).2 (.inr (.inr (.inr ((j4 z).2 (.inr h))))))
    ·rw [ec]
     intro z hz hc
     rw [n'o z (fun h=>hz ((h12 z).2 (.inr (.inr (.inr ((j4 z).2 (.inl h))))))) hc]
     exact n1o z fun e=>hz ((h12 z).2 (.inl e))
    ·rw [ec]; exact p.free
    ·rw [ec]; exact p.le
  | none =>
   have hb:b ∉ aP k:=fun h=>by obtain ⟨s,e⟩:=rU h; rw [hg] at e; cases e
   have hbl:dC b ∉ l.map (·.1):=fun h=>by
    obtain ⟨x,hx,e⟩:=List.mem_map.1 (h5.mem_iff.1 h)
    exact hb (qO e ▸ hx)
   have hno:=sA hbl
   have est:stN true ⟨N1,c,x⟩ b=⟨put (eV N1 c) m (.map (l++[(dC b,c+1,q)]) (q+1)),c+3,c+1⟩:=by
    unfold stN
    simp only [hkd,hno,Option.map_none,nZ n1x n1m]
   rw [est] at ec
   generalize hN2:put (eV N1 c) m (.map (l++[(dC b,c+1,q)]) (q+1))=N2 at ec
   have n2o:∀ z,z≠m->z < c->N2 z=N1 z:=fun z hz hc=>by rw [<- hN2,aG hz,oG hc]
   have n2m:N2 m=.map (l++[(dC b,c+1,q)]) (q+1):=by rw [<- hN2,bL]
   have n2c:N2 c=.map [] 0:=by rw [<- hN2,aG (by omega)]; unfold eV; rw [aG (by omega),bL]
   have n2n:N2 (c+1)=.node (c+2) 0 c 0 []:=by rw [<- hN2,aG (by omega)]; exact qV
   have n2f:∀ z,c+2<=z->N2 z=.none:=fun z hz=>by
    rw [<- hN2,aG (by omega)]
    unfold eV
    rw [aG (by omega),aG (by omega),n1o z (by omega)]
    exact h0 z (by omega)
   have r1:dG D N2 emp (c+1) (fun z=>z=c+1\/z=c\/z=c+2\/False):=by
    simp only [emp,dG]
    refine ⟨c+2,c,[],[],0,fun _=>False,n2n,.inl ⟨n2f _ (by omega),trivial⟩,n2c,.inl rfl,.refl _,?_,by omega,by omega,id,id,id,fun _=>Iff.rfl⟩
    simp only [fC]
    exact fun _ h=>h
   obtain ⟨ih1,ih2⟩:=tW t (N:=N2) (c:=c+3) (x:=c+1) (T:=emp) r1 (fun z hz=>by rcases hz with h|h|h|h <;> first|omega|exact h.elim) (fun z hz=>n2f z (by omega)) sM
   refine ⟨?_,?_⟩
   ·rw [ec,ih1,rC]
    simp only [Ix,hg,Option.getD_none]
   ·intro y hy
    rw [ec] at hy
    obtain ⟨F1,p⟩:=ih2 y hy
    have n'o:∀ z,z < c->dQ true (chN true ⟨N2,c+3,c+1⟩ t).N (chN true ⟨N2,c+3,c+1⟩ t).x y i z=N2 z:=fun z hz=>p.old z (by rintro (h|h|h|h) <;> first|omega|exact h) (by omega)
    have hF1:∀ z,F1 z->c<=z:=fun z hz=>by
     rcases p.new z hz with h|h
     ·rcases h with h|h|h|h <;> first|omega|exact h.elim
     ·omega
    have hF2:∀ z,F1 z->c<=z/\z < (chN true ⟨N2,c+3,c+1⟩ t).c+1:=fun z hz=>by
     have:=p.le
     rcases p.new z hz with h|h
     ·rcases h with h|h|h|h <;> first|omega|exact h.elim
     ·omega
    have hl1:mget (l++[(dC b,c+1,q)]) (dC b)=some (c+1,q):=by rw [B0,hno]; simp
    have hl2:∀ z,z≠b->mget (l++[(dC b,c+1,q)]) (dC z)=mget l (dC z):=fun z hz=>by
     rw [B0]
     cases mget l (dC z) with
     | some e=>rfl
     | none=>simp only; rw [if_neg fun e=>hz (qO e).symm]
    refine ⟨fun z=>z=x\/z=m\/z=a\/(F1 z\/G z),?_⟩
    refine ⟨?_,?_,?_,?_,?_⟩
    ·rw [ec]
     simp only [fX,hg,Option.getD_none,dG]
     refine ⟨a,m,[],_,_,fun z=>F1 z\/G z,?_,?_,(n'o m hmc).trans n2m,.inl rfl,?_,Cj hl1 hl2 p.rep h6 hb (fun z hz h'=>?_) (fun z hz=>?_),h7,h8,?_,?_,?_,fun _=>Iff.rfl⟩
     ·rw [n'o x hxc,n2o x (Ne.symm hmx) hxc,n1x]
      have h2:=nS (i:=i) t sM
      have h3:=F8 (s':=fX i t emp) hb
      have h4:szT emp=0:=rfl
      have:((ids.length+szK k:Nat):Int)+1=((ids.length+szK (fA k b (fX i t emp)):Nat):Int):=by omega
      rw [this]
     ·rw [n'o a hac,n2o a h8 hac,n1o a h7]
      exact h2
     ·rw [List.map_append]
      refine .trans ?_ ((Gj (s':=fX i t emp) hb).symm.map dC)
      simp only [List.map_cons,List.map_nil]
      exact (List.perm_append_comm).trans (h5.cons _)
     ·have:=hGc z h'
      have:=hF1 z hz
      omega
     ·have hzc:=hGc z hz
      rw [n'o z hzc,n2o z (fun e=>h10 (e ▸ hz)) hzc]
      exact n1o z fun e=>h9 (e ▸ hz)
     ·rintro (h|h)
      ·have:=hF1 x h; omega
      ·exact h9 h
     ·rintro (h|h)
      ·have:=hF1 m h; omega
      ·exact h10 h
     ·rintro (h|h)
      ·have:=hF1 a h; omega
      ·exact h11 h
    ·rw [ec]
     rintro z (h|h|h|h|h)
     ·exact .inl ((h12 z).2 (.inl h))
     ·exact .inl ((h12 z).2 (.inr (.inl h)))
     ·exact .inl ((h12 z).2 (.inr (.inr (.inl h))))
     ·exact .inr (hF2 z h)
     ·exact .inl ((h12 z).2 (.inr (.inr (.inr h))))
    ·rw [ec]
     intro z hz hc
     rw [n'o z hc,n2o z (fun e=>hz ((h12 z).2 (.inr (.inl e)))) hc]
     exact n1o z fun e=>hz ((h12 z).2 (.inl e))
    ·rw [ec]; exact p.free
    ·rw [ec]; have:=p.le; omega
end T15
end
section
open Go Go.Eng Go.Proofs T1 T2 T3 T4 T5 T6 T7 T8 T9 T10 T11 T12 T13 T14 T15
set_option maxRecDepth 100000
namespace T16
theorem Hi {l:List B} (h:Srt l) {i:B} (hi:i∈l):(vK l i).length+1=l.length:=by
 have:=((tV h i).1 hi).1
 unfold vK
 simp
 omega
theorem Qa {l:List B} (h:Srt l) (i:B):Srt (vK l i):=by
 unfold vK
 rw [<- List.eraseIdx_eq_take_drop_succ]
 exact h.sublist (List.eraseIdx_sublist _ _)
theorem Gk {b:UInt8} {s:TT}:∀ {k:TK},cC k b=some s->(aP k).Perm (b::aP (mC k b))
 | .nil,h=>by cases h
 | .cons x t r,h=>by
  simp only [cC] at h
  simp only [mC]
  by_cases e:x=b
  ·rw [if_pos e]; subst e; exact .refl _
  ·rw [if_neg e] at h ⊢
   exact ((Gk h).cons x).trans (.swap _ _ _)
theorem He {b y:UInt8}:∀ {k:TK},y∈aP (mC k b)->y∈aP k
 | .nil,h=>h
 | .cons x t r,h=>by
  simp only [mC] at h
  split at h
  ·exact List.mem_cons_of_mem _ h
  ·rcases List.mem_cons.1 h with h|h
   ·rw [h]; exact List.mem_cons_self
   ·exact List.mem_cons_of_mem _ (He h)
theorem M5 {b:UInt8}:∀ {k:TK},Sb (aP k)->Sb (aP (mC k b))
 | .nil,h=>h
 | .cons x t r,h=>by
  have h':=List.pairwise_cons.1 h
  simp only [mC]
  split
  ·exact h'.2
  ·exact List.pairwise_cons.2 ⟨fun y hy=>h'.1 y (He hy),M5 h'.2⟩
theorem Ao {b:UInt8} {s:TT}:∀ {k:TK},cC k b=some s->szK (mC k b)+szT s=szK k
 | .nil,h=>by cases h
 | .cons x t r,h=>by
  simp only [cC] at h
  simp only [mC]
  by_cases e:x=b
  ·rw [if_pos e] at h ⊢; cases h; simp only [szK]; omega
  ·rw [if_neg e] at h ⊢
   have:=Ao h
   simp only [szK]; omega
theorem Gz {b:UInt8}:∀ {k:TK},Sb (aP k)->∀ y,cC (mC k b) y=if y=b then none else cC k y
 | .nil,_,y=>by simp [mC,cC]
 | .cons x t r,h,y=>by
  have h':=List.pairwise_cons.1 h
  simp only [mC]
  by_cases e:x=b
  ·subst e
   rw [if_pos rfl]
   simp only [cC]
   by_cases ey:y=x
   ·subst ey
    rw [if_pos rfl]
    exact rT fun hm=>UInt8.lt_irrefl _ (h'.1 _ hm)
   ·rw [if_neg ey,if_neg (show ¬ x=y from fun h=>ey h.symm)]
  ·rw [if_neg e]
   simp only [cC]
   rw [Gz h'.2]
   by_cases ey:x=y
   ·subst ey; rw [if_pos rfl,if_neg e,if_pos rfl]
   ·rw [if_neg ey,if_neg ey]
theorem Nw {b:UInt8}:∀ {k:TK},wfK k->wfK (mC k b)
 | .nil,h=>h
 | .cons x t r,w=>by
  simp only [wfK] at w
  simp only [mC]
  split
  ·exact w.2.2
  ·simp only [wfK]; exact ⟨w.1,w.2.1,Nw w.2.2⟩
theorem mem_cons {t:B} {i:B} {b:UInt8} {ids:List B} {k:TK} (h:eB (b::t) i (.node ids k)):∃ s,cC k b=some s/\eB t i s:=by
 obtain ⟨s,e,hi⟩:=h
 simp only [cL] at e
 cases hg:cC k b with
 | none=>rw [hg] at e; cases e
 | some s'=>rw [hg] at e; exact ⟨s',rfl,s,e,hi⟩
theorem sL {i:B}:∀ (t:B) {T:TT},wfT T->eB t i T->szT (jL i t T)+1=szT T
 | [],.node ids k,w,h=>by
  simp only [wfT] at w
  obtain ⟨s,e,hi⟩:=h
  cases e
  have:=Hi w.1 hi
  simp only [jL,szT]; omega
 | b::t,.node ids k,w,h=>by
  simp only [wfT] at w
  obtain ⟨s,hg,hm⟩:=mem_cons h
  have ih:=sL t (iA hg w.2.2).1 hm
  simp only [jL,hg]
  split
  ·have:=Ao hg
   simp only [szT]; omega
  ·have:=vP (s':=jL i t s) hg w.2.1
   simp only [szT]; omega
theorem Nu {i:B}:∀ (t:B) {T:TT},wfT T->eB t i T->wfT (jL i t T)
 | [],.node ids k,w,h=>by
  simp only [wfT] at w
  simp only [jL,wfT]
  exact ⟨Qa w.1 i,w.2⟩
 | b::t,.node ids k,w,h=>by
  simp only [wfT] at w
  obtain ⟨s,hg,hm⟩:=mem_cons h
  have hs:=iA hg w.2.2
  have ih:=Nu t hs.1 hm
  have hz:=sL t hs.1 hm
  simp only [jL,hg]
  split
  ·simp only [wfT]; exact ⟨w.1,M5 w.2.1,Nw w.2.2⟩
  ·rename_i hne
   simp only [wfT]
   refine ⟨w.1,Fm w.2.1,wf_set ih ?_ w.2.2⟩
   have:=hs.2
   omega
theorem I3 {V:Type} {l:List (aH×V×Nat)} {k y:aH} (h:y≠k):mget (mdel l k) y=mget l y:=by
 induction l with
 | nil=>rfl
 | cons x r ih =>
  simp only [mdel]
  split
  ·rename_i e
   simp only [mget]
   rw [if_neg (fun e'=>h (e'.symm.trans e))]
  ·simp only [mget]
   rw [ih]
theorem I2 {V:Type} {l:List (aH×V×Nat)} {k:aH} {e:V×Nat} (h:mget l k=some e):(l.map (·.1)).Perm (k::(mdel l k).map (·.1)):=by
 induction l with
 | nil=>cases h
 | cons x r ih =>
  simp only [mget] at h
  simp only [mdel]
  split
  ·rename_i e'
   simp only [List.map_cons,e']
   exact .refl _
  ·rename_i e'
   rw [if_neg e'] at h
   simp only [List.map_cons]
   exact ((ih h).cons x.1).trans (.swap _ _ _)
structure Ui (D:Dg) (i:B) (t:B) (N:Nat->NO) (c x:Nat) (T:TT) (F:Nat->Prop) (F':Nat->Prop):Prop where
 rep:dG D (dQ false (chN false ⟨N,c,x⟩ t).N (chN false ⟨N,c,x⟩ t).x 0 i) (jL i t T) x F'
 new:∀ z,F' z->F z
 old:∀ z,¬ F z->dQ false (chN false ⟨N,c,x⟩ t).N (chN false ⟨N,c,x⟩ t).x 0 i z=N z
 ids:iY (chN false ⟨N,c,x⟩ t).N (chN false ⟨N,c,x⟩ t).x=tI ((cL t T).getD emp)
 c:(chN false ⟨N,c,x⟩ t).c=c
theorem qE {D:Dg} {i:B}:∀ (t:B) {N:Nat->NO} {c x:Nat} {T:TT} {F:Nat->Prop},dG D N T x F->wfT T->eB t i T->∃ F',Ui D i t N c x T F F'
 | [],N,c,x,.node ids k,F,h,w,hm=>by
  simp only [dG] at h
  obtain ⟨a,m,mk,l,q,G,h1,h2,h3,h4,h5,h6,h7,h8,h9,h10,h11,h12⟩:=h
  simp only [wfT] at w
  have hi:i∈ids:=by obtain ⟨s,e,hi⟩:=hm; cases e; exact hi
  have hmx:m≠x:=lX h1 h3
  have e1:bump false N x=put N x (.node a ids.length m (((ids.length+szK k:Nat):Int)+-1) []):=iT h1
  have ec:chN false ⟨N,c,x⟩ []=⟨put N x (.node a ids.length m (((ids.length+szK k:Nat):Int)+-1) []),c,x⟩:=by show CS.mk _ _ _=_; rw [e1]
  generalize hN1:put N x (.node a ids.length m (((ids.length+szK k:Nat):Int)+-1) [])=N1 at ec
  have n1x:N1 x=.node a ids.length m (((ids.length+szK k:Nat):Int)+-1) []:=by rw [<- hN1,bL]
  have n1o:∀ z,z≠x->N1 z=N z:=fun z hz=>by rw [<- hN1,aG hz]
  have ha:=yC h2
  have hla:cQ N1 a ids.length=ids:=by have h:=ha.1; simp only [cQ,n1o a h7] at h ⊢; exact h
  have haa:(cE N1 a).take ids.length=ids:=by have h:=ha.2; simp only [cE,n1o a h7] at h ⊢; exact h
  have hsx:(chN false ⟨N,c,x⟩ []).x=x:=by rw [ec]
  have hsN:(chN false ⟨N,c,x⟩ []).N=N1:=by rw [ec]
  have hL:qC (cE N1 a) ids.length (bK (cQ N1 a ids.length) i)=vK ids i++[[]]:=by
   rw [hla]
   unfold qC vK
   rw [haa]
  have ee:dQ false N1 x 0 i=put (put N1 a (.arr (vK ids i++[[]]))) x (.node a (ids.length - 1) m (((ids.length+szK k:Nat):Int)+-1) []):=by
   simp only [dQ,n1x,hL,cond_false]
  have hlen:=Hi w.1 hi
  generalize hLL:vK ids i=L at ee hlen
  have rx:dQ false N1 x 0 i x=.node a L.length m (((L.length+szK k:Nat):Int)) []:=by
   rw [ee,bL,<- hlen]
   have:((L.length+szK k:Nat):Int)=((L.length+1+szK k:Nat):Int)+-1:=by omega
   rw [this]
   rfl
  have ra:dQ false N1 x 0 i a=.arr (L++[[]]):=by rw [ee,aG h7,bL]
  have ro:∀ z,z≠x->z≠a->dQ false N1 x 0 i z=N z:=fun z hx hy=>by rw [ee,aG hx,aG hy,n1o z hx]
  refine ⟨fun z=>z=x\/z=m\/z=a\/G z,?_,?_,?_,?_,?_⟩
  ·rw [hsx,hsN]
   simp only [jL,hLL,dG]
   refine ⟨a,m,[],l,q,G,rx,.inr ⟨L++[[]],ra,by simp,by simp,by simp⟩,(ro m hmx (Ne.symm h8)).trans h3,.inl rfl,h5,fK h6 fun z hz=>ro z (fun e=>h9 (e ▸ hz)) (fun e=>h11 (e ▸ hz)),h7,h8,h9,h10,h11,fun _=>Iff.rfl⟩
  ·exact fun z hz=>(h12 z).2 hz
  ·rw [hsx,hsN]
   exact fun z hz=>ro z (fun e=>hz ((h12 z).2 (.inl e))) (fun e=>hz ((h12 z).2 (.inr (.inr (.inl e)))))
  ·rw [hsx,hsN,lV n1x,hla]; rfl
  ·rw [ec]
 | b::t,N,c,x,.node ids k,F,h,w,hm=>by
  simp only [dG] at h
  obtain ⟨a,m,mk,l,q,G,h1,h2,h3,h4,h5,h6,h7,h8,h9,h10,h11,h12⟩:=h
  simp only [wfT] at w
  obtain ⟨s,hg,hms⟩:=mem_cons hm
  have hmx:m≠x:=lX h1 h3
  have e1:bump false N x=put N x (.node a ids.length m (((ids.length+szK k:Nat):Int)+-1) []):=iT h1
  have ec:chN false ⟨N,c,x⟩ (b::t)=chN false (stN false ⟨put N x (.node a ids.length m (((ids.length+szK k:Nat):Int)+-1) []),c,x⟩ b) t:=by show chN false (stN false ⟨bump false N x,c,x⟩ b) t=_; rw [e1]
  generalize hN1:put N x (.node a ids.length m (((ids.length+szK k:Nat):Int)+-1) [])=N1 at ec
  have n1x:N1 x=.node a ids.length m (((ids.length+szK k:Nat):Int)+-1) []:=by rw [<- hN1,bL]
  have n1o:∀ z,z≠x->N1 z=N z:=fun z hz=>by rw [<- hN1,aG hz]
  have n1m:N1 m=.map l q:=(n1o m hmx).trans h3
  have hkd:rX N1 x b=(mget l (dC b)).map (·.1):=kJ n1x n1m b
  have hw:=iA hg w.2.2
  have hsz:=sL t hw.1 hms
  obtain ⟨u,τ,G1,G2,j1,j2,j3,j4,j5,j6⟩:=jX h6 hg w.2.1
  have hus:isNode N1 u/\szN N1 u=((szT s:Nat):Int):=by
   obtain ⟨ids',k'⟩:=s
   have j2':=j2
   simp only [dG] at j2'
   obtain ⟨a',m',mk',l',q',G',i1,_,_,_,_,_,_,_,_,_,_,i12⟩:=j2'
   have:N1 u=N u:=n1o u fun e=>h9 ((j4 x).2 (.inl ((i12 x).2 (.inl e.symm))))
   rw [i1] at this
   exact ⟨⟨_,_,_,_,_,this⟩,by rw [Cx this]; simp only [szT]⟩
  have hG1:∀ z,(z=x\/z=m\/z=a)->¬ G1 z:=by
   rintro z (rfl|rfl|rfl) hz
   ·exact h9 ((j4 _).2 (.inl hz))
   ·exact h10 ((j4 _).2 (.inl hz))
   ·exact h11 ((j4 _).2 (.inl hz))
  have r1:dG D N1 s u G1:=gE j2 fun z hz=>n1o z fun e=>h9 ((j4 x).2 (.inl (e ▸ hz)))
  by_cases h0:szT s=1
  ·have est:stN false ⟨N1,c,x⟩ b=⟨put N1 m (.map (mdel l (dC b)) q),c,u⟩:=by
    unfold stN
    have:szN N1 u+dv false=0:=by rw [hus.2,h0]; rfl
    simp only [hkd,j1,Option.map_some,if_pos this,rL n1x n1m]
   rw [est] at ec
   generalize hN2:put N1 m (.map (mdel l (dC b)) q)=N2 at ec
   have n2m:N2 m=.map (mdel l (dC b)) q:=by rw [<- hN2,bL]
   have n2o:∀ z,z≠m->N2 z=N1 z:=fun z hz=>by rw [<- hN2,aG hz]
   have r2:dG D N2 s u G1:=gE r1 fun z hz=>n2o z fun e=>hG1 m (.inr (.inl rfl)) (e ▸ hz)
   obtain ⟨F1,p⟩:=qE t (N:=N2) (c:=c) (x:=u) (F:=G1) r2 hw.1 hms
   have n'o:=p.old
   refine ⟨fun z=>z=x\/z=m\/z=a\/G2 z,?_,?_,?_,?_,?_⟩
   ·rw [ec]
    simp only [jL,hg,if_pos h0,dG]
    refine ⟨a,m,[],_,_,G2,?_,?_,(n'o m (hG1 m (.inr (.inl rfl)))).trans n2m,.inl rfl,?_,j6 _ _ (fun z hz=>I3 fun e=>hz (qO e)) (fun z hz=>?_),h7,h8,fun h=>h9 ((j4 x).2 (.inr h)),fun h=>h10 ((j4 m).2 (.inr h)),fun h=>h11 ((j4 a).2 (.inr h)),fun _=>Iff.rfl⟩
    ·rw [n'o x (hG1 x (.inl rfl)),n2o x (Ne.symm hmx),n1x]
     have:=Ao hg
     have:((ids.length+szK k:Nat):Int)+-1=((ids.length+szK (mC k b):Nat):Int):=by omega
     rw [this]
    ·rw [n'o a (hG1 a (.inr (.inr rfl))),n2o a h8,n1o a h7]
     exact h2
    ·have e1:=I2 j1
     have e2:=(Gk hg).map dC
     simp only [List.map_cons] at e2
     exact (List.perm_cons _).1 ((e1.symm.trans h5).trans e2)
    ·have hz':¬ G1 z:=fun h'=>j3 z h' hz
     rw [n'o z hz',n2o z fun e=>h10 ((j4 m).2 (.inr (e ▸ hz)))]
     exact n1o z fun e=>h9 ((j4 x).2 (.inr (e ▸ hz)))
   ·rintro z (h|h|h|h)
    ·exact (h12 z).2 (.inl h)
    ·exact (h12 z).2 (.inr (.inl h))
    ·exact (h12 z).2 (.inr (.inr (.inl h)))
    ·exact (h12 z).2 (.inr (.inr (.inr ((j4 z).2 (.inr h)))))
   ·rw [ec]
    intro z hz
    rw [n'o z fun h=>hz ((h12 z).2 (.inr (.inr (.inr ((j4 z).2 (.inl h)))))),n2o z fun e=>hz ((h12 z).2 (.inr (.inl e)))]
    exact n1o z fun e=>hz ((h12 z).2 (.inl e))
   ·rw [ec,p.ids,rC]
    simp only [Ix,hg,Option.getD_some]
   ·rw [ec]; exact p.c
  ·have est:stN false ⟨N1,c,x⟩ b=⟨N1,c,u⟩:=by
    unfold stN
    have:¬ (szN N1 u+dv false=0):=by rw [hus.2]; show ¬ (_+(-1:Int)=0); omega
    simp only [hkd,j1,Option.map_some,if_neg this]
   rw [est] at ec
   obtain ⟨F1,p⟩:=qE t (N:=N1) (c:=c) (x:=u) (F:=G1) r1 hw.1 hms
   have n'o:=p.old
   refine ⟨fun z=>z=x\/z=m\/z=a\/(F1 z\/G2 z),?_,?_,?_,?_,?_⟩
   ·rw [ec]
    simp only [jL,hg,if_neg h0,dG]
    refine ⟨a,m,[],l,q,fun z=>F1 z\/G2 z,?_,?_,(n'o m (hG1 m (.inr (.inl rfl)))).trans n1m,.inl rfl,?_,j5 _ _ F1 p.rep (fun z hz h'=>j3 z (p.new z hz) h') (fun z hz=>?_),h7,h8,?_,?_,?_,fun _=>Iff.rfl⟩
    ·rw [n'o x (hG1 x (.inl rfl)),n1x]
     have:=vP (s':=jL i t s) hg w.2.1
     have:((ids.length+szK k:Nat):Int)+-1=((ids.length+szK (fA k b (jL i t s)):Nat):Int):=by omega
     rw [this]
    ·rw [n'o a (hG1 a (.inr (.inr rfl))),n1o a h7]
     exact h2
    ·rw [yJ hg w.2.1]; exact h5
    ·rw [n'o z fun h'=>j3 z h' hz]
     exact n1o z fun e=>h9 ((j4 x).2 (.inr (e ▸ hz)))
    ·rintro (h|h)
     ·exact hG1 x (.inl rfl) (p.new _ h)
     ·exact h9 ((j4 x).2 (.inr h))
    ·rintro (h|h)
     ·exact hG1 m (.inr (.inl rfl)) (p.new _ h)
     ·exact h10 ((j4 m).2 (.inr h))
    ·rintro (h|h)
     ·exact hG1 a (.inr (.inr rfl)) (p.new _ h)
     ·exact h11 ((j4 a).2 (.inr h))
   ·rintro z (h|h|h|h|h)
    ·exact (h12 z).2 (.inl h)
    ·exact (h12 z).2 (.inr (.inl h))
    ·exact (h12 z).2 (.inr (.inr (.inl h)))
    ·exact (h12 z).2 (.inr (.inr (.inr ((j4 z).2 (.inl (p.new z h))))))
    ·exact (h12 z).2 (.inr (.inr (.inr ((j4 z).2 (.inr h)))))
   ·rw [ec]
    intro z hz
    rw [n'o z fun h=>hz ((h12 z).2 (.inr (.inr (.inr ((j4 z).2 (.inl h))))))]
    exact n1o z fun e=>hz ((h12 z).2 (.inl e))
   ·rw [ec,p.ids,rC]
    simp only [Ix,hg,Option.getD_some]
   ·rw [ec]; exact p.c
end T16
end
section
open Go Go.Eng Go.Proofs T1 T2 T3 T4 T5 T6 T7 T8 T9 T10 T11 T12 T13 T14 T15 T16
set_option maxRecDepth 100000
namespace T17
theorem Kj {p:Bool}:∀ (t:B) {s:CS} {K:Int},T8.Ok s K->0<=K->T8.Ok (chN p s t) (K+(t.length:Int)+1)
 | [],s,K,h,_=>by
  have h1:=Ok.bump (p:=p) h
  have e:K+(([]:B).length:Int)+1=K+1:=by simp
  rw [e]
  exact h1
 | b::t,s,K,h,hK=>by
  have h1:=(Ok.bump (p:=p) h).step (p:=p) (by omega) b
  have:=Kj (p:=p) t h1 (by omega)
  have e:K+((b::t).length:Int)+1=K+1+(t.length:Int)+1:=by simp only [List.length_cons]; omega
  rw [e]
  exact this
theorem Cl.list {N:Nat->NO} {c c' x a n m y n':Nat} {sz:Int} {mk:B} {L:List B} (h:Cl N c) (hx:N x=.node a n m sz mk) (hy:(y=a/\∃ A,N a=.arr A)\/(y=c/\c < c')) (hc:c<=c') (hL:L≠[]) (hn:n'<=L.length) :
  Cl (put (put N y (.arr L)) x (.node y n' m sz mk)) c':=by
 have hxc:x < c:=h.lt (by rw [hx]; intro h; cases h)
 have hy1:y≠x:=by
  rcases hy with ⟨rfl,A,h'⟩|⟨rfl,_⟩
  ·rintro rfl; rw [h'] at hx; cases hx
  ·omega
 have hyc:y < c':=by
  rcases hy with ⟨rfl,A,h'⟩|⟨rfl,h'⟩
  ·have:=h.lim _ _ _ _ _ _ hx; omega
  ·exact h'
 have hym:∀ l q,N y≠.map l q:=by
  rcases hy with ⟨rfl,A,h'⟩|⟨rfl,_⟩
  ·intro l q; rw [h']; intro h; cases h
  ·intro l q; rw [h.free _ (Nat.le_refl _)]; intro h; cases h
 have hyn:∀ a n m sz mk,N y≠.node a n m sz mk:=by
  rcases hy with ⟨rfl,A,h'⟩|⟨rfl,_⟩
  ·intro a n m sz mk; rw [h']; intro h; cases h
  ·intro a n m sz mk; rw [h.free _ (Nat.le_refl _)]; intro h; cases h
 have oth:∀ z,z≠x->z≠y->put (put N y (.arr L)) x (.node y n' m sz mk) z=N z:=fun z h1 h2=>by rw [aG h1,aG h2]
 have atx:put (put N y (.arr L)) x (.node y n' m sz mk) x=.node y n' m sz mk:=bL _ _ _
 have aty:put (put N y (.arr L)) x (.node y n' m sz mk) y=.arr L:=by rw [aG hy1,bL]
 have cs:∀ {z:Nat} {o:NO},put (put N y (.arr L)) x (.node y n' m sz mk) z=o->(z=x/\o=.node y n' m sz mk)\/(z=y/\o=.arr L)\/(z≠x/\z≠y/\N z=o):=by
  intro z o e
  by_cases h1:z=x
  ·subst h1; rw [atx] at e; exact .inl ⟨rfl,e.symm⟩
  ·by_cases h2:z=y
   ·subst h2; rw [aty] at e; exact .inr (.inl ⟨rfl,e.symm⟩)
   ·rw [oth z h1 h2] at e; exact .inr (.inr ⟨h1,h2,e⟩)
 have nolist:∀ {i a' n1 m1 sz1 mk1},N i=.node a' n1 m1 sz1 mk1->i≠x->a'≠y:=by
  rintro i a' n1 m1 sz1 mk1 hi hne rfl
  rcases hy with ⟨rfl,_⟩|⟨rfl,_⟩
  ·exact hne (h.own _ _ _ _ _ _ _ _ _ _ _ hi hx)
  ·have:=h.lim _ _ _ _ _ _ hi; omega
 refine ⟨fun i hi=>?_,fun i a' n1 m1 sz1 mk1 hi=>?_,fun i l q hi e he=>?_,fun i a' n1 m1 sz1 mk1 hi=>?_,fun i a' n1 m1 sz1 mk1 hi=>?_,fun i j a' n1 m1 sz1 mk1 n2 m2 sz2 mk2 hi hj=>?_,fun i l q hi=>?_⟩
 ·rw [oth i (by omega) (by omega)]; exact h.free i (by omega)
 ·have key:∃ a n sz mk i,N i=.node a n m1 sz mk:=by
   rcases cs hi with ⟨rfl,k⟩|⟨_,k⟩|⟨_,_,k⟩
   ·cases k; exact ⟨_,_,_,_,_,hx⟩
   ·cases k
   ·exact ⟨_,_,_,_,_,k⟩
  obtain ⟨_,_,_,_,_,k⟩:=key
  obtain ⟨l,q,e⟩:=h.kids _ _ _ _ _ _ k
  exact ⟨l,q,by rw [oth _ (lX hx e) (fun h'=>hym l q (h' ▸ e))]; exact e⟩
 ·rcases cs hi with ⟨rfl,k⟩|⟨_,k⟩|⟨_,_,k⟩
  ·cases k
  ·cases k
  ·obtain ⟨h1,a2,n2,m2,s2,k2,h2⟩:=h.ent _ _ _ k e he
   refine ⟨h1,?_⟩
   by_cases hz:e.2.1=x
   ·rw [hz]; exact ⟨_,_,_,_,_,atx⟩
   ·exact ⟨_,_,_,_,_,by rw [oth _ hz (fun h'=>hyn _ _ _ _ _ (h' ▸ h2))]; exact h2⟩
 ·rcases cs hi with ⟨rfl,k⟩|⟨_,k⟩|⟨h1,_,k⟩
  ·cases k; exact .inr ⟨L,aty,hL,hn⟩
  ·cases k
  ·have hne:=nolist k h1
   have hnx:a'≠x:=by
    rintro rfl
    rcases h.lst _ _ _ _ _ _ k with ⟨e,_⟩|⟨A,e,_⟩ <;> rw [hx] at e <;> cases e
   rw [oth a' hnx hne]
   exact h.lst _ _ _ _ _ _ k
 ·rcases cs hi with ⟨rfl,k⟩|⟨_,k⟩|⟨h1,_,k⟩
  ·cases k; exact hyc
  ·cases k
  ·have:=h.lim _ _ _ _ _ _ k; omega
 ·rcases cs hi with ⟨h1,k⟩|⟨_,k⟩|⟨h1,_,k⟩
  ·cases k
   rcases cs hj with ⟨h2,k'⟩|⟨_,k'⟩|⟨h2,_,k'⟩
   ·rw [h1,h2]
   ·cases k'
   ·exact absurd rfl (nolist k' h2)
  ·cases k
  ·rcases cs hj with ⟨h2,k'⟩|⟨_,k'⟩|⟨h2,_,k'⟩
   ·cases k'; exact absurd rfl (nolist k h1)
   ·cases k'
   ·exact h.own _ _ _ _ _ _ _ _ _ _ _ k k'
 ·rcases cs hi with ⟨rfl,k⟩|⟨_,k⟩|⟨_,_,k⟩
  ·cases k
  ·cases k
  ·exact h.tick _ _ _ k
theorem Bd.list {N:Nat->NO} {x a n m y n':Nat} {sz K:Int} {mk:B} {L:List B} (h:Bd N K) (hx:N x=.node a n m sz mk):Bd (put (put N y (.arr L)) x (.node y n' m sz mk)) K:=by
 intro i a1 n1 m1 sz1 mk1 hi
 rcases bO hi with ⟨rfl,k⟩|⟨_,k⟩
 ·cases k; exact h _ _ _ _ _ _ hx
 ·rcases bO k with ⟨_,k⟩|⟨_,k⟩
  ·cases k
  ·exact h _ _ _ _ _ _ k
theorem Ou {s:CS} {K:Int} (h:T8.Ok s K) {y:Nat} {i:B} (hy:(y=zN s.N s.x/\cE s.N y≠[])\/y=s.c) (r:Nat) (hr:isNode s.N r):T8.Ok ⟨dQ true s.N s.x y i,s.c+1,r⟩ K:=by
 obtain ⟨a,n,m,sz,mk,e⟩:=h.nd
 have ee:dQ true s.N s.x y i=put (put s.N y (.arr (kC (cE s.N a) n (bK (cQ s.N a n) i) i))) s.x (.node y (n+1) m sz mk):=by simp only [dQ,e,cond_true]
 have hle:n<=(cE s.N a).length:=by
  rcases h.cl.lst _ _ _ _ _ _ e with ⟨_,h0⟩|⟨A,h0,_,h1⟩
  ·omega
  ·simp only [cE,h0]; exact h1
 have hp:bK (cQ s.N a n) i<=n:=by have:=qW (cQ s.N a n) i; rwa [jR (h.cl.lst _ _ _ _ _ _ e)] at this
 have hlen:=G5 (A:=cE s.N a) (v:=i) hp hle
 have hy':(y=a/\∃ A,s.N a=.arr A)\/(y=s.c/\s.c < s.c+1):=by
  rcases hy with ⟨h1,h2⟩|h1
  ·have:y=a:=by rw [h1]; simp only [zN,e]
   subst this
   refine .inl ⟨rfl,?_⟩
   rcases h.cl.lst _ _ _ _ _ _ e with ⟨h0,_⟩|⟨A,h0,_⟩
   ·simp [cE,h0] at h2
   ·exact ⟨A,h0⟩
  ·exact .inr ⟨h1,Nat.lt_succ_self _⟩
 refine ⟨?_,?_,?_⟩
 ·show Cl (dQ true s.N s.x y i) (s.c+1)
  rw [ee]
  exact Cl.list h.cl e hy' (Nat.le_succ _) (fun h0=>by rw [h0] at hlen; simp at hlen) (by rw [hlen]; exact Nat.le_refl _)
 ·show isNode (dQ true s.N s.x y i) r
  rw [ee]
  refine qY ⟨_,_,_,_,_,rfl⟩ ?_
  obtain ⟨a1,n1,m1,s1,k1,e1⟩:=hr
  refine ⟨a1,n1,m1,s1,k1,?_⟩
  rw [aG]
  ·exact e1
  ·rintro rfl
   rcases hy' with ⟨rfl,A,h0⟩|⟨h0,_⟩
   ·rw [h0] at e1; cases e1
   ·rw [h0,h.cl.free _ (Nat.le_refl _)] at e1; cases e1
 ·show Bd (dQ true s.N s.x y i) K
  rw [ee]
  exact Bd.list h.bd e
theorem Ku {s:CS} {K:Int} (h:T8.Ok s K) {i:B} (hi:i∈iY s.N s.x) (r:Nat) (hr:isNode s.N r):T8.Ok ⟨dQ false s.N s.x 0 i,s.c,r⟩ K:=by
 obtain ⟨a,n,m,sz,mk,e⟩:=h.nd
 rw [lV e] at hi
 have ee:dQ false s.N s.x 0 i=put (put s.N a (.arr (qC (cE s.N a) n (bK (cQ s.N a n) i)))) s.x (.node a (n - 1) m sz mk):=by simp only [dQ,e,cond_false]
 obtain ⟨A,hA,hA0,hA1⟩:∃ A,s.N a=.arr A/\A≠[]/\n<=A.length:=by
  rcases h.cl.lst _ _ _ _ _ _ e with ⟨h0,_⟩|h0
  ·simp [cQ,h0] at hi
  ·exact h0
 refine ⟨?_,?_,?_⟩
 ·show Cl (dQ false s.N s.x 0 i) s.c
  rw [ee]
  refine Cl.list h.cl e (.inl ⟨rfl,A,hA⟩) (Nat.le_refl _) (fun h0=>by simp [qC] at h0) ?_
  simp only [cE,hA,qC,List.length_append,List.length_take,List.length_drop,List.length_cons,List.length_nil]
  omega
 ·show isNode (dQ false s.N s.x 0 i) r
  rw [ee]
  refine qY ⟨_,_,_,_,_,rfl⟩ ?_
  obtain ⟨a1,n1,m1,s1,k1,e1⟩:=hr
  refine ⟨a1,n1,m1,s1,k1,?_⟩
  rw [aG]
  ·exact e1
  ·rintro rfl; rw [hA] at e1; cases e1
 ·show Bd (dQ false s.N s.x 0 i) K
  rw [ee]
  exact Bd.list h.bd e
theorem xJ {p:Bool} {N:Nat->NO} {x z:Nat} (h:isNode N z):isNode (bump p N x) z:=by
 unfold bump
 split
 ·exact qY ⟨_,_,_,_,_,rfl⟩ h
 ·exact h
theorem zU {p:Bool}:∀ (t:B) {s:CS} {K:Int},T8.Ok s K->0<=K->∀ {z:Nat},isNode s.N z->isNode (chN p s t).N z
 | [],s,K,h,_,z,hz=>xJ hz
 | b::t,s,K,h,hK,z,hz=>by
  have h0:=Ok.bump (p:=p) h
  refine zU (p:=p) t (h0.step (p:=p) (by omega) b) (by omega) ?_
  have hz':isNode (bump p s.N s.x) z:=xJ hz
  obtain ⟨a,n,m,sz,mk,(e:bump p s.N s.x s.x=.node a n m sz mk)⟩:=h0.nd
  obtain ⟨l,q,(hm:bump p s.N s.x m=.map l q)⟩:=h0.cl.kids _ _ _ _ _ _ e
  have hzc:z < s.c:=h0.cl.lt (by obtain ⟨_,_,_,_,_,e⟩:=hz'; show bump p s.N s.x z≠_; rw [e]; intro h; cases h)
  have mapped:∀ {M:Nat->NO} {l' q'},isNode M z->(∃ l q,M m=.map l q)->isNode (put M m (.map l' q')) z:=by
   rintro M l' q' ⟨a1,n1,m1,s1,k1,e1⟩ ⟨l,q,e2⟩
   exact ⟨a1,n1,m1,s1,k1,by rw [aG (fun h=>by rw [h,e2] at e1; cases e1)]; exact e1⟩
  unfold stN
  split
  ·show isNode (uL (bump p s.N s.x) s.c s.x b) z
   rw [nZ e hm]
   have hmc:m < s.c:=h0.cl.lt (by show bump p s.N s.x m≠_; rw [hm]; intro h; cases h)
   refine mapped ?_ ⟨l,q,(oG hmc).trans hm⟩
   obtain ⟨a1,n1,m1,s1,k1,e1⟩:=hz'
   exact ⟨a1,n1,m1,s1,k1,(oG hzc).trans e1⟩
  ·show isNode (if _ then _ else _) z
   split
   ·show isNode (Dq (bump p s.N s.x) s.x b) z
    rw [rL e hm]
    exact mapped hz' ⟨l,q,hm⟩
   ·exact hz'
theorem yD {D:Dg} {N:Nat->NO}:∀ (t:B) {T:TT} {x:Nat} {F:Nat->Prop},dG D N T x F->wfT T ->
  (∀ s,cL t T=some s->∃ v G,atN N x t=some v/\dG D N s v G)/\(cL t T=none->atN N x t=none)
 | [],T,x,F,h,_=>⟨fun s e=>(by cases e; exact ⟨x,F,rfl,h⟩),fun e=>(by cases e)⟩
 | b::t,.node ids k,x,F,h,w=>by
  simp only [dG] at h
  obtain ⟨a,m,mk,l,q,G,h1,_,h3,_,h5,h6,_⟩:=h
  simp only [wfT] at w
  have hkd:rX N x b=(mget l (dC b)).map (·.1):=kJ h1 h3 b
  simp only [cL,atN]
  cases hg:cC k b with
  | none =>
   have hb:b ∉ aP k:=fun h=>by obtain ⟨s,e⟩:=rU h; rw [hg] at e; cases e
   have hbl:dC b ∉ l.map (·.1):=fun h=>by
    obtain ⟨x,hx,e⟩:=List.mem_map.1 (h5.mem_iff.1 h)
    exact hb (qO e ▸ hx)
   rw [hkd,sA hbl]
   exact ⟨fun s e=>(by cases e),fun _=>rfl⟩
  | some s =>
   obtain ⟨u,τ,G1,G2,j1,j2,_⟩:=jX h6 hg w.2.1
   rw [hkd,j1]
   exact yD t j2 (iA hg w.2.2).1
theorem tQ {D:Dg} {N:Nat->NO} {T:TT} {v:Nat} {F:Nat->Prop} (h:dG D N T v F):iY N v=tI T/\szN N v=(szT T:Nat):=by
 obtain ⟨ids,k⟩:=T
 simp only [dG] at h
 obtain ⟨a,m,mk,l,q,G,h1,h2,_⟩:=h
 exact ⟨by rw [lV h1]; exact (yC h2).1,by rw [Cx h1]; simp only [szT]⟩
theorem vO:∀ (t:B) {T s:TT},cL t T=some s->(tI s).length<=szT T
 | [],.node ids k,s,e=>by cases e; simp only [tI,szT]; omega
 | b::t,.node ids k,s,e=>by
  simp only [cL] at e
  cases hg:cC k b with
  | none=>rw [hg] at e; cases e
  | some s' =>
   rw [hg] at e
   have h1:=vO t e
   have h2:∀ {k:TK},cC k b=some s'->szT s'<=szK k:=by
    intro k hk
    have:=Ao hk
    omega
   have:=h2 hg
   simp only [szT]; omega
theorem F6:∀ (t:B) {T s:TT},wfT T->cL t T=some s->wfT s
 | [],T,s,w,e=>by cases e; exact w
 | b::t,.node ids k,s,w,e=>by
  simp only [wfT] at w
  simp only [cL] at e
  cases hg:cC k b with
  | none=>rw [hg] at e; cases e
  | some s'=>rw [hg] at e; exact F6 t (iA hg w.2.2).1 e
theorem O5 {D:Dg} {N:Nat->NO} {t i:B} {T:TT} {x:Nat} {F:Nat->Prop} (h:dG D N T x F) (w:wfT T):oK N x t i=true ↔ eB t i T:=by
 obtain ⟨h1,h2⟩:=yD t h w
 unfold oK eB
 cases hs:cL t T with
 | none=>rw [h2 hs]; simp
 | some s =>
  obtain ⟨v,G,hv,hr⟩:=h1 s hs
  rw [hv]
  simp [(tQ hr).1]
end T17
end
