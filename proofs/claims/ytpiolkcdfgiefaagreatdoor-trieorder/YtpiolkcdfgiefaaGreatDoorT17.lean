/- A part of the proof. -/
import Derived.Test.YtpiolkcdfgiefaaGreatDoorT12
section
open Go Go.Eng Go.Proofs T1 T2 T3 T4 T5 T6 T7 T8 T9 T10 T11 T12
set_option maxRecDepth 100000
namespace T13
mutual
inductive TT where
 | node (ids:List B) (k:TK)
inductive TK where
 | nil
 | cons (b:UInt8) (t:TT) (r:TK)
end
abbrev Dg:=List B->List (UInt8×B)->B
mutual
def szT:TT->Nat
 | .node ids k=>ids.length+szK k
def szK:TK->Nat
 | .nil=>0
 | .cons _ t r=>szT t+szK r
end
mutual
def pH (D:Dg):TT->B
 | .node ids k=>D ids (Ag D k)
def Ag (D:Dg):TK->List (UInt8×B)
 | .nil=>[]
 | .cons b t r=>(b,pH D t)::Ag D r
end
def dF:TK->List UInt8
 | .nil=>[]
 | .cons b _ r=>b::dF r
def eW:TK->UInt8->Option TT
 | .nil,_=>none
 | .cons x t r,b=>if x=b then some t else eW r b
def lM:TK->UInt8->TT->TK
 | .nil,b,t=>.cons b t .nil
 | .cons x s r,b,t=>if x=b then .cons b t r else if b < x then .cons b t (.cons x s r) else .cons x s (lM r b t)
def rZ:TK->UInt8->TK
 | .nil,_=>.nil
 | .cons x s r,b=>if x=b then r else .cons x s (rZ r b)
def emp:TT:=.node [] .nil
def nG (i:B):B->TT->TT
 | [],.node ids k=>.node (pZ ids ids.length (eO ids i) i) k
 | b::t,.node ids k=>.node ids (lM k b (nG i t ((eW k b).getD emp)))
def Bf (ids:List B) (i:B):List B:=ids.take (eO ids i)++ids.drop (eO ids i+1)
def qV (i:B):B->TT->TT
 | [],.node ids k=>.node (Bf ids i) k
 | b::t,.node ids k =>
  match eW k b with
  | none=>.node ids k
  | some s=>if szT s=1 then .node ids (rZ k b) else .node ids (lM k b (qV i t s))
def gG:B->TT->Option TT
 | [],T=>some T
 | b::t,.node _ k=>(eW k b).bind (gG t)
def zI:TT->List B
 | .node ids _=>ids
def Sb (l:List UInt8):Prop:=l.Pairwise (· < ·)
mutual
def wfT:TT->Prop
 | .node ids k=>Srt ids/\Sb (dF k)/\wfK k
def wfK:TK->Prop
 | .nil=>True
 | .cons _ t r=>wfT t/\0 < szT t/\wfK r
end
mutual
def iM (D:Dg) (N:Nat->NO):TT->Nat->(Nat->Prop)->Prop
 | .node ids k,v,F=>∃ a m mk l q G,N v=.node a ids.length m ((ids.length+szK k:Nat):Int) mk /\
   ((N a=.none/\ids=[])\/∃ A,N a=.arr A/\A≠[]/\ids.length<=A.length/\A.take ids.length=ids)/\N m=.map l q/\(mk=[]\/mk=D ids (Ag D k)) /\
   (l.map (·.1)).Perm ((dF k).map iC)/\lO D N k l G/\a≠v/\a≠m/\¬ G v/\¬ G m/\¬ G a/\(∀ x,F x ↔ x=v\/x=m\/x=a\/G x)
def lO (D:Dg) (N:Nat->NO):TK->List (cC×Nat×Nat)->(Nat->Prop)->Prop
 | .nil,_,G=>∀ x,¬ G x
 | .cons b t r,l,G=>∃ u τ G1 G2,mget l (iC b)=some (u,τ)/\iM D N t u G1/\lO D N r l G2/\(∀ x,G1 x->¬ G2 x)/\(∀ x,G x ↔ G1 x\/G2 x)
end
mutual
theorem mZ {D:Dg} {N N':Nat->NO}:∀ {T:TT} {v:Nat} {F:Nat->Prop},iM D N T v F->(∀ x,F x->N' x=N x)->iM D N' T v F
 | .node ids k,v,F,h,e=>by
  simp only [iM] at h ⊢;obtain ⟨a,m,mk,l,q,G,h1,h2,h3,h4,h5,h6,h7,h8,h9,h10,h11,h12⟩:=h;have ev:=e v ((h12 v).2 (.inl rfl));have em:=e m ((h12 m).2 (.inr (.inl rfl)));have ea:=e a ((h12 a).2 (.inr (.inr (.inl rfl))));exact ⟨a,m,mk,l,q,G,ev.trans h1,by rw [ea]; exact h2,em.trans h3,h4,h5,mB h6 fun x hx=>e x ((h12 x).2 (.inr (.inr (.inr hx)))),h7,h8,h9,h10,h11,h12⟩
theorem mB {D:Dg} {N N':Nat->NO}:∀ {k:TK} {l:List (cC×Nat×Nat)} {G:Nat->Prop},lO D N k l G->(∀ x,G x->N' x=N x)->lO D N' k l G
 | .nil,l,G,h,e=>by
  simp only [lO] at h ⊢;exact h
 | .cons b t r,l,G,h,e=>by
  simp only [lO] at h ⊢;obtain ⟨u,τ,G1,G2,h1,h2,h3,h4,h5⟩:=h;exact ⟨u,τ,G1,G2,h1,mZ h2 fun x hx=>e x ((h5 x).2 (.inl hx)),mB h3 fun x hx=>e x ((h5 x).2 (.inr hx)),h4,h5⟩
end
theorem wO {a b:UInt8} (h:iC a=iC b):a=b:=by
 unfold iC at h;injection h with _ h;exact UInt8.toNat_inj.1 (by omega)
theorem Co {V:Type} {l:List (cC×V×Nat)} {k:cC} (h:k ∉ l.map (·.1)):mget l k=none:=by
 induction l with
 | nil=>rfl
 | cons x r ih =>
  simp only [bL,aI,not_or] at h;simp only [mget];rw [if_neg (fun e=>h.1 e.symm)];exact ih h.2
theorem qW {k:TK} {b:UInt8} (h:b ∉ dF k):eW k b=none:=by
 induction k using TK.rec (motive_1:=fun _=>True) with
 | node=>trivial
 | nil=>rfl
 | cons x t r _ ih =>
  simp only [dF,aI,not_or] at h;simp only [eW];rw [if_neg (fun e=>h.1 e.symm)];exact ih h.2
theorem xV {k:TK} {b:UInt8} (h:b∈dF k):∃ t,eW k b=some t:=by
 induction k using TK.rec (motive_1:=fun _=>True) with
 | node=>trivial
 | nil=>cases h
 | cons x t r _ ih =>
  simp only [eW];by_cases e:x=b
  ·rw [if_pos e]; exact ⟨_,rfl⟩
  ·rw [if_neg e];rcases aI.1 h with rfl|h
   ·exact absurd rfl e
   ·exact ih h
theorem pW {D:Dg} {N:Nat->NO} {b:UInt8} {s:TT}:∀ {k:TK} {l:List (cC×Nat×Nat)} {G:Nat->Prop},lO D N k l G->eW k b=some s->Sb (dF k) ->
  ∃ u τ G1 G2,mget l (iC b)=some (u,τ)/\iM D N s u G1/\(∀ x,G1 x->¬ G2 x)/\(∀ x,G x ↔ G1 x\/G2 x) /\
   (∀ N' s' G1',iM D N' s' u G1'->(∀ x,G1' x->¬ G2 x)->(∀ x,G2 x->N' x=N x)->lO D N' (lM k b s') l (fun x=>G1' x\/G2 x)) /\
   (∀ N' l',(∀ x,x≠b->mget l' (iC x)=mget l (iC x))->(∀ x,G2 x->N' x=N x)->lO D N' (rZ k b) l' G2)
 | .nil,_,_,_,h,_=>by cases h
 | .cons x t r,l,G,h,hg,hs=>by
  simp only [lO] at h;obtain ⟨u,τ,G1,G2,h1,h2,h3,h4,h5⟩:=h;simp only [eW] at hg;have hs':=bD.1 hs;by_cases e:x=b
  ·rw [if_pos e] at hg;cases hg;subst e;refine ⟨u,τ,G1,G2,h1,h2,h4,h5,?_,?_⟩
   ·intro N' s' G1' k1 k2 k3;simp only [lM,if_true,lO];exact ⟨u,τ,G1',G2,h1,k1,mB h3 k3,k2,fun _=>dP⟩
   ·intro N' l' k1 k2;simp only [rZ,if_true];refine repK_map (fun y hy=>k1 y ?_) (mB h3 k2);rintro rfl;exact absurd (hs'.1 _ hy) (eI _)
  ·rw [if_neg e] at hg;obtain ⟨v,σ,H1,H2,j1,j2,j3,j4,j5,j6⟩:=pW h3 hg hs'.2;have hlt:¬ b < x:=by
    intro hb;have hmem:b∈dF r:=by
     cases hm:decide (b∈dF r) with
     | true=>exact of_decide_eq_true hm
     | false=>rw [qW (of_decide_eq_false hm)] at hg; cases hg
    exact absurd (jZ (hs'.1 _ hmem) hb) (eI _)
   refine ⟨v,σ,H1,fun y=>G1 y\/H2 y,j1,j2,?_,?_,?_,?_⟩
   ·rintro y hy (h'|h')
    ·exact h4 y h' ((j4 y).2 (.inl hy))
    ·exact j3 y hy h'
   ·intro y;rw [h5,j4];constructor
    ·rintro (h|h|h)
     ·exact .inr (.inl h)
     ·exact .inl h
     ·exact .inr (.inr h)
    ·rintro (h|h|h)
     ·exact .inr (.inl h)
     ·exact .inl h
     ·exact .inr (.inr h)
   ·intro N' s' G1' k1 k2 k3;simp only [lM,if_neg e,if_neg hlt,lO];refine ⟨u,τ,G1,fun y=>G1' y\/H2 y,h1,mZ h2 fun y hy=>k3 y (.inl hy),j5 N' s' G1' k1 (fun y hy h'=>k2 y hy (.inr h')) (fun y hy=>k3 y (.inr hy)),?_,?_⟩
    ·rintro y hy (h'|h')
     ·exact k2 y h' (.inl hy)
     ·exact h4 y hy ((j4 y).2 (.inr h'))
    ·intro y;constructor
     ·rintro (h|h|h)
      ·exact .inr (.inl h)
      ·exact .inl h
      ·exact .inr (.inr h)
     ·rintro (h|h|h)
      ·exact .inr (.inl h)
      ·exact .inl h
      ·exact .inr (.inr h)
   ·intro N' l' k1 k2;simp only [rZ,if_neg e,lO];exact ⟨u,τ,G1,H2,(k1 x e).trans h1,mZ h2 fun y hy=>k2 y (.inl hy),j6 N' l' k1 fun y hy=>k2 y (.inr hy),fun y hy h'=>h4 y hy ((j4 y).2 (.inr h')),fun _=>dP⟩
where
 repK_map {D:Dg} {N:Nat->NO} {l l':List (cC×Nat×Nat)}:∀ {k:TK} {G:Nat->Prop},(∀ y,y∈dF k->mget l' (iC y)=mget l (iC y))->lO D N k l G->lO D N k l' G
  | .nil,G,_,h=>by simp only [lO] at h ⊢; exact h
  | .cons b t r,G,e,h=>by
   simp only [lO] at h ⊢;obtain ⟨u,τ,G1,G2,h1,h2,h3,h4,h5⟩:=h;exact ⟨u,τ,G1,G2,(e b aQ).trans h1,h2,repK_map (fun y hy=>e y (aK _ hy)) h3,h4,h5⟩
end T13
end
section
open Go Go.Eng Go.Proofs T1 T2 T3 T4 T5 T6 T7 T8 T9 T10 T11 T12 T13
set_option maxRecDepth 100000
namespace T14
theorem Ev {a b:UInt8} (h:a < b):¬ b < a:=fun k=>eI _ (jZ h k)
theorem Rn {a b:UInt8} (h:¬ a < b) (e:b≠a):b < a:=by
 rw [UInt8.lt_iff_toNat_lt] at h ⊢;have:b.toNat≠a.toNat:=fun h=>e (UInt8.toNat_inj.1 h);omega
theorem nK {k:TK} {b:UInt8} {s:TT} (h:eW k b=some s):b∈dF k:=by
 cases hm:decide (b∈dF k) with
 | true=>exact of_decide_eq_true hm
 | false=>rw [qW (of_decide_eq_false hm)] at h; cases h
theorem Dn {b:UInt8} {s s':TT}:∀ {k:TK},eW k b=some s->Sb (dF k)->dF (lM k b s')=dF k
 | .nil,h,_=>by cases h
 | .cons x t r,h,hs=>by
  have hs':=bD.1 hs;simp only [eW] at h;simp only [lM];by_cases e:x=b
  ·rw [if_pos e]; subst e; rfl
  ·rw [if_neg e] at h;rw [if_neg e,if_neg (Ev (hs'.1 _ (nK h)))];simp only [dF];rw [Dn h hs'.2]
theorem Lh {b:UInt8} {s':TT}:∀ {k:TK},b ∉ dF k->(dF (lM k b s')).Perm (b::dF k)
 | .nil,_=>by simp [lM,dF]
 | .cons x t r,h=>by
  simp only [dF,aI,not_or] at h;simp only [lM];rw [if_neg (fun e=>h.1 e.symm)];split
  ·exact .refl _
  ·simp only [dF];exact ((Lh h.2).cons x).trans (.swap _ _ _)
theorem mem_set {b y:UInt8} {s':TT}:∀ {k:TK},y∈dF (lM k b s')->y=b\/y∈dF k
 | .nil,h=>by simp [lM,dF] at h; exact .inl h
 | .cons x t r,h=>by
  simp only [lM] at h;split at h
  ·rename_i e;subst e;exact .inr h
  ·split at h
   ·rcases aI.1 h with h|h
    ·exact .inl h
    ·exact .inr h
   ·rcases aI.1 h with h|h
    ·exact .inr (by rw [h]; exact aQ)
    ·rcases mem_set h with h|h
     ·exact .inl h
     ·exact .inr (aK _ h)
theorem Kj {b:UInt8} {s':TT}:∀ {k:TK},Sb (dF k)->Sb (dF (lM k b s'))
 | .nil,_=>List.pairwise_singleton _ _
 | .cons x t r,h=>by
  have h':=bD.1 h;simp only [lM];split
  ·rename_i e;subst e;exact h
  ·rename_i e;split
   ·rename_i hb;refine bD.2 ⟨fun y hy=>?_,h⟩;rcases aI.1 hy with rfl|hy
    ·exact hb
    ·exact jZ hb (h'.1 y hy)
   ·rename_i hb;refine bD.2 ⟨fun y hy=>?_,Kj h'.2⟩;rcases mem_set hy with rfl|hy
    ·exact Rn hb e
    ·exact h'.1 y hy
theorem Bk {b:UInt8} {s s':TT}:∀ {k:TK},eW k b=some s->Sb (dF k)->szK (lM k b s')+szT s=szK k+szT s'
 | .nil,h,_=>by cases h
 | .cons x t r,h,hs=>by
  have hs':=bD.1 hs;simp only [eW] at h;simp only [lM];by_cases e:x=b
  ·rw [if_pos e] at h ⊢;cases h;simp only [szK];omega
  ·rw [if_neg e] at h;rw [if_neg e,if_neg (Ev (hs'.1 _ (nK h)))];simp only [szK];have:=Bk (s':=s') h hs'.2;omega
theorem Kx {b:UInt8} {s':TT}:∀ {k:TK},b ∉ dF k->szK (lM k b s')=szK k+szT s'
 | .nil,_=>by simp [lM,szK]
 | .cons x t r,h=>by
  simp only [dF,aI,not_or] at h;simp only [lM];rw [if_neg (fun e=>h.1 e.symm)];split
  ·simp only [szK]; omega
  ·simp only [szK];rw [Kx h.2]; omega
theorem Ee {b:UInt8} {s':TT}:∀ {k:TK},Sb (dF k)->∀ y,eW (lM k b s') y=if y=b then some s' else eW k y
 | .nil,_,y=>by
  simp only [lM,eW];by_cases e:b=y
  ·subst e; simp
  ·rw [if_neg e,if_neg (fun h=>e h.symm)]
 | .cons x t r,h,y=>by
  have h':=bD.1 h;simp only [lM];by_cases e:x=b
  ·subst e;rw [if_pos rfl];simp only [eW];by_cases ey:x=y
   ·subst ey; simp
   ·rw [if_neg ey,if_neg ey,if_neg (show ¬ y=x from fun h=>ey h.symm)]
  ·rw [if_neg e];split
   ·simp only [eW];by_cases ey:b=y
    ·subst ey; simp
    ·rw [if_neg ey,if_neg (show ¬ y=b from fun h=>ey h.symm)]
   ·simp only [eW];rw [Ee h'.2];by_cases ey:x=y
    ·subst ey; rw [if_pos rfl,if_neg e,if_pos rfl]
    ·rw [if_neg ey,if_neg ey]
theorem nW {b:UInt8} {s:TT}:∀ {k:TK},eW k b=some s->wfK k->wfT s/\0 < szT s
 | .nil,h,_=>by cases h
 | .cons x t r,h,w=>by
  simp only [wfK] at w;simp only [eW] at h;split at h
  ·cases h; exact ⟨w.1,w.2.1⟩
  ·exact nW h w.2.2
theorem wf_set {b:UInt8} {s':TT} (h1:wfT s') (h2:0 < szT s'):∀ {k:TK},wfK k->wfK (lM k b s')
 | .nil,_=>by simp only [lM,wfK]; exact ⟨h1,h2,trivial⟩
 | .cons x t r,w=>by
  simp only [wfK] at w;simp only [lM];split
  ·simp only [wfK]; exact ⟨h1,h2,w.2.2⟩
  ·split
   ·simp only [wfK]; exact ⟨h1,h2,w⟩
   ·simp only [wfK]; exact ⟨w.1,w.2.1,wf_set h1 h2 w.2.2⟩
theorem sB:wfT emp:=by simp only [emp,wfT,wfK,dF]; exact ⟨.nil,.nil,trivial⟩
theorem Ek (l:List B) (i:B):pZ l l.length (eO l i) i=l.take (eO l i)++i::l.drop (eO l i):=by unfold pZ; rw [eP]
theorem Gi (l:List B) (i:B):(pZ l l.length (eO l i) i).length=l.length+1:=by
 rw [Ek];have:=wY l i;simp;omega
theorem Vk {l:List B} (h:Srt l) {i:B} (hi:i ∉ l):Srt (pZ l l.length (eO l i) i):=by
 rw [Ek];have hp:=wY l i;refine kN.2 ⟨h.sublist (List.take_sublist _ _),bD.2 ⟨fun y hy=>?_,h.sublist (List.drop_sublist _ _)⟩,fun x hx y hy=>?_⟩
 ·obtain ⟨j,hj,e⟩:=cU hy;rw [gC] at e;have hj':eO l i+j < l.length:=by simp at hj; omega
  have h1:¬ (bl (l.getD (eO l i+j) []) i=true):=fun h'=>by have:=(uE h i hj').1 h'; omega
  have e':l.getD (eO l i+j) []=y:=by simp [hj',e]
  rw [e'] at h1;cases h2:bl i y with
  | true=>rfl
  | false =>
   have:=Xg (iE.2 h1) h2;subst this;exact absurd (List.mem_of_mem_drop hy) hi
 ·have hx1:bl x i=true:=by
   obtain ⟨j,hj,e⟩:=cU hx;rw [eY] at e;have hj':j < l.length:=by simp at hj; omega
   have:=(uE h i hj').2 (by simp at hj; omega);simpa [hj',e] using this
  rcases aI.1 hy with rfl|hy
  ·exact hx1
  ·obtain ⟨j,hj,e⟩:=cU hx;obtain ⟨q,hq,e2⟩:=cU hy;rw [eY] at e;rw [gC] at e2;simp at hj hq;have:=h.lt (i:=j) (j:=eO l i+q) (by omega) (by omega);have d1:l.getD j []=x:=by simp [show j < l.length by omega,e]
   have d2:l.getD (eO l i+q) []=y:=by simp [show eO l i+q < l.length by omega,e2]
   rwa [d1,d2] at this
def jS (t i:B) (T:TT):Prop:=∃ s,gG t T=some s/\i∈zI s
theorem oK {i:B}:∀ (t:B) {T:TT},wfT T->szT (nG i t T)=szT T+1
 | [],.node ids k,_=>by
  simp only [nG,szT];rw [Gi]; omega
 | b::t,.node ids k,w=>by
  simp only [wfT] at w;simp only [nG,szT];cases hg:eW k b with
  | none =>
   have hb:b ∉ dF k:=fun h=>by obtain ⟨s,e⟩:=xV h; rw [hg] at e; cases e
   rw [Kx hb];show ids.length+(szK k+szT (nG i t emp))=_;rw [oK t sB];simp only [emp,szT,szK,dA];omega
  | some s =>
   have:=Bk (s':=nG i t s) hg w.2.1;have h2:=oK (i:=i) t (nW hg w.2.2).1;show ids.length+szK (lM k b (nG i t s))=_;omega
theorem yO {i:B}:∀ (t:B) {T:TT},wfT T->¬ jS t i T->wfT (nG i t T)
 | [],.node ids k,w,hm=>by
  simp only [wfT] at w;simp only [nG,wfT];exact ⟨Vk w.1 fun h=>hm ⟨_,rfl,h⟩,w.2⟩
 | b::t,.node ids k,w,hm=>by
  have w':=w;simp only [wfT] at w;simp only [nG,wfT];have h1:wfT ((eW k b).getD emp)/\¬ jS t i ((eW k b).getD emp):=by
   cases hg:eW k b with
   | none =>
    refine ⟨sB,?_⟩;rintro ⟨s,e,hi⟩;cases t with
    | nil=>cases e; cases hi
    | cons c t=>cases e
   | some s =>
    refine ⟨(nW hg w.2.2).1,?_⟩;rintro ⟨s',e,hi⟩;exact hm ⟨s',by simp only [gG,hg,eQ]; exact e,hi⟩
  refine ⟨w.1,Kj w.2.1,wf_set (yO t h1.1 h1.2) ?_ w.2.2⟩;rw [oK t h1.1]; omega
theorem Hq {D:Dg} {N N':Nat->NO} {b:UInt8} {s':TT} {u τ:Nat} {l l':List (cC×Nat×Nat)} {G1:Nat->Prop} (hu:mget l' (iC b)=some (u,τ)) (hl:∀ x,x≠b->mget l' (iC x)=mget l (iC x)) (h1:iM D N' s' u G1) :
  ∀ {k:TK} {G:Nat->Prop},lO D N k l G->b ∉ dF k->(∀ x,G1 x->¬ G x)->(∀ x,G x->N' x=N x)->lO D N' (lM k b s') l' (fun x=>G1 x\/G x)
 | .nil,G,h,_,hd,_=>by
  simp only [lO] at h;simp only [lM,lO];exact ⟨u,τ,G1,G,hu,h1,fun x hx=>h x hx,hd,fun _=>dP⟩
 | .cons x t r,G,h,hb,hd,he=>by
  simp only [dF,aI,not_or] at hb;have hx:¬ x=b:=fun e=>hb.1 e.symm;simp only [lM,if_neg hx];split
  ·simp only [lO];refine ⟨u,τ,G1,G,hu,h1,?_,hd,fun _=>dP⟩;have h2:=mB (N':=N') h he;have h3:lO D N' (.cons x t r) l' G:=pW.repK_map (fun y hy=>hl y ?_) h2
   ·simpa only [lO] using h3
   ·rintro rfl;rcases aI.1 hy with e|hy
    ·exact hb.1 e
    ·exact hb.2 hy
  ·simp only [lO] at h;obtain ⟨v,σ,H1,H2,j1,j2,j3,j4,j5⟩:=h;have:=Hq hu hl h1 j3 hb.2 (fun y hy h'=>hd y hy ((j5 y).2 (.inr h'))) (fun y hy=>he y ((j5 y).2 (.inr hy)));simp only [lO];refine ⟨v,σ,H1,fun y=>G1 y\/H2 y,(hl x hx).trans j1,mZ j2 fun y hy=>he y ((j5 y).2 (.inl hy)),this,?_,?_⟩
   ·rintro y hy (h'|h')
    ·exact hd y h' ((j5 y).2 (.inl hy))
    ·exact j4 y hy h'
   ·intro y;rw [j5];constructor
    ·rintro (h|h|h)
     ·exact .inr (.inl h)
     ·exact .inl h
     ·exact .inr (.inr h)
    ·rintro (h|h|h)
     ·exact .inr (.inl h)
     ·exact .inl h
     ·exact .inr (.inr h)
end T14
end
section
open Go Go.Eng Go.Proofs T1 T2 T3 T4 T5 T6 T7 T8 T9 T10 T11 T12 T13 T14
set_option maxRecDepth 100000
namespace T15
theorem G6 {V:Type} {l:List (cC×V×Nat)} {k y:cC} {v:V} {q:Nat}:mget (l++[(k,v,q)]) y=match mget l y with
  | some e=>some e
  | none=>if k=y then some (v,q) else none:=by
 induction l with
 | nil=>simp only [fZ,mget]
 | cons x r ih =>
  simp only [fJ,mget];split
  ·rfl
  ·exact ih
theorem Di {N:Nat->NO} {a:Nat} {ids:List B} (h:(N a=.none/\ids=[])\/∃ A,N a=.arr A/\A≠[]/\ids.length<=A.length/\A.take ids.length=ids) :
  gO N a ids.length=ids/\(fV N a).take ids.length=ids:=by
 rcases h with ⟨h1,h2⟩|⟨A,h1,_,_,h4⟩
 ·subst h2; constructor <;> simp [gO,fV,h1]
 ·simp only [gO,fV,h1]; exact ⟨h4,h4⟩
def Og (T:TT) (b:UInt8):TT :=
 match T with
 | .node _ k=>(eW k b).getD emp
theorem xE (b:UInt8) (t:B) (T:TT):(gG (b::t) T).getD emp=(gG t (Og T b)).getD emp:=by
 obtain ⟨ids,k⟩:=T;simp only [gG,Og];cases eW k b with
 | some s=>rfl
 | none =>
  cases t with
  | nil=>rfl
  | cons c t=>rfl
structure aBy (D:Dg) (i:B) (t:B) (N:Nat->NO) (c x:Nat) (T:TT) (F:Nat->Prop) (y:Nat) (F':Nat->Prop):Prop where
 rep:iM D (jL true (chN true ⟨N,c,x⟩ t).N (chN true ⟨N,c,x⟩ t).x y i) (nG i t T) x F'
 new:∀ z,F' z->F z\/(c<=z/\z < (chN true ⟨N,c,x⟩ t).c+1)
 old:∀ z,¬ F z->z < c->jL true (chN true ⟨N,c,x⟩ t).N (chN true ⟨N,c,x⟩ t).x y i z=N z
 free:∀ z,(chN true ⟨N,c,x⟩ t).c+1<=z->jL true (chN true ⟨N,c,x⟩ t).N (chN true ⟨N,c,x⟩ t).x y i z=.none
 le:c<=(chN true ⟨N,c,x⟩ t).c
theorem zX {D:Dg} {i:B}:∀ (t:B) {N:Nat->NO} {c x:Nat} {T:TT} {F:Nat->Prop},iM D N T x F->(∀ z,F z->z < c)->(∀ z,c<=z->N z=.none)->wfT T ->
  oV (chN true ⟨N,c,x⟩ t).N (chN true ⟨N,c,x⟩ t).x=zI ((gG t T).getD emp) /\
  ∀ y,((y=Eu (chN true ⟨N,c,x⟩ t).N (chN true ⟨N,c,x⟩ t).x/\fV (chN true ⟨N,c,x⟩ t).N y≠[])\/y=(chN true ⟨N,c,x⟩ t).c)->∃ F',aBy D i t N c x T F y F'
 | [],N,c,x,.node ids k,F,h,hF,h0,w=>by
  simp only [iM] at h;obtain ⟨a,m,mk,l,q,G,h1,h2,h3,h4,h5,h6,h7,h8,h9,h10,h11,h12⟩:=h;have hxc:x < c:=hF x ((h12 x).2 (.inl rfl));have hmc:m < c:=hF m ((h12 m).2 (.inr (.inl rfl)));have hac:a < c:=hF a ((h12 a).2 (.inr (.inr (.inl rfl))));have hmx:m≠x:=rT h1 h3;have e1:bump true N x=put N x (.node a ids.length m (((ids.length+szK k:Nat):Int)+1) []):=oQ h1;have ec:chN true ⟨N,c,x⟩ []=⟨put N x (.node a ids.length m (((ids.length+szK k:Nat):Int)+1) []),c,x⟩:=by show CS.mk _ _ _=_; rw [e1]
  generalize hN1:put N x (.node a ids.length m (((ids.length+szK k:Nat):Int)+1) [])=N1 at ec;have n1x:N1 x=.node a ids.length m (((ids.length+szK k:Nat):Int)+1) []:=by rw [<- hN1,eS]
  have n1o:∀ z,z≠x->N1 z=N z:=fun z hz=>by rw [<- hN1,bS hz]
  have ha:=Di h2;have hla:gO N1 a ids.length=ids:=by have h:=ha.1; simp only [gO,n1o a h7] at h ⊢; exact h
  have haa:(fV N1 a).take ids.length=ids:=by have h:=ha.2; simp only [fV,n1o a h7] at h ⊢; exact h
  have hsx:(chN true ⟨N,c,x⟩ []).x=x:=by rw [ec]
  have hsN:(chN true ⟨N,c,x⟩ []).N=N1:=by rw [ec]
  have hsc:(chN true ⟨N,c,x⟩ []).c=c:=by rw [ec]
  refine ⟨by rw [hsx,hsN,rQ n1x,hla]; rfl,?_⟩;intro y hy;rw [hsx,hsN,hsc] at hy;have hyx:y≠x/\y≠m/\¬ G y/\(y=a\/y=c):=by
   rcases hy with ⟨h,_⟩|h
   ·have:y=a:=by rw [h]; simp only [Eu,n1x]
    subst this;exact ⟨h7,h8,h11,.inl rfl⟩
   ·subst h;exact ⟨by omega,by omega,fun hg=>fE _ (hF _ ((h12 _).2 (.inr (.inr (.inr hg))))),.inr rfl⟩
  obtain ⟨y1,y2,y3,y4⟩:=hyx;have hL:pZ (fV N1 a) ids.length (eO (gO N1 a ids.length) i) i=pZ ids ids.length (eO ids i) i:=by
   rw [hla];unfold pZ;rw [haa,eP]
  have ee:jL true N1 x y i=put (put N1 y (.arr (pZ ids ids.length (eO ids i) i))) x (.node y (ids.length+1) m (((ids.length+szK k:Nat):Int)+1) []):=by
   simp only [jL,n1x,hL,cond_true]
  have hlen:=Gi ids i;generalize hLL:pZ ids ids.length (eO ids i) i=L at ee hlen;refine ⟨fun z=>z=x\/z=m\/z=y\/G z,?_⟩;have rx:jL true N1 x y i x=.node y L.length m (((L.length+szK k:Nat):Int)) []:=by
   rw [ee,eS,hlen];have:((ids.length+1+szK k:Nat):Int)=((ids.length+szK k:Nat):Int)+1:=by omega
   rw [this]
  have ry:jL true N1 x y i y=.arr L:=by rw [ee,bS y1,eS]
  have ro:∀ z,z≠x->z≠y->jL true N1 x y i z=N z:=fun z hx hy=>by rw [ee,bS hx,bS hy,n1o z hx]
  refine ⟨?_,?_,?_,?_,?_⟩
  ·rw [hsx,hsN];simp only [nG,hLL,iM];refine ⟨y,m,[],l,q,G,rx,.inr ⟨L,ry,fun e=>by rw [e] at hlen; simp at hlen,aL _,eP⟩,(ro m hmx (dY y2)).trans h3,.inl rfl,h5,mB h6 fun z hz=>ro z (fun e=>h9 (e ▸ hz)) (fun e=>y3 (e ▸ hz)),y1,y2,h9,h10,y3,fun _=>dP⟩
  ·rw [hsc];rintro z (rfl|rfl|rfl|hz)
   ·exact .inl ((h12 _).2 (.inl rfl))
   ·exact .inl ((h12 _).2 (.inr (.inl rfl)))
   ·rcases y4 with rfl|rfl
    ·exact .inl ((h12 _).2 (.inr (.inr (.inl rfl))))
    ·exact .inr ⟨aL _,fK _⟩
   ·exact .inl ((h12 _).2 (.inr (.inr (.inr hz))))
  ·rw [hsx,hsN];intro z hz hc;refine ro z (fun e=>hz ((h12 z).2 (.inl e))) (fun e=>?_);rcases y4 with h|h
   ·exact hz ((h12 z).2 (.inr (.inr (.inl (e.trans h)))))
   ·omega
  ·rw [hsx,hsN,hsc];intro z hz;rw [ro z (by omega) (by rcases y4 with h|h <;> omega)];exact h0 z (by omega)
  ·rw [hsc]; exact aL _
 | b::t,N,c,x,.node ids k,F,h,hF,h0,w=>by
  simp only [iM] at h;obtain ⟨a,m,mk,l,q,G,h1,h2,h3,h4,h5,h6,h7,h8,h9,h10,h11,h12⟩:=h;have w':=w;simp only [wfT] at w;have hxc:x < c:=hF x ((h12 x).2 (.inl rfl));have hmc:m < c:=hF m ((h12 m).2 (.inr (.inl rfl)));have hac:a < c:=hF a ((h12 a).2 (.inr (.inr (.inl rfl))));have hGc:∀ z,G z->z < c:=fun z hz=>hF z ((h12 z).2 (.inr (.inr (.inr hz))));have hmx:m≠x:=rT h1 h3;have e1:bump true N x=put N x (.node a ids.length m (((ids.length+szK k:Nat):Int)+1) []):=oQ h1;have ec:chN true ⟨N,c,x⟩ (b::t)=chN true (stN true ⟨put N x (.node a ids.length m (((ids.length+szK k:Nat):Int)+1) []),c,x⟩ b) t:=by show chN true (stN true ⟨bump true N x,c,x⟩ b) t=_; rw [e1]
  generalize hN1:put N x (.node a ids.length m (((ids.length+szK k:Nat):Int)+1) [])=N1 at ec;have n1x:N1 x=.node a ids.length m (((ids.length+szK k:Nat):Int)+1) []:=by rw [<- hN1,eS]
  have n1o:∀ z,z≠x->N1 z=N z:=fun z hz=>by rw [<- hN1,bS hz]
  have n1m:N1 m=.map l q:=(n1o m hmx).trans h3;have hkd:xY N1 x b=(mget l (iC b)).map (·.1):=qD n1x n1m b;have hsz:=oK (i:=i) (b::t) w';cases hg:eW k b with
  | some s =>
   obtain ⟨u,τ,G1,G2,j1,j2,j3,j4,j5,_⟩:=pW h6 hg w.2.1;have hus:isNode N1 u/\szN N1 u+dv true≠0:=by
    obtain ⟨ids',k'⟩:=s;have j2':=j2;simp only [iM] at j2';obtain ⟨a',m',mk',l',q',G',i1,_,_,_,_,_,_,_,_,_,_,i12⟩:=j2';have:N1 u=N u:=n1o u fun e=>h9 ((j4 x).2 (.inl ((i12 x).2 (.inl e.symm))));rw [i1] at this;refine ⟨⟨_,_,_,_,_,this⟩,?_⟩;rw [H8 this];show _+(1:Int)≠0;omega
   have est:stN true ⟨N1,c,x⟩ b=⟨N1,c,u⟩:=by
    unfold stN;simp only [hkd,j1,cL,if_neg hus.2]
   rw [est] at ec;have r1:iM D N1 s u G1:=mZ j2 fun z hz=>n1o z fun e=>h9 ((j4 x).2 (.inl (e ▸ hz)));obtain ⟨ih1,ih2⟩:=zX t (N:=N1) (c:=c) (x:=u) (T:=s) (F:=G1) r1 (fun z hz=>hGc z ((j4 z).2 (.inl hz))) (fun z hz=>(n1o z (by omega)).trans (h0 z hz)) (nW hg w.2.2).1;refine ⟨?_,?_⟩
   ·rw [ec,ih1,xE];simp only [Og,hg,bZ]
   ·intro y hy;rw [ec] at hy;obtain ⟨F1,p⟩:=ih2 y hy;have n'o:∀ z,¬ G1 z->z < c->jL true (chN true ⟨N1,c,u⟩ t).N (chN true ⟨N1,c,u⟩ t).x y i z=N1 z:=p.old;have hG1x:∀ z,(z=x\/z=m\/z=a)->¬ G1 z:=by
     rintro z (rfl|rfl|rfl) hz
     ·exact h9 ((j4 _).2 (.inl hz))
     ·exact h10 ((j4 _).2 (.inl hz))
     ·exact h11 ((j4 _).2 (.inl hz))
    refine ⟨fun z=>z=x\/z=m\/z=a\/(F1 z\/G2 z),?_⟩;have hF1:∀ z,F1 z->G1 z\/c<=z:=fun z hz=>(p.new z hz).imp id And.left;refine ⟨?_,?_,?_,?_,?_⟩
    ·rw [ec];simp only [nG,hg,bZ,iM];refine ⟨a,m,[],l,q,fun z=>F1 z\/G2 z,?_,?_,(n'o m (hG1x m (.inr (.inl rfl))) hmc).trans n1m,.inl rfl,?_,?_,h7,h8,?_,?_,?_,fun _=>dP⟩
     ·rw [n'o x (hG1x x (.inl rfl)) hxc,n1x];have h:=Bk (s':=nG i t s) hg w.2.1;have h2:=oK (i:=i) t (nW hg w.2.2).1;have:((ids.length+szK k:Nat):Int)+1=((ids.length+szK (lM k b (nG i t s)):Nat):Int):=by omega
      rw [this]
     ·rw [n'o a (hG1x a (.inr (.inr rfl))) hac,n1o a h7];exact h2
     ·rw [Dn hg w.2.1]; exact h5
     ·refine j5 _ _ F1 p.rep (fun z hz h'=>?_) (fun z hz=>?_)
      ·rcases hF1 z hz with h1|h1
       ·exact j3 z h1 h'
       ·have:=hGc z ((j4 z).2 (.inr h')); omega
      ·exact (n'o z (fun h'=>j3 z h' hz) (hGc z ((j4 z).2 (.inr hz)))).trans (n1o z fun e=>h9 ((j4 x).2 (.inr (e ▸ hz))))
     ·rintro (h|h)
      ·rcases hF1 x h with h|h
       ·exact hG1x x (.inl rfl) h
       ·omega
      ·exact h9 ((j4 x).2 (.inr h))
     ·rintro (h|h)
      ·rcases hF1 m h with h|h
       ·exact hG1x m (.inr (.inl rfl)) h
       ·omega
      ·exact h10 ((j4 m).2 (.inr h))
     ·rintro (h|h)
      ·rcases hF1 a h with h|h
       ·exact hG1x a (.inr (.inr rfl)) h
       ·omega
      ·exact h11 ((j4 a).2 (.inr h))
    ·rw [ec];rintro z (h|h|h|h|h)
     ·exact .inl ((h12 z).2 (.inl h))
     ·exact .inl ((h12 z).2 (.inr (.inl h)))
     ·exact .inl ((h12 z).2 (.inr (.inr (.inl h))))
     ·rcases p.new z h with h|h
      ·exact .inl ((h12 z).2 (.inr (.inr (.inr ((j4 z).2 (.inl h))))))
      ·exact .inr h
     ·exact .inl ((h12 z).2 (.inr (.inr (.inr ((j4 z).2 (.inr h))))))
    ·rw [ec];intro z hz hc;rw [n'o z (fun h=>hz ((h12 z).2 (.inr (.inr (.inr ((j4 z).2 (.inl h))))))) hc];exact n1o z fun e=>hz ((h12 z).2 (.inl e))
    ·rw [ec]; exact p.free
    ·rw [ec]; exact p.le
  | none =>
   have hb:b ∉ dF k:=fun h=>by obtain ⟨s,e⟩:=xV h; rw [hg] at e; cases e
   have hbl:iC b ∉ l.map (·.1):=fun h=>by
    obtain ⟨x,hx,e⟩:=bF.1 (h5.mem_iff.1 h);exact hb (wO e ▸ hx)
   have hno:=Co hbl;have est:stN true ⟨N1,c,x⟩ b=⟨put (lE N1 c) m (.map (l++[(iC b,c+1,q)]) (q+1)),c+3,c+1⟩:=by
    unfold stN;simp only [hkd,hno,eH,tV n1x n1m]
   rw [est] at ec;generalize hN2:put (lE N1 c) m (.map (l++[(iC b,c+1,q)]) (q+1))=N2 at ec;have n2o:∀ z,z≠m->z < c->N2 z=N1 z:=fun z hz hc=>by rw [<- hN2,bS hz,uD hc]
   have n2m:N2 m=.map (l++[(iC b,c+1,q)]) (q+1):=by rw [<- hN2,eS]
   have n2c:N2 c=.map [] 0:=by rw [<- hN2,bS (by omega)]; unfold lE; rw [bS (by omega),eS]
   have n2n:N2 (c+1)=.node (c+2) 0 c 0 []:=by rw [<- hN2,bS (by omega)]; exact wX
   have n2f:∀ z,c+2<=z->N2 z=.none:=fun z hz=>by
    rw [<- hN2,bS (by omega)];unfold lE;rw [bS (by omega),bS (by omega),n1o z (by omega)];exact h0 z (by omega)
   have r1:iM D N2 emp (c+1) (fun z=>z=c+1\/z=c\/z=c+2\/False):=by
    simp only [emp,iM];refine ⟨c+2,c,[],[],0,fun _=>False,n2n,.inl ⟨n2f _ (by omega),trivial⟩,n2c,.inl rfl,.refl _,?_,by omega,by omega,id,id,id,fun _=>dP⟩;simp only [lO];exact fun _ h=>h
   obtain ⟨ih1,ih2⟩:=zX t (N:=N2) (c:=c+3) (x:=c+1) (T:=emp) r1 (fun z hz=>by rcases hz with h|h|h|h <;> first|omega|exact h.elim) (fun z hz=>n2f z (by omega)) sB;refine ⟨?_,?_⟩
   ·rw [ec,ih1,xE];simp only [Og,hg,Option.getD_none]
   ·intro y hy;rw [ec] at hy;obtain ⟨F1,p⟩:=ih2 y hy;have n'o:∀ z,z < c->jL true (chN true ⟨N2,c+3,c+1⟩ t).N (chN true ⟨N2,c+3,c+1⟩ t).x y i z=N2 z:=fun z hz=>p.old z (by rintro (h|h|h|h) <;> first|omega|exact h) (by omega);have hF1:∀ z,F1 z->c<=z:=fun z hz=>by
     rcases p.new z hz with h|h
     ·rcases h with h|h|h|h <;> first|omega|exact h.elim
     ·omega
    have hF2:∀ z,F1 z->c<=z/\z < (chN true ⟨N2,c+3,c+1⟩ t).c+1:=fun z hz=>by
     have:=p.le;rcases p.new z hz with h|h
     ·rcases h with h|h|h|h <;> first|omega|exact h.elim
     ·omega
    have hl1:mget (l++[(iC b,c+1,q)]) (iC b)=some (c+1,q):=by rw [G6,hno]; simp
    have hl2:∀ z,z≠b->mget (l++[(iC b,c+1,q)]) (iC z)=mget l (iC z):=fun z hz=>by
     rw [G6];cases mget l (iC z) with
     | some e=>rfl
     | none=>simp only; rw [if_neg fun e=>hz (wO e).symm]
    refine ⟨fun z=>z=x\/z=m\/z=a\/(F1 z\/G z),?_⟩;refine ⟨?_,?_,?_,?_,?_⟩
    ·rw [ec];simp only [nG,hg,Option.getD_none,iM];refine ⟨a,m,[],_,_,fun z=>F1 z\/G z,?_,?_,(n'o m hmc).trans n2m,.inl rfl,?_,Hq hl1 hl2 p.rep h6 hb (fun z hz h'=>?_) (fun z hz=>?_),h7,h8,?_,?_,?_,fun _=>dP⟩
     ·rw [n'o x hxc,n2o x (dY hmx) hxc,n1x];have h2:=oK (i:=i) t sB;have h3:=Kx (s':=nG i t emp) hb;have h4:szT emp=0:=rfl;have:((ids.length+szK k:Nat):Int)+1=((ids.length+szK (lM k b (nG i t emp)):Nat):Int):=by omega
      rw [this]
     ·rw [n'o a hac,n2o a h8 hac,n1o a h7];exact h2
     ·rw [eZ];refine .trans ?_ ((Lh (s':=nG i t emp) hb).symm.map iC);simp only [bL,jN];exact (List.perm_append_comm).trans (h5.cons _)
     ·have:=hGc z h';have:=hF1 z hz;omega
     ·have hzc:=hGc z hz;rw [n'o z hzc,n2o z (fun e=>h10 (e ▸ hz)) hzc];exact n1o z fun e=>h9 (e ▸ hz)
     ·rintro (h|h)
      ·have:=hF1 x h; omega
      ·exact h9 h
     ·rintro (h|h)
      ·have:=hF1 m h; omega
      ·exact h10 h
     ·rintro (h|h)
      ·have:=hF1 a h; omega
      ·exact h11 h
    ·rw [ec];rintro z (h|h|h|h|h)
     ·exact .inl ((h12 z).2 (.inl h))
     ·exact .inl ((h12 z).2 (.inr (.inl h)))
     ·exact .inl ((h12 z).2 (.inr (.inr (.inl h))))
     ·exact .inr (hF2 z h)
     ·exact .inl ((h12 z).2 (.inr (.inr (.inr h))))
    ·rw [ec];intro z hz hc;rw [n'o z hc,n2o z (fun e=>hz ((h12 z).2 (.inr (.inl e)))) hc];exact n1o z fun e=>hz ((h12 z).2 (.inl e))
    ·rw [ec]; exact p.free
    ·rw [ec]; have:=p.le; omega
end T15
end
section
open Go Go.Eng Go.Proofs T1 T2 T3 T4 T5 T6 T7 T8 T9 T10 T11 T12 T13 T14 T15
set_option maxRecDepth 100000
namespace T16
theorem Mu {l:List B} (h:Srt l) {i:B} (hi:i∈l):(Bf l i).length+1=l.length:=by
 have:=((zW h i).1 hi).1;unfold Bf;simp;omega
theorem Vl {l:List B} (h:Srt l) (i:B):Srt (Bf l i):=by
 unfold Bf;rw [<- List.eraseIdx_eq_take_drop_succ];exact h.sublist (List.eraseIdx_sublist _ _)
theorem Li {b:UInt8} {s:TT}:∀ {k:TK},eW k b=some s->(dF k).Perm (b::dF (rZ k b))
 | .nil,h=>by cases h
 | .cons x t r,h=>by
  simp only [eW] at h;simp only [rZ];by_cases e:x=b
  ·rw [if_pos e]; subst e; exact .refl _
  ·rw [if_neg e] at h ⊢;exact ((Li h).cons x).trans (.swap _ _ _)
theorem Mo {b y:UInt8}:∀ {k:TK},y∈dF (rZ k b)->y∈dF k
 | .nil,h=>h
 | .cons x t r,h=>by
  simp only [rZ] at h;split at h
  ·exact aK _ h
  ·rcases aI.1 h with h|h
   ·rw [h]; exact aQ
   ·exact aK _ (Mo h)
theorem Sj {b:UInt8}:∀ {k:TK},Sb (dF k)->Sb (dF (rZ k b))
 | .nil,h=>h
 | .cons x t r,h=>by
  have h':=bD.1 h;simp only [rZ];split
  ·exact h'.2
  ·exact bD.2 ⟨fun y hy=>h'.1 y (Mo hy),Sj h'.2⟩
theorem Fi {b:UInt8} {s:TT}:∀ {k:TK},eW k b=some s->szK (rZ k b)+szT s=szK k
 | .nil,h=>by cases h
 | .cons x t r,h=>by
  simp only [eW] at h;simp only [rZ];by_cases e:x=b
  ·rw [if_pos e] at h ⊢; cases h; simp only [szK]; omega
  ·rw [if_neg e] at h ⊢;have:=Fi h;simp only [szK]; omega
theorem Ly {b:UInt8}:∀ {k:TK},Sb (dF k)->∀ y,eW (rZ k b) y=if y=b then none else eW k y
 | .nil,_,y=>by simp [rZ,eW]
 | .cons x t r,h,y=>by
  have h':=bD.1 h;simp only [rZ];by_cases e:x=b
  ·subst e;rw [if_pos rfl];simp only [eW];by_cases ey:y=x
   ·subst ey;rw [if_pos rfl];exact qW fun hm=>eI _ (h'.1 _ hm)
   ·rw [if_neg ey,if_neg (show ¬ x=y from fun h=>ey h.symm)]
  ·rw [if_neg e];simp only [eW];rw [Ly h'.2];by_cases ey:x=y
   ·subst ey; rw [if_pos rfl,if_neg e,if_pos rfl]
   ·rw [if_neg ey,if_neg ey]
theorem S8 {b:UInt8}:∀ {k:TK},wfK k->wfK (rZ k b)
 | .nil,h=>h
 | .cons x t r,w=>by
  simp only [wfK] at w;simp only [rZ];split
  ·exact w.2.2
  ·simp only [wfK]; exact ⟨w.1,w.2.1,S8 w.2.2⟩
theorem mem_cons {t:B} {i:B} {b:UInt8} {ids:List B} {k:TK} (h:jS (b::t) i (.node ids k)):∃ s,eW k b=some s/\jS t i s:=by
 obtain ⟨s,e,hi⟩:=h;simp only [gG] at e;cases hg:eW k b with
 | none=>rw [hg] at e; cases e
 | some s'=>rw [hg] at e; exact ⟨s',rfl,s,e,hi⟩
theorem yM {i:B}:∀ (t:B) {T:TT},wfT T->jS t i T->szT (qV i t T)+1=szT T
 | [],.node ids k,w,h=>by
  simp only [wfT] at w;obtain ⟨s,e,hi⟩:=h;cases e;have:=Mu w.1 hi;simp only [qV,szT]; omega
 | b::t,.node ids k,w,h=>by
  simp only [wfT] at w;obtain ⟨s,hg,hm⟩:=mem_cons h;have ih:=yM t (nW hg w.2.2).1 hm;simp only [qV,hg];split
  ·have:=Fi hg;simp only [szT]; omega
  ·have:=Bk (s':=qV i t s) hg w.2.1;simp only [szT]; omega
theorem K6 {i:B}:∀ (t:B) {T:TT},wfT T->jS t i T->wfT (qV i t T)
 | [],.node ids k,w,h=>by
  simp only [wfT] at w;simp only [qV,wfT];exact ⟨Vl w.1 i,w.2⟩
 | b::t,.node ids k,w,h=>by
  simp only [wfT] at w;obtain ⟨s,hg,hm⟩:=mem_cons h;have hs:=nW hg w.2.2;have ih:=K6 t hs.1 hm;have hz:=yM t hs.1 hm;simp only [qV,hg];split
  ·simp only [wfT]; exact ⟨w.1,Sj w.2.1,S8 w.2.2⟩
  ·rename_i hne;simp only [wfT];refine ⟨w.1,Kj w.2.1,wf_set ih ?_ w.2.2⟩;have:=hs.2;omega
theorem On {V:Type} {l:List (cC×V×Nat)} {k y:cC} (h:y≠k):mget (mdel l k) y=mget l y:=by
 induction l with
 | nil=>rfl
 | cons x r ih =>
  simp only [mdel];split
  ·rename_i e;simp only [mget];rw [if_neg (fun e'=>h (e'.symm.trans e))]
  ·simp only [mget];rw [ih]
theorem Om {V:Type} {l:List (cC×V×Nat)} {k:cC} {e:V×Nat} (h:mget l k=some e):(l.map (·.1)).Perm (k::(mdel l k).map (·.1)):=by
 induction l with
 | nil=>cases h
 | cons x r ih =>
  simp only [mget] at h;simp only [mdel];split
  ·rename_i e';simp only [bL,e'];exact .refl _
  ·rename_i e';rw [if_neg e'] at h;simp only [bL];exact ((ih h).cons x.1).trans (.swap _ _ _)
structure Zu (D:Dg) (i:B) (t:B) (N:Nat->NO) (c x:Nat) (T:TT) (F:Nat->Prop) (F':Nat->Prop):Prop where
 rep:iM D (jL false (chN false ⟨N,c,x⟩ t).N (chN false ⟨N,c,x⟩ t).x 0 i) (qV i t T) x F'
 new:∀ z,F' z->F z
 old:∀ z,¬ F z->jL false (chN false ⟨N,c,x⟩ t).N (chN false ⟨N,c,x⟩ t).x 0 i z=N z
 ids:oV (chN false ⟨N,c,x⟩ t).N (chN false ⟨N,c,x⟩ t).x=zI ((gG t T).getD emp)
 c:(chN false ⟨N,c,x⟩ t).c=c
theorem wE {D:Dg} {i:B}:∀ (t:B) {N:Nat->NO} {c x:Nat} {T:TT} {F:Nat->Prop},iM D N T x F->wfT T->jS t i T->∃ F',Zu D i t N c x T F F'
 | [],N,c,x,.node ids k,F,h,w,hm=>by
  simp only [iM] at h;obtain ⟨a,m,mk,l,q,G,h1,h2,h3,h4,h5,h6,h7,h8,h9,h10,h11,h12⟩:=h;simp only [wfT] at w;have hi:i∈ids:=by obtain ⟨s,e,hi⟩:=hm; cases e; exact hi
  have hmx:m≠x:=rT h1 h3;have e1:bump false N x=put N x (.node a ids.length m (((ids.length+szK k:Nat):Int)+-1) []):=oQ h1;have ec:chN false ⟨N,c,x⟩ []=⟨put N x (.node a ids.length m (((ids.length+szK k:Nat):Int)+-1) []),c,x⟩:=by show CS.mk _ _ _=_; rw [e1]
  generalize hN1:put N x (.node a ids.length m (((ids.length+szK k:Nat):Int)+-1) [])=N1 at ec;have n1x:N1 x=.node a ids.length m (((ids.length+szK k:Nat):Int)+-1) []:=by rw [<- hN1,eS]
  have n1o:∀ z,z≠x->N1 z=N z:=fun z hz=>by rw [<- hN1,bS hz]
  have ha:=Di h2;have hla:gO N1 a ids.length=ids:=by have h:=ha.1; simp only [gO,n1o a h7] at h ⊢; exact h
  have haa:(fV N1 a).take ids.length=ids:=by have h:=ha.2; simp only [fV,n1o a h7] at h ⊢; exact h
  have hsx:(chN false ⟨N,c,x⟩ []).x=x:=by rw [ec]
  have hsN:(chN false ⟨N,c,x⟩ []).N=N1:=by rw [ec]
  have hL:wB (fV N1 a) ids.length (eO (gO N1 a ids.length) i)=Bf ids i++[[]]:=by
   rw [hla];unfold wB Bf;rw [haa]
  have ee:jL false N1 x 0 i=put (put N1 a (.arr (Bf ids i++[[]]))) x (.node a (ids.length - 1) m (((ids.length+szK k:Nat):Int)+-1) []):=by
   simp only [jL,n1x,hL,cond_false]
  have hlen:=Mu w.1 hi;generalize hLL:Bf ids i=L at ee hlen;have rx:jL false N1 x 0 i x=.node a L.length m (((L.length+szK k:Nat):Int)) []:=by
   rw [ee,eS,<- hlen];have:((L.length+szK k:Nat):Int)=((L.length+1+szK k:Nat):Int)+-1:=by omega
   rw [this];rfl
  have ra:jL false N1 x 0 i a=.arr (L++[[]]):=by rw [ee,bS h7,eS]
  have ro:∀ z,z≠x->z≠a->jL false N1 x 0 i z=N z:=fun z hx hy=>by rw [ee,bS hx,bS hy,n1o z hx]
  refine ⟨fun z=>z=x\/z=m\/z=a\/G z,?_,?_,?_,?_,?_⟩
  ·rw [hsx,hsN];simp only [qV,hLL,iM];refine ⟨a,m,[],l,q,G,rx,.inr ⟨L++[[]],ra,by simp,by simp,by simp⟩,(ro m hmx (dY h8)).trans h3,.inl rfl,h5,mB h6 fun z hz=>ro z (fun e=>h9 (e ▸ hz)) (fun e=>h11 (e ▸ hz)),h7,h8,h9,h10,h11,fun _=>dP⟩
  ·exact fun z hz=>(h12 z).2 hz
  ·rw [hsx,hsN];exact fun z hz=>ro z (fun e=>hz ((h12 z).2 (.inl e))) (fun e=>hz ((h12 z).2 (.inr (.inr (.inl e)))))
  ·rw [hsx,hsN,rQ n1x,hla]; rfl
  ·rw [ec]
 | b::t,N,c,x,.node ids k,F,h,w,hm=>by
  simp only [iM] at h;obtain ⟨a,m,mk,l,q,G,h1,h2,h3,h4,h5,h6,h7,h8,h9,h10,h11,h12⟩:=h;simp only [wfT] at w;obtain ⟨s,hg,hms⟩:=mem_cons hm;have hmx:m≠x:=rT h1 h3;have e1:bump false N x=put N x (.node a ids.length m (((ids.length+szK k:Nat):Int)+-1) []):=oQ h1;have ec:chN false ⟨N,c,x⟩ (b::t)=chN false (stN false ⟨put N x (.node a ids.length m (((ids.length+szK k:Nat):Int)+-1) []),c,x⟩ b) t:=by show chN false (stN false ⟨bump false N x,c,x⟩ b) t=_; rw [e1]
  generalize hN1:put N x (.node a ids.length m (((ids.length+szK k:Nat):Int)+-1) [])=N1 at ec;have n1x:N1 x=.node a ids.length m (((ids.length+szK k:Nat):Int)+-1) []:=by rw [<- hN1,eS]
  have n1o:∀ z,z≠x->N1 z=N z:=fun z hz=>by rw [<- hN1,bS hz]
  have n1m:N1 m=.map l q:=(n1o m hmx).trans h3;have hkd:xY N1 x b=(mget l (iC b)).map (·.1):=qD n1x n1m b;have hw:=nW hg w.2.2;have hsz:=yM t hw.1 hms;obtain ⟨u,τ,G1,G2,j1,j2,j3,j4,j5,j6⟩:=pW h6 hg w.2.1;have hus:isNode N1 u/\szN N1 u=((szT s:Nat):Int):=by
   obtain ⟨ids',k'⟩:=s;have j2':=j2;simp only [iM] at j2';obtain ⟨a',m',mk',l',q',G',i1,_,_,_,_,_,_,_,_,_,_,i12⟩:=j2';have:N1 u=N u:=n1o u fun e=>h9 ((j4 x).2 (.inl ((i12 x).2 (.inl e.symm))));rw [i1] at this;exact ⟨⟨_,_,_,_,_,this⟩,by rw [H8 this]; simp only [szT]⟩
  have hG1:∀ z,(z=x\/z=m\/z=a)->¬ G1 z:=by
   rintro z (rfl|rfl|rfl) hz
   ·exact h9 ((j4 _).2 (.inl hz))
   ·exact h10 ((j4 _).2 (.inl hz))
   ·exact h11 ((j4 _).2 (.inl hz))
  have r1:iM D N1 s u G1:=mZ j2 fun z hz=>n1o z fun e=>h9 ((j4 x).2 (.inl (e ▸ hz)));by_cases h0:szT s=1
  ·have est:stN false ⟨N1,c,x⟩ b=⟨put N1 m (.map (mdel l (iC b)) q),c,u⟩:=by
    unfold stN;have:szN N1 u+dv false=0:=by rw [hus.2,h0]; rfl
    simp only [hkd,j1,cL,if_pos this,xO n1x n1m]
   rw [est] at ec;generalize hN2:put N1 m (.map (mdel l (iC b)) q)=N2 at ec;have n2m:N2 m=.map (mdel l (iC b)) q:=by rw [<- hN2,eS]
   have n2o:∀ z,z≠m->N2 z=N1 z:=fun z hz=>by rw [<- hN2,bS hz]
   have r2:iM D N2 s u G1:=mZ r1 fun z hz=>n2o z fun e=>hG1 m (.inr (.inl rfl)) (e ▸ hz);obtain ⟨F1,p⟩:=wE t (N:=N2) (c:=c) (x:=u) (F:=G1) r2 hw.1 hms;have n'o:=p.old;refine ⟨fun z=>z=x\/z=m\/z=a\/G2 z,?_,?_,?_,?_,?_⟩
   ·rw [ec];simp only [qV,hg,if_pos h0,iM];refine ⟨a,m,[],_,_,G2,?_,?_,(n'o m (hG1 m (.inr (.inl rfl)))).trans n2m,.inl rfl,?_,j6 _ _ (fun z hz=>On fun e=>hz (wO e)) (fun z hz=>?_),h7,h8,fun h=>h9 ((j4 x).2 (.inr h)),fun h=>h10 ((j4 m).2 (.inr h)),fun h=>h11 ((j4 a).2 (.inr h)),fun _=>dP⟩
    ·rw [n'o x (hG1 x (.inl rfl)),n2o x (dY hmx),n1x];have:=Fi hg;have:((ids.length+szK k:Nat):Int)+-1=((ids.length+szK (rZ k b):Nat):Int):=by omega
     rw [this]
    ·rw [n'o a (hG1 a (.inr (.inr rfl))),n2o a h8,n1o a h7];exact h2
    ·have e1:=Om j1;have e2:=(Li hg).map iC;simp only [bL] at e2;exact (List.perm_cons _).1 ((e1.symm.trans h5).trans e2)
    ·have hz':¬ G1 z:=fun h'=>j3 z h' hz;rw [n'o z hz',n2o z fun e=>h10 ((j4 m).2 (.inr (e ▸ hz)))];exact n1o z fun e=>h9 ((j4 x).2 (.inr (e ▸ hz)))
   ·rintro z (h|h|h|h)
    ·exact (h12 z).2 (.inl h)
    ·exact (h12 z).2 (.inr (.inl h))
    ·exact (h12 z).2 (.inr (.inr (.inl h)))
    ·exact (h12 z).2 (.inr (.inr (.inr ((j4 z).2 (.inr h)))))
   ·rw [ec];intro z hz;rw [n'o z fun h=>hz ((h12 z).2 (.inr (.inr (.inr ((j4 z).2 (.inl h)))))),n2o z fun e=>hz ((h12 z).2 (.inr (.inl e)))];exact n1o z fun e=>hz ((h12 z).2 (.inl e))
   ·rw [ec,p.ids,xE];simp only [Og,hg,bZ]
   ·rw [ec]; exact p.c
  ·have est:stN false ⟨N1,c,x⟩ b=⟨N1,c,u⟩:=by
    unfold stN;have:¬ (szN N1 u+dv false=0):=by rw [hus.2]; show ¬ (_+(-1:Int)=0); omega
    simp only [hkd,j1,cL,if_neg this]
   rw [est] at ec;obtain ⟨F1,p⟩:=wE t (N:=N1) (c:=c) (x:=u) (F:=G1) r1 hw.1 hms;have n'o:=p.old;refine ⟨fun z=>z=x\/z=m\/z=a\/(F1 z\/G2 z),?_,?_,?_,?_,?_⟩
   ·rw [ec];simp only [qV,hg,if_neg h0,iM];refine ⟨a,m,[],l,q,fun z=>F1 z\/G2 z,?_,?_,(n'o m (hG1 m (.inr (.inl rfl)))).trans n1m,.inl rfl,?_,j5 _ _ F1 p.rep (fun z hz h'=>j3 z (p.new z hz) h') (fun z hz=>?_),h7,h8,?_,?_,?_,fun _=>dP⟩
    ·rw [n'o x (hG1 x (.inl rfl)),n1x];have:=Bk (s':=qV i t s) hg w.2.1;have:((ids.length+szK k:Nat):Int)+-1=((ids.length+szK (lM k b (qV i t s)):Nat):Int):=by omega
     rw [this]
    ·rw [n'o a (hG1 a (.inr (.inr rfl))),n1o a h7];exact h2
    ·rw [Dn hg w.2.1]; exact h5
    ·rw [n'o z fun h'=>j3 z h' hz];exact n1o z fun e=>h9 ((j4 x).2 (.inr (e ▸ hz)))
    ·rintro (h|h)
     ·exact hG1 x (.inl rfl) (p.new _ h)
     ·exact h9 ((j4 x).2 (.inr h))
    ·rintro (h|h)
     ·exact hG1 m (.inr (.inl rfl)) (p.new _ h)
     ·exact h10 ((j4 m).2 (.inr h))
    ·rintro (h|h)
     ·exact hG1 a (.inr (.inr rfl)) (p.new _ h)
     ·exact h11 ((j4 a).2 (.inr h))
   ·rintro z (h|h|h|h|h)
    ·exact (h12 z).2 (.inl h)
    ·exact (h12 z).2 (.inr (.inl h))
    ·exact (h12 z).2 (.inr (.inr (.inl h)))
    ·exact (h12 z).2 (.inr (.inr (.inr ((j4 z).2 (.inl (p.new z h))))))
    ·exact (h12 z).2 (.inr (.inr (.inr ((j4 z).2 (.inr h)))))
   ·rw [ec];intro z hz;rw [n'o z fun h=>hz ((h12 z).2 (.inr (.inr (.inr ((j4 z).2 (.inl h))))))];exact n1o z fun e=>hz ((h12 z).2 (.inl e))
   ·rw [ec,p.ids,xE];simp only [Og,hg,bZ]
   ·rw [ec]; exact p.c
end T16
end
section
open Go Go.Eng Go.Proofs T1 T2 T3 T4 T5 T6 T7 T8 T9 T10 T11 T12 T13 T14 T15 T16
set_option maxRecDepth 100000
namespace T17
theorem P7 {p:Bool}:∀ (t:B) {s:CS} {K:Int},T8.Ok s K->0<=K->T8.Ok (chN p s t) (K+(t.length:Int)+1)
 | [],s,K,h,_=>by
  have h1:=Ok.bump (p:=p) h;have e:K+(([]:B).length:Int)+1=K+1:=by simp
  rw [e];exact h1
 | b::t,s,K,h,hK=>by
  have h1:=(Ok.bump (p:=p) h).step (p:=p) (by omega) b;have:=P7 (p:=p) t h1 (by omega);have e:K+((b::t).length:Int)+1=K+1+(t.length:Int)+1:=by simp only [aY]; omega
  rw [e];exact this
theorem Cl.list {N:Nat->NO} {c c' x a n m y n':Nat} {sz:Int} {mk:B} {L:List B} (h:Cl N c) (hx:N x=.node a n m sz mk) (hy:(y=a/\∃ A,N a=.arr A)\/(y=c/\c < c')) (hc:c<=c') (hL:L≠[]) (hn:n'<=L.length) :
  Cl (put (put N y (.arr L)) x (.node y n' m sz mk)) c':=by
 have hxc:x < c:=h.lt (by rw [hx]; intro h; cases h);have hy1:y≠x:=by
  rcases hy with ⟨rfl,A,h'⟩|⟨rfl,_⟩
  ·rintro rfl; rw [h'] at hx; cases hx
  ·omega
 have hyc:y < c':=by
  rcases hy with ⟨rfl,A,h'⟩|⟨rfl,h'⟩
  ·have:=h.lim _ _ _ _ _ _ hx; omega
  ·exact h'
 have hym:∀ l q,N y≠.map l q:=by
  rcases hy with ⟨rfl,A,h'⟩|⟨rfl,_⟩
  ·intro l q; rw [h']; intro h; cases h
  ·intro l q; rw [h.free _ (aL _)]; intro h; cases h
 have hyn:∀ a n m sz mk,N y≠.node a n m sz mk:=by
  rcases hy with ⟨rfl,A,h'⟩|⟨rfl,_⟩
  ·intro a n m sz mk; rw [h']; intro h; cases h
  ·intro a n m sz mk; rw [h.free _ (aL _)]; intro h; cases h
 have oth:∀ z,z≠x->z≠y->put (put N y (.arr L)) x (.node y n' m sz mk) z=N z:=fun z h1 h2=>by rw [bS h1,bS h2]
 have atx:put (put N y (.arr L)) x (.node y n' m sz mk) x=.node y n' m sz mk:=eS _ _ _;have aty:put (put N y (.arr L)) x (.node y n' m sz mk) y=.arr L:=by rw [bS hy1,eS]
 have cs:∀ {z:Nat} {o:NO},put (put N y (.arr L)) x (.node y n' m sz mk) z=o->(z=x/\o=.node y n' m sz mk)\/(z=y/\o=.arr L)\/(z≠x/\z≠y/\N z=o):=by
  intro z o e;by_cases h1:z=x
  ·subst h1; rw [atx] at e; exact .inl ⟨rfl,e.symm⟩
  ·by_cases h2:z=y
   ·subst h2; rw [aty] at e; exact .inr (.inl ⟨rfl,e.symm⟩)
   ·rw [oth z h1 h2] at e; exact .inr (.inr ⟨h1,h2,e⟩)
 have nolist:∀ {i a' n1 m1 sz1 mk1},N i=.node a' n1 m1 sz1 mk1->i≠x->a'≠y:=by
  rintro i a' n1 m1 sz1 mk1 hi hne rfl;rcases hy with ⟨rfl,_⟩|⟨rfl,_⟩
  ·exact hne (h.own _ _ _ _ _ _ _ _ _ _ _ hi hx)
  ·have:=h.lim _ _ _ _ _ _ hi; omega
 refine ⟨fun i hi=>?_,fun i a' n1 m1 sz1 mk1 hi=>?_,fun i l q hi e he=>?_,fun i a' n1 m1 sz1 mk1 hi=>?_,fun i a' n1 m1 sz1 mk1 hi=>?_,fun i j a' n1 m1 sz1 mk1 n2 m2 sz2 mk2 hi hj=>?_,fun i l q hi=>?_⟩
 ·rw [oth i (by omega) (by omega)]; exact h.free i (by omega)
 ·have key:∃ a n sz mk i,N i=.node a n m1 sz mk:=by
   rcases cs hi with ⟨rfl,k⟩|⟨_,k⟩|⟨_,_,k⟩
   ·cases k; exact ⟨_,_,_,_,_,hx⟩
   ·cases k
   ·exact ⟨_,_,_,_,_,k⟩
  obtain ⟨_,_,_,_,_,k⟩:=key;obtain ⟨l,q,e⟩:=h.kids _ _ _ _ _ _ k;exact ⟨l,q,by rw [oth _ (rT hx e) (fun h'=>hym l q (h' ▸ e))]; exact e⟩
 ·rcases cs hi with ⟨rfl,k⟩|⟨_,k⟩|⟨_,_,k⟩
  ·cases k
  ·cases k
  ·obtain ⟨h1,a2,n2,m2,s2,k2,h2⟩:=h.ent _ _ _ k e he;refine ⟨h1,?_⟩;by_cases hz:e.2.1=x
   ·rw [hz]; exact ⟨_,_,_,_,_,atx⟩
   ·exact ⟨_,_,_,_,_,by rw [oth _ hz (fun h'=>hyn _ _ _ _ _ (h' ▸ h2))]; exact h2⟩
 ·rcases cs hi with ⟨rfl,k⟩|⟨_,k⟩|⟨h1,_,k⟩
  ·cases k; exact .inr ⟨L,aty,hL,hn⟩
  ·cases k
  ·have hne:=nolist k h1;have hnx:a'≠x:=by
    rintro rfl;rcases h.lst _ _ _ _ _ _ k with ⟨e,_⟩|⟨A,e,_⟩ <;> rw [hx] at e <;> cases e
   rw [oth a' hnx hne];exact h.lst _ _ _ _ _ _ k
 ·rcases cs hi with ⟨rfl,k⟩|⟨_,k⟩|⟨h1,_,k⟩
  ·cases k; exact hyc
  ·cases k
  ·have:=h.lim _ _ _ _ _ _ k; omega
 ·rcases cs hi with ⟨h1,k⟩|⟨_,k⟩|⟨h1,_,k⟩
  ·cases k;rcases cs hj with ⟨h2,k'⟩|⟨_,k'⟩|⟨h2,_,k'⟩
   ·rw [h1,h2]
   ·cases k'
   ·exact absurd rfl (nolist k' h2)
  ·cases k
  ·rcases cs hj with ⟨h2,k'⟩|⟨_,k'⟩|⟨h2,_,k'⟩
   ·cases k'; exact absurd rfl (nolist k h1)
   ·cases k'
   ·exact h.own _ _ _ _ _ _ _ _ _ _ _ k k'
 ·rcases cs hi with ⟨rfl,k⟩|⟨_,k⟩|⟨_,_,k⟩
  ·cases k
  ·cases k
  ·exact h.tick _ _ _ k
theorem Bd.list {N:Nat->NO} {x a n m y n':Nat} {sz K:Int} {mk:B} {L:List B} (h:Bd N K) (hx:N x=.node a n m sz mk):Bd (put (put N y (.arr L)) x (.node y n' m sz mk)) K:=by
 intro i a1 n1 m1 sz1 mk1 hi;rcases fD hi with ⟨rfl,k⟩|⟨_,k⟩
 ·cases k; exact h _ _ _ _ _ _ hx
 ·rcases fD k with ⟨_,k⟩|⟨_,k⟩
  ·cases k
  ·exact h _ _ _ _ _ _ k
theorem Ty {s:CS} {K:Int} (h:T8.Ok s K) {y:Nat} {i:B} (hy:(y=Eu s.N s.x/\fV s.N y≠[])\/y=s.c) (r:Nat) (hr:isNode s.N r):T8.Ok ⟨jL true s.N s.x y i,s.c+1,r⟩ K:=by
 obtain ⟨a,n,m,sz,mk,e⟩:=h.nd;have ee:jL true s.N s.x y i=put (put s.N y (.arr (pZ (fV s.N a) n (eO (gO s.N a n) i) i))) s.x (.node y (n+1) m sz mk):=by simp only [jL,e,cond_true]
 have hle:n<=(fV s.N a).length:=by
  rcases h.cl.lst _ _ _ _ _ _ e with ⟨_,h0⟩|⟨A,h0,_,h1⟩
  ·omega
  ·simp only [fV,h0]; exact h1
 have hp:eO (gO s.N a n) i<=n:=by have:=wY (gO s.N a n) i; rwa [pP (h.cl.lst _ _ _ _ _ _ e)] at this
 have hlen:=Mc (A:=fV s.N a) (v:=i) hp hle;have hy':(y=a/\∃ A,s.N a=.arr A)\/(y=s.c/\s.c < s.c+1):=by
  rcases hy with ⟨h1,h2⟩|h1
  ·have:y=a:=by rw [h1]; simp only [Eu,e]
   subst this;refine .inl ⟨rfl,?_⟩;rcases h.cl.lst _ _ _ _ _ _ e with ⟨h0,_⟩|⟨A,h0,_⟩
   ·simp [fV,h0] at h2
   ·exact ⟨A,h0⟩
  ·exact .inr ⟨h1,fK _⟩
 refine ⟨?_,?_,?_⟩
 ·show Cl (jL true s.N s.x y i) (s.c+1);rw [ee];exact Cl.list h.cl e hy' (iH _) (fun h0=>by rw [h0] at hlen; simp at hlen) (by rw [hlen]; exact aL _)
 ·show isNode (jL true s.N s.x y i) r;rw [ee];refine xA ⟨_,_,_,_,_,rfl⟩ ?_;obtain ⟨a1,n1,m1,s1,k1,e1⟩:=hr;refine ⟨a1,n1,m1,s1,k1,?_⟩;rw [bS]
  ·exact e1
  ·rintro rfl;rcases hy' with ⟨rfl,A,h0⟩|⟨h0,_⟩
   ·rw [h0] at e1; cases e1
   ·rw [h0,h.cl.free _ (aL _)] at e1; cases e1
 ·show Bd (jL true s.N s.x y i) K;rw [ee];exact Bd.list h.bd e
theorem Qg {s:CS} {K:Int} (h:T8.Ok s K) {i:B} (hi:i∈oV s.N s.x) (r:Nat) (hr:isNode s.N r):T8.Ok ⟨jL false s.N s.x 0 i,s.c,r⟩ K:=by
 obtain ⟨a,n,m,sz,mk,e⟩:=h.nd;rw [rQ e] at hi;have ee:jL false s.N s.x 0 i=put (put s.N a (.arr (wB (fV s.N a) n (eO (gO s.N a n) i)))) s.x (.node a (n - 1) m sz mk):=by simp only [jL,e,cond_false]
 obtain ⟨A,hA,hA0,hA1⟩:∃ A,s.N a=.arr A/\A≠[]/\n<=A.length:=by
  rcases h.cl.lst _ _ _ _ _ _ e with ⟨h0,_⟩|h0
  ·simp [gO,h0] at hi
  ·exact h0
 refine ⟨?_,?_,?_⟩
 ·show Cl (jL false s.N s.x 0 i) s.c;rw [ee];refine Cl.list h.cl e (.inl ⟨rfl,A,hA⟩) (aL _) (fun h0=>by simp [wB] at h0) ?_;simp only [fV,hA,wB,aV,cG,cN,aY,dA];omega
 ·show isNode (jL false s.N s.x 0 i) r;rw [ee];refine xA ⟨_,_,_,_,_,rfl⟩ ?_;obtain ⟨a1,n1,m1,s1,k1,e1⟩:=hr;refine ⟨a1,n1,m1,s1,k1,?_⟩;rw [bS]
  ·exact e1
  ·rintro rfl; rw [hA] at e1; cases e1
 ·show Bd (jL false s.N s.x 0 i) K;rw [ee];exact Bd.list h.bd e
theorem Cu {p:Bool} {N:Nat->NO} {x z:Nat} (h:isNode N z):isNode (bump p N x) z:=by
 unfold bump;split
 ·exact xA ⟨_,_,_,_,_,rfl⟩ h
 ·exact h
theorem Ez {p:Bool}:∀ (t:B) {s:CS} {K:Int},T8.Ok s K->0<=K->∀ {z:Nat},isNode s.N z->isNode (chN p s t).N z
 | [],s,K,h,_,z,hz=>Cu hz
 | b::t,s,K,h,hK,z,hz=>by
  have h0:=Ok.bump (p:=p) h;refine Ez (p:=p) t (h0.step (p:=p) (by omega) b) (by omega) ?_;have hz':isNode (bump p s.N s.x) z:=Cu hz;obtain ⟨a,n,m,sz,mk,(e:bump p s.N s.x s.x=.node a n m sz mk)⟩:=h0.nd;obtain ⟨l,q,(hm:bump p s.N s.x m=.map l q)⟩:=h0.cl.kids _ _ _ _ _ _ e;have hzc:z < s.c:=h0.cl.lt (by obtain ⟨_,_,_,_,_,e⟩:=hz'; show bump p s.N s.x z≠_; rw [e]; intro h; cases h);have mapped:∀ {M:Nat->NO} {l' q'},isNode M z->(∃ l q,M m=.map l q)->isNode (put M m (.map l' q')) z:=by
   rintro M l' q' ⟨a1,n1,m1,s1,k1,e1⟩ ⟨l,q,e2⟩;exact ⟨a1,n1,m1,s1,k1,by rw [bS (fun h=>by rw [h,e2] at e1; cases e1)]; exact e1⟩
  unfold stN;split
  ·show isNode (An (bump p s.N s.x) s.c s.x b) z;rw [tV e hm];have hmc:m < s.c:=h0.cl.lt (by show bump p s.N s.x m≠_; rw [hm]; intro h; cases h);refine mapped ?_ ⟨l,q,(uD hmc).trans hm⟩;obtain ⟨a1,n1,m1,s1,k1,e1⟩:=hz';exact ⟨a1,n1,m1,s1,k1,(uD hzc).trans e1⟩
  ·show isNode (if _ then _ else _) z;split
   ·show isNode (Iy (bump p s.N s.x) s.x b) z;rw [xO e hm];exact mapped hz' ⟨l,q,hm⟩
   ·exact hz'
theorem Dj {D:Dg} {N:Nat->NO}:∀ (t:B) {T:TT} {x:Nat} {F:Nat->Prop},iM D N T x F->wfT T ->
  (∀ s,gG t T=some s->∃ v G,atN N x t=some v/\iM D N s v G)/\(gG t T=none->atN N x t=none)
 | [],T,x,F,h,_=>⟨fun s e=>(by cases e; exact ⟨x,F,rfl,h⟩),fun e=>(by cases e)⟩
 | b::t,.node ids k,x,F,h,w=>by
  simp only [iM] at h;obtain ⟨a,m,mk,l,q,G,h1,_,h3,_,h5,h6,_⟩:=h;simp only [wfT] at w;have hkd:xY N x b=(mget l (iC b)).map (·.1):=qD h1 h3 b;simp only [gG,atN];cases hg:eW k b with
  | none =>
   have hb:b ∉ dF k:=fun h=>by obtain ⟨s,e⟩:=xV h; rw [hg] at e; cases e
   have hbl:iC b ∉ l.map (·.1):=fun h=>by
    obtain ⟨x,hx,e⟩:=bF.1 (h5.mem_iff.1 h);exact hb (wO e ▸ hx)
   rw [hkd,Co hbl];exact ⟨fun s e=>(by cases e),fun _=>rfl⟩
  | some s =>
   obtain ⟨u,τ,G1,G2,j1,j2,_⟩:=pW h6 hg w.2.1;rw [hkd,j1];exact Dj t j2 (nW hg w.2.2).1
theorem zQ {D:Dg} {N:Nat->NO} {T:TT} {v:Nat} {F:Nat->Prop} (h:iM D N T v F):oV N v=zI T/\szN N v=(szT T:Nat):=by
 obtain ⟨ids,k⟩:=T;simp only [iM] at h;obtain ⟨a,m,mk,l,q,G,h1,h2,_⟩:=h;exact ⟨by rw [rQ h1]; exact (Di h2).1,by rw [H8 h1]; simp only [szT]⟩
theorem Bj:∀ (t:B) {T s:TT},gG t T=some s->(zI s).length<=szT T
 | [],.node ids k,s,e=>by cases e; simp only [zI,szT]; omega
 | b::t,.node ids k,s,e=>by
  simp only [gG] at e;cases hg:eW k b with
  | none=>rw [hg] at e; cases e
  | some s' =>
   rw [hg] at e;have h1:=Bj t e;have h2:∀ {k:TK},eW k b=some s'->szT s'<=szK k:=by
    intro k hk;have:=Fi hk;omega
   have:=h2 hg;simp only [szT]; omega
theorem Kv:∀ (t:B) {T s:TT},wfT T->gG t T=some s->wfT s
 | [],T,s,w,e=>by cases e; exact w
 | b::t,.node ids k,s,w,e=>by
  simp only [wfT] at w;simp only [gG] at e;cases hg:eW k b with
  | none=>rw [hg] at e; cases e
  | some s'=>rw [hg] at e; exact Kv t (nW hg w.2.2).1 e
theorem Ui {D:Dg} {N:Nat->NO} {t i:B} {T:TT} {x:Nat} {F:Nat->Prop} (h:iM D N T x F) (w:wfT T):uI N x t i=true ↔ jS t i T:=by
 obtain ⟨h1,h2⟩:=Dj t h w;unfold uI jS;cases hs:gG t T with
 | none=>rw [h2 hs]; simp
 | some s =>
  obtain ⟨v,G,hv,hr⟩:=h1 s hs;rw [hv];simp [(zQ hr).1]
end T17
end
