/- A part of the proof. -/
import Derived.Test.YtpiolkcdfgiefaaGreatDoorX8
import Derived.Test.YtpiolkcdfgiefaaGreatDoorD14
open Go Go.Eng Go.Proofs T1 T4 T11 T13 T14 T17 T18 T23 T31 D9 D11 D12 T35
set_option maxRecDepth 100000
namespace T41
def pf (p:B) (k:B×B):Bool:=p.isPrefixOf k.1
theorem Wq {p:B} {k:B×B}:pf p k=true ↔ ∃ t,k.1=p++t:=by
 unfold pf
 rw [List.isPrefixOf_iff_prefix]
 exact ⟨fun ⟨t,e⟩=>⟨t,e.symm⟩,fun ⟨t,e⟩=>⟨t,e.symm⟩⟩
theorem Ye {p q:B} {b:UInt8}:∀ (k:TK),Sb (aP k)->wfK k->(nF q k).filter (pf (q++b::p))=match cC k b with
  | some s=>(bS (q++[b]) s).filter (pf (q++b::p))
  | none=>[]
 | .nil,_,_=>rfl
 | .cons x u r,hs,w=>by
  simp only [aP] at hs
  simp only [wfK] at w
  have p1:=List.pairwise_cons.1 hs
  simp only [nF,List.filter_append,cC]
  rw [Ye r p1.2 w.2.2]
  by_cases e:x=b
  ·subst e
   rw [if_pos rfl,rT fun hm=>UInt8.lt_irrefl _ (p1.1 _ hm)]
   exact List.append_nil _
  ·rw [if_neg e]
   have:(bS (q++[x]) u).filter (pf (q++b::p))=[]:=by
    rw [List.filter_eq_nil_iff]
    rintro ⟨t,i⟩ hm hp
    obtain ⟨s,e1,_⟩:=(mem_keys u _ w.1 t i).1 hm
    obtain ⟨s',e2⟩:=Wq.1 hp
    replace e2:t=q++b::p++s':=e2
    rw [e1,List.append_assoc,List.append_assoc] at e2
    have e3:=List.append_cancel_left e2
    simp only [List.cons_append,List.cons.injEq] at e3
    exact e e3.1
   rw [this]
   rfl
theorem fil:∀ (p:B) (T:TT) (q:B),wfT T->(bS q T).filter (pf (q++p))=match cL p T with
  | some s=>bS (q++p) s
  | none=>[]
 | [],T,q,w=>by
  simp only [cL,List.append_nil]
  rw [List.filter_eq_self]
  rintro ⟨t,i⟩ hm
  obtain ⟨s,e,_⟩:=(mem_keys T q w t i).1 hm
  exact Wq.2 ⟨s,e⟩
 | b::p,.node ids k,q,w=>by
  simp only [wfT] at w
  simp only [bS,List.filter_append,cL]
  have h0:(ids.map fun i=>(q,i)).filter (pf (q++b::p))=[]:=by
   rw [List.filter_eq_nil_iff]
   intro x hx hp
   obtain ⟨i,_,rfl⟩:=List.mem_map.1 hx
   obtain ⟨s,e⟩:=Wq.1 hp
   have:=congrArg List.length e
   simp only [List.length_append,List.length_cons] at this
   omega
  rw [h0,List.nil_append,Ye k w.2.1 w.2.2]
  cases hg:cC k b with
  | none=>rfl
  | some s =>
   have:=fil p s (q++[b]) (iA hg w.2.2).1
   rw [List.append_assoc] at this
   exact this
def Wp (p:B) (l:List (B×B)):List B:=(l.filter fun k=>decide (k.1=p)).map (·.2)
def nxS (p n t:B):B:=if n=[]\/n.drop (n.length - 1)≠(t.drop p.length).take 1 then n++(t.drop p.length).take 1 else n
def nx1 (p n:B) (k:B×B):B:=if pf p k=true/\k.1≠p then nxS p n k.1 else n
def nxV (p n:B) (l:List (B×B)):B:=l.foldl (nx1 p) n
theorem Xs (p:B) (l:List (B×B)):Wp p l=Wp p (l.filter (pf p)):=by
 unfold Wp
 rw [List.filter_filter]
 congr 1
 refine List.filter_congr fun k _=>?_
 by_cases e:k.1=p
 ·have:pf p k=true:=Wq.2 ⟨[],by rw [e,List.append_nil]⟩
  simp [e,this]
 ·simp [e]
theorem Wz (p:B):∀ (l:List (B×B)) (n:B),nxV p n l=nxV p n (l.filter (pf p))
 | [],_=>rfl
 | k::l,n=>by
  unfold nxV
  rw [List.foldl_cons]
  cases h:pf p k with
  | true =>
   rw [List.filter_cons_of_pos h,List.foldl_cons]
   exact Wz p l _
  | false =>
   rw [List.filter_cons_of_neg (by rw [h]; decide)]
   have:nx1 p n k=n:=by unfold nx1; rw [h]; simp
   rw [this]
   exact Wz p l n
theorem Xt {p:B} {T:TT} (w:wfT T):Wp p (bS p T)=tI T:=by
 cases T with
 | node ids k =>
 simp only [wfT] at w
 unfold Wp
 simp only [bS,List.filter_append,List.map_append]
 have h1:(nF p k).filter (fun k=>decide (k.1=p))=[]:=by
  rw [List.filter_eq_nil_iff]
  rintro ⟨t,i⟩ hm hp
  obtain ⟨b,s,e,_⟩:=(oE k p w.2.1 w.2.2 t i).1 hm
  have e2:t=p:=of_decide_eq_true hp
  rw [e2] at e
  have:=congrArg List.length e
  simp only [List.length_append,List.length_cons] at this
  omega
 have h2:(ids.map fun i=>(p,i)).filter (fun k=>decide (k.1=p))=ids.map fun i=>(p,i):=by
  rw [List.filter_eq_self]
  intro x hx
  obtain ⟨i,_,rfl⟩:=List.mem_map.1 hx
  exact decide_eq_true rfl
 rw [h1,h2,List.map_map]
 simp [tI,Function.comp_def]
theorem Xb {p:B} {b:UInt8}:∀ (l:List (B×B)) (n:B),(∀ k∈l,∃ t,k.1=p++b::t)->nxV p (n++[b]) l=n++[b]
 | [],_,_=>rfl
 | k::l,n,h=>by
  obtain ⟨t,e⟩:=h k List.mem_cons_self
  have e1:nx1 p (n++[b]) k=n++[b]:=by
   unfold nx1 nxS
   rw [e]
   simp
  unfold nxV
  rw [List.foldl_cons,e1]
  exact Xb l n fun k hk=>h k (List.mem_cons_of_mem _ hk)
theorem X9 {p:B} {b:UInt8} {l:List (B×B)} {n:B} (h:∀ k∈l,∃ t,k.1=p++b::t) (hl:l≠[]) (hn:n=[]\/n.drop (n.length - 1)≠[b]):nxV p n l=n++[b]:=by
 cases l with
 | nil=>exact absurd rfl hl
 | cons k l =>
  obtain ⟨t,e⟩:=h k List.mem_cons_self
  have e1:nx1 p n k=n++[b]:=by
   have h1:pf p k=true:=Wq.2 ⟨_,e⟩
   have h2:k.1≠p:=fun e2=>by
    rw [e2] at e
    have:=congrArg List.length e
    simp only [List.length_append,List.length_cons] at this
    omega
   have h3:(k.1.drop p.length).take 1=[b]:=by rw [e]; simp
   unfold nx1 nxS
   rw [if_pos ⟨h1,h2⟩,h3,if_pos hn]
  unfold nxV
  rw [List.foldl_cons,e1]
  exact Xb l n fun k hk=>h k (List.mem_cons_of_mem _ hk)
theorem Xa {p:B}:∀ (k:TK) (n:B),Sb (aP k)->wfK k->(n=[]\/∃ m x,n=m++[x]/\∀ y∈aP k,x < y)->nxV p n (nF p k)=n++aP k
 | .nil,n,_,_,_=>(List.append_nil n).symm
 | .cons b s r,n,hs,w,hn=>by
  simp only [aP] at hs hn ⊢
  simp only [wfK] at w
  have p1:=List.pairwise_cons.1 hs
  have h1:nxV p n (bS (p++[b]) s)=n++[b]:=by
   refine X9 ?_ ?_ ?_
   ·rintro ⟨t,i⟩ hk
    obtain ⟨u,e,_⟩:=(mem_keys s _ w.1 t i).1 hk
    exact ⟨u,by rw [e,List.append_assoc]; rfl⟩
   ·intro e
    have:=qP s (p++[b])
    rw [e] at this
    have:=w.2.1
    simp only [List.length_nil] at *
    omega
   ·rcases hn with hn|⟨m,x,e,h⟩
    ·exact .inl hn
    ·refine .inr ?_
     have:=h b List.mem_cons_self
     rw [e]
     simp only [List.length_append,List.length_singleton,Nat.add_sub_cancel,List.drop_left]
     intro e2
     cases e2
     exact UInt8.lt_irrefl _ this
  simp only [nF]
  unfold nxV at h1 ⊢
  rw [List.foldl_append,h1]
  have:=Xa (p:=p) r (n++[b]) p1.2 w.2.2 (.inr ⟨n,b,rfl,fun y hy=>p1.1 y hy⟩)
  unfold nxV at this
  rw [this,List.append_assoc]
  rfl
theorem Xk {p:B}:∀ (ids:List B) (n:B),nxV p n (ids.map fun i=>(p,i))=n
 | [],_=>rfl
 | i::ids,n=>by
  unfold nxV
  rw [List.map_cons,List.foldl_cons]
  have:nx1 p n (p,i)=n:=by unfold nx1; simp
  rw [this]
  exact Xk ids n
theorem X7 {p:B} {ids:List B} {k:TK} (w:wfT (.node ids k)):nxV p [] (bS p (.node ids k))=aP k:=by
 simp only [wfT] at w
 have h1:=Xk (p:=p) ids []
 have h2:=Xa (p:=p) k [] w.2.1 w.2.2 (.inl rfl)
 simp only [bS]
 unfold nxV at h1 h2 ⊢
 rw [List.foldl_append,h1]
 exact h2
theorem Xr {p:B} {T:TT} (w:wfT T):Wp p (bS [] T)=(ndO (cL p T)).ids:=by
 rw [Xs]
 have h:=fil p T [] w
 rw [List.nil_append] at h
 rw [h]
 cases hs:cL p T with
 | none=>rfl
 | some s =>
  rw [Xt (F6 p w hs)]
  cases s; rfl
theorem X6 {p:B} {T:TT} (w:wfT T):nxV p [] (bS [] T)=(ndO (cL p T)).bys:=by
 rw [Wz]
 have h:=fil p T [] w
 rw [List.nil_append] at h
 rw [h]
 cases hs:cL p T with
 | none=>rfl
 | some s =>
  have hw:=F6 p w hs
  cases s with
  | node ids k =>
  rw [X7 hw]
  exact (A2 k).symm
theorem Xe {p:B} {T:TT} (w:wfT T):(p=[]\/∃ k∈bS [] T,pf p k=true) ↔ (cL p T).isSome=true:=by
 have h:=fil p T [] w
 rw [List.nil_append] at h
 constructor
 ·rintro (rfl|⟨k,hk,hp⟩)
  ·rfl
  ·cases hs:cL p T with
   | some s=>rfl
   | none =>
    rw [hs] at h
    exact absurd hp ((List.filter_eq_nil_iff.1 h) k hk)
 ·intro hs
  cases hp:p with
  | nil=>exact .inl rfl
  | cons b t =>
   refine .inr ?_
   rw [hp] at h hs
   obtain ⟨s,e⟩:=Option.isSome_iff_exists.1 hs
   have hpos:=pos_sub t e w
   rw [e] at h
   have hl:0 < (bS (b::t) s).length:=by rw [qP]; exact hpos
   obtain ⟨k,hk⟩:∃ k,k∈bS (b::t) s:=⟨_,List.getElem_mem hl⟩
   replace h:(bS [] T).filter (pf (b::t))=bS (b::t) s:=h
   rw [<- h] at hk
   exact ⟨k,(List.mem_filter.1 hk).1,(List.mem_filter.1 hk).2⟩
where
 pos_sub {b:UInt8}:∀ (t:B) {T s:TT},cL (b::t) T=some s->wfT T->0 < szT s
  | [],.node ids k,s,e,w=>by
   simp only [cL] at e
   obtain ⟨u,hg,e2⟩:=Option.bind_eq_some_iff.1 e
   replace e2:some u=some s:=e2
   cases e2
   simp only [wfT] at w
   exact (iA hg w.2.2).2
  | c::t,.node ids k,s,e,w=>by
   simp only [cL] at e
   obtain ⟨u,hg,e2⟩:=Option.bind_eq_some_iff.1 e
   simp only [wfT] at w
   exact pos_sub t (b:=c) e2 (iA hg w.2.2).1
end T41
