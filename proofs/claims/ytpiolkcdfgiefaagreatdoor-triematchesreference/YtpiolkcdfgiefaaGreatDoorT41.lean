/- A part of the proof. -/
import Derived.Test.YtpiolkcdfgiefaaGreatDoorD14
set_option maxHeartbeats 10000000
open Go Go.Eng Go.Proofs T1 T4 T11 T13 T14 T17 T18 T23 T31 D9 D11 D12 T35
set_option maxRecDepth 100000
namespace T41
def pf(p:B)(k:B×B):Bool:=p.isPrefixOf k.1
theorem A1{p:B}{k:B×B}:pf p k=true↔∃t,k.1=p++t:=by
 unfold pf;rw[List.isPrefixOf_iff_prefix];exact⟨λ⟨t,e⟩=>⟨t,e.symm⟩,(by grind)⟩
theorem aEn{p q:B}{b:UInt8}:∀(k:TK),Sb (cC k)->wfK k->(nO q k).filter (pf (q++b::p))=match dN k b with
  |some s=>(bB (q++[b]) s).filter (pf (q++b::p))
  |none=>[]
 |.nil,_,_=>rfl
 |.cons x u r,hs,w=>by
  simp only[cC]at hs;simp only[wfK]at w;have p1:=aT.1 hs;simp only[nO,jZ,dN];rw[aEn r p1.2 w.2.2];by_cases e:x=b
  .subst e;rw[if_pos rfl,qA λhm=>gZ _ (p1.1 _ hm)];simp
  .rw [if_neg e];have:(bB (q++[x]) u).filter (pf (q++b::p))=[]:=by
    rw[iB];rintro⟨t,i⟩ hm hp;obtain⟨s,e1,_⟩:=(mem_keys u _ w.1 t i).1 hm
    grind[A1,List.append_cancel_left]
   grind
theorem fil:∀(p:B) (T:TT) (q:B),wfT T->(bB q T).filter (pf (q++p))=match bV p T with
  |some s=>bB (q++p) s
  |none=>[]
 | [],T,q,w=>by
  grind[bV,List.filter_eq_self,mem_keys,A1]
 |b::p,.node ids k,q,w=>by
  simp only[wfT]at w;simp only[bB,jZ,bV];have h0:(ids.map λi=>(q,i)).filter (pf (q++b::p))=[]:=by
   rw[iB];intro x hx hp;obtain⟨i,_,rfl⟩:=cD.1 hx;simp_all[A1]
  rw[h0,eE,aEn k w.2.1 w.2.2];cases hg:dN k b with
  |none=>rfl
  |some s =>
   have:=fil p s (q++[b]) (kZ hg w.2.2).1
   grind
def sF(p:B)(l:List (B×B)):List B:=(l.filter λk=>decide (k.1=p)).map (·.2)
def nxS(p n t:B):B:=if n=[]\/n.drop (n.length-1)≠(t.drop p.length).take 1 then n++(t.drop p.length).take 1 else n
def nx1(p n:B)(k:B×B):B:=if pf p k=true/\k.1≠p then nxS p n k.1 else n
def nxV(p n:B)(l:List (B×B)):B:=l.foldl (nx1 p) n
theorem Wz(p:B)(l:List (B×B)):sF p l=sF p (l.filter (pf p)):=by
 unfold sF
 grind[List.filter_filter,pf]
theorem Ke(p:B):∀(l:List (B×B)) (n:B),nxV p n l=nxV p n (l.filter (pf p))
 | [],_=>rfl
 |k::l,n=>by
  unfold nxV;rw[fO];cases h:pf p k with
  |true =>
   rw[fG h,fO];exact Ke p l _
  |false =>
   rw[List.filter_cons_of_neg (by rw[h]; decide)];have:nx1 p n k=n:=by grind[nx1]
   rw[this];exact Ke p l n
theorem W5{p:B}{T:TT}(w:wfT T):sF p (bB p T)=vY T:=by
 cases T with
 |node ids k =>
 simp only[wfT]at w;unfold sF;simp only[bB,jZ,eD];have h1:(nO p k).filter (λk=>decide (k.1=p))=[]:=by
  rw[iB];rintro⟨t,i⟩ hm hp;obtain⟨b,s,e,_⟩:=(qF k p w.2.1 w.2.2 t i).1 hm;simp_all
 have h2:(ids.map λi=>(p,i)).filter (λk=>decide (k.1=p))=ids.map λi=>(p,i):=by
  simp
 simp[*,List.map_map,vY,Function.comp_def]
theorem Mz{p:B}{b:UInt8}:∀(l:List (B×B)) (n:B),(∀k∈l,∃t,k.1=p++b::t)->nxV p (n++[b]) l=n++[b]
 | [],_,_=>rfl
 |k::l,n,h=>by
  obtain⟨t,e⟩:=h k aZ;have e1:nx1 p (n++[b]) k=n++[b]:=by
   simp_all[nx1,nxS]
  unfold nxV;rw[fO,e1];exact Mz l n λk hk=>h k (aW _ hk)
theorem aCw{p:B}{b:UInt8}{l:List (B×B)}{n:B}(h:∀k∈l,∃t,k.1=p++b::t)(hl:l≠[])(hn:n=[]\/n.drop (n.length-1)≠[b]):nxV p n l=n++[b]:=by
 cases l with
 |nil=>grind
 |cons k l =>
  obtain⟨t,e⟩:=h k aZ;have e1:nx1 p n k=n++[b]:=by
   have h1:pf p k=true:=A1.2 ⟨_,e⟩;have h2:k.1≠p:=(by simp_all);simp_all[nx1,nxS]
  unfold nxV;rw[fO,e1];exact Mz l n λk hk=>h k (aW _ hk)
theorem My{p:B}:∀(k:TK) (n:B),Sb (cC k)->wfK k->(n=[]\/∃m x,n=m++[x]/\∀y∈cC k,x<y)->nxV p n (nO p k)=n++cC k
 |.nil,n,_,_,_=>(eY n).symm
 |.cons b s r,n,hs,w,hn=>by
  simp only[cC]at hs hn ⊢;simp only[wfK]at w;have p1:=aT.1 hs;have h1:nxV p n (bB (p++[b]) s)=n++[b]:=by
   refine aCw ?_ ?_ ?_
   .grind [mem_keys]
   .grind [nC]
   .rcases hn with hn|⟨m,x,e,h⟩
    .grind
    .refine .inr ?_;have:=h b aZ
     grind[List.drop_left]
  simp only[nO];unfold nxV at h1 ⊢;rw[List.foldl_append,h1];have:=My (p:=p) r (n++[b]) p1.2 w.2.2 (by grind)
  grind[nxV]
theorem Tp{p:B}:∀(ids:List B) (n:B),nxV p n (ids.map λi=>(p,i))=n
 | [],_=>rfl
 |i::ids,n=>by
  unfold nxV;rw[bK,fO];have:nx1 p n (p,i)=n:=by unfold nx1; simp
  rw[this];exact Tp ids n
theorem aCu{p:B}{ids:List B}{k:TK}(w:wfT (.node ids k)):nxV p [] (bB p (.node ids k))=cC k:=by
 simp only[wfT]at w;have h1:=Tp (p:=p) ids [];have h2:=My (p:=p) k [] w.2.1 w.2.2 (.inl rfl)
 grind[bB,nxV]
theorem Wy{p:B}{T:TT}(w:wfT T):sF p (bB [] T)=(ndO (bV p T)).ids:=by
 rw[Wz];have h:=fil p T [] w;rw[eE]at h;rw[h];cases hs:bV p T with
 |none=>rfl
 |some s =>
  rw[W5 (vC p w hs)];cases s; rfl
theorem aCt{p:B}{T:TT}(w:wfT T):nxV p [] (bB [] T)=(ndO (bV p T)).bys:=by
 rw[Ke];have h:=fil p T [] w;rw[eE]at h;rw[h];cases hs:bV p T with
 |none=>rfl
 |some s =>
  have hw:=vC p w hs;cases s with
  |node ids k =>
  rw[aCu hw];exact(zY k).symm
theorem Ol{p:B}{T:TT}(w:wfT T):(p=[]\/∃k∈bB [] T,pf p k=true)↔(bV p T).isSome=true:=by
 have h:=fil p T [] w;rw[eE]at h;constructor
 .rintro (rfl|⟨k,hk,hp⟩)
  .rfl
  grind[List.filter_eq_nil_iff]
 .intro hs;cases hp:p with
  |nil=>simp
  |cons b t =>
   refine .inr ?_;rw[hp]at h hs;obtain⟨s,e⟩:=Option.isSome_iff_exists.1 hs;have hpos:=pos_sub t e w;rw[e]at h;have hl:0<(bB (b::t) s).length:=by grind[nC]
   obtain⟨k,hk⟩:∃k,k∈bB (b::t) s:=⟨_,eM hl⟩
   grind
where
 pos_sub {b:UInt8}:∀(t:B) {T s:TT},bV (b::t) T=some s->wfT T->0<szT s
  | [],.node ids k,s,e,w=>by
   simp only[bV]at e;obtain⟨u,hg,e2⟩:=aD.1 e;replace e2:some u=some s:=e2;cases e2;simp only[wfT]at w;exact(kZ hg w.2.2).2
  |c::t,.node ids k,s,e,w=>by
   simp only[bV]at e;obtain⟨u,hg,e2⟩:=aD.1 e;simp only[wfT]at w;exact pos_sub t (b:=c) e2 (kZ hg w.2.2).1
end T41
