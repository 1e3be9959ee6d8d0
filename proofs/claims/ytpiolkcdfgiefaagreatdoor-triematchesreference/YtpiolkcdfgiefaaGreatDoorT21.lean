/- A part of the proof. -/
import Derived.Test.YtpiolkcdfgiefaaGreatDoorT13
section
set_option maxHeartbeats 10000000
open Go Go.Eng Go.Proofs T1 T2 T3 T4 T5 T6 T7 T8 T9 T10 T11 T12 T13
set_option maxRecDepth 100000
namespace T14
theorem Mq{a b:UInt8}(h:a<b):¬b<a:=(by grind)
theorem mG{k:TK}{b:UInt8}{s:TT}(h:dN k b=some s):b∈cC k:=by
 cases hm:decide (b∈cC k) with
 |true=>grind
 |false=>grind[qA]
theorem Dk{b:UInt8}{s s':TT}:∀{k:TK},dN k b=some s->Sb (cC k)->cC (lK k b s')=cC k
 |.nil,h,_=>by cases h
 |.cons x t r,h,hs=>by
  have hs':=aT.1 hs;simp only[dN]at h;simp only[lK];by_cases e:x=b
  .rw [if_pos e]; subst e; rfl
  .rw [if_neg e]at h;rw[if_neg e,if_neg (Mq (hs'.1 _ (mG h)))];simp only[cC];rw[Dk h hs'.2]
theorem Lg{b:UInt8}{s':TT}:∀{k:TK},b∉cC k->(cC (lK k b s')).Perm (b::cC k)
 |.nil,_=>by rfl
 |.cons x t r,h=>by
  simp only[cC,aR,not_or]at h;simp only[lK];rw[if_neg (λe=>h.1 e.symm)];split
  .exact .refl _
  .simp only [cC];exact((Lg h.2).cons x).trans (.swap _ _ _)
theorem mem_set{b y:UInt8}{s':TT}:∀{k:TK},y∈cC (lK k b s')->y=b\/y∈cC k
 |.nil,h=>by grind[lK,cC]
 |.cons x t r,h=>by
  simp only[lK]at h;split at h
  .rename_i e;subst e;exact .inr h
  .split at h
   .rcases aR.1 h with h|h
    .exact .inl h
    .exact .inr h
   .rcases aR.1 h with h|h
    .exact .inr (by rw[h]; exact aZ)
    .rcases mem_set h with h|h
     .exact .inl h
     .exact .inr (aW _ h)
theorem Kn{b:UInt8}{s':TT}:∀{k:TK},Sb (cC k)->Sb (cC (lK k b s'))
 |.nil,_=>List.pairwise_singleton _ _
 |.cons x t r,h=>by
  have h':=aT.1 h;simp only[lK];split
  .rename_i e;subst e;exact h
  .rename_i e;split
   .rename_i hb;refine aT.2 ⟨λy hy=>?_,h⟩;rcases aR.1 hy with rfl|hy
    .exact hb
    grind
   .rename_i hb;refine aT.2 ⟨λy hy=>?_,Kn h'.2⟩;rcases mem_set hy with rfl|hy
    .grind
    simp[*]
theorem Bf{b:UInt8}{s s':TT}:∀{k:TK},dN k b=some s->Sb (cC k)->szK (lK k b s')+szT s=szK k+szT s'
 |.nil,h,_=>by cases h
 |.cons x t r,h,hs=>by
  have hs':=aT.1 hs;simp only[dN]at h;simp only[lK];by_cases e:x=b
  .rw [if_pos e]at h ⊢
   grind[szK]
  .rw [if_neg e]at h;rw[if_neg e,if_neg (Mq (hs'.1 _ (mG h)))];simp only[szK];have:=Bf (s':=s') h hs'.2;omega
theorem K2{b:UInt8}{s':TT}:∀{k:TK},b∉cC k->szK (lK k b s')=szK k+szT s'
 |.nil,_=>by simp[lK,szK]
 |.cons x t r,h=>by
  simp only[cC,aR,not_or]at h;simp only[lK];rw[if_neg (λe=>h.1 e.symm)];split
  .simp only [szK]; omega
  .simp only [szK];rw[K2 h.2]; omega
theorem Ee{b:UInt8}{s':TT}:∀{k:TK},Sb (cC k)->∀y,dN (lK k b s') y=if y=b then some s' else dN k y
 |.nil,_,y=>by
  simp only[lK,dN]
  grind
 |.cons x t r,h,y=>by
  have h':=aT.1 h;simp only[lK];by_cases e:x=b
  .subst e;rw[if_pos rfl];simp only[dN]
   grind
  .rw [if_neg e];split
   .simp only [dN]
    grind
   .simp only [dN];rw[Ee h'.2]
    grind
theorem kZ{b:UInt8}{s:TT}:∀{k:TK},dN k b=some s->wfK k->wfT s/\0<szT s
 |.nil,h,_=>by cases h
 |.cons x t r,h,w=>by
  simp only[wfK]at w;simp only[dN]at h;split at h
  .cases h; exact⟨w.1,w.2.1⟩
  .exact kZ h w.2.2
theorem wf_set{b:UInt8}{s':TT}(h1:wfT s')(h2:0<szT s'):∀{k:TK},wfK k->wfK (lK k b s')
 |.nil,_=>by simp_all[lK,wfK]
 |.cons x t r,w=>by
  simp only[wfK]at w;simp only[lK];split
  .simp only [wfK]; exact⟨h1,h2,w.2.2⟩
  .split
   .simp only [wfK]; exact⟨h1,h2,w⟩
   .simp only [wfK]; exact⟨w.1,w.2.1,wf_set h1 h2 w.2.2⟩
theorem oU:wfT emp:=by simp only[emp,wfT,wfK,cC]; exact⟨.nil,.nil,trivial⟩
theorem Ek(l:List B)(i:B):oY l l.length (eV l i) i=l.take (eV l i)++i::l.drop (eV l i):=by grind[oY]
theorem Gk(l:List B)(i:B):(oY l l.length (eV l i) i).length=l.length+1:=by
 grind[Ek]
theorem Yi{l:List B}(h:Srt l){i:B}(hi:i∉l):Srt (oY l l.length (eV l i) i):=by
 rw[Ek];have hp:=zK l i;refine gG.2 ⟨h.sublist (List.take_sublist _ _),aT.2 ⟨λy hy=>?_,h.sublist (List.drop_sublist _ _)⟩,λx hx y hy=>?_⟩
 .obtain ⟨j,hj,e⟩:=bG hy;rw[gC]at e;have hj':eV l i+j<l.length:=by grind
  have h1:¬(bl (l.getD (eV l i+j) []) i=true):=(by grind[tN]);have e':l.getD (eV l i+j) []=y:=by grind
  rw[e']at h1;cases h2:bl i y with
  |true=>rfl
  |false =>
   have:=Qr (Bool.eq_false_iff.2 h1) h2
   grind
 .have hx1:bl x i=true:=by
   obtain⟨j,hj,e⟩:=bG hx;rw[gD]at e;have hj':j<l.length:=by grind
   have:=(tN h i hj').2 (by simp at hj; omega);simpa[hj',e]using this
  rcases aR.1 hy with rfl|hy
  .exact hx1
  .obtain ⟨j,hj,e⟩:=bG hx;obtain⟨q,hq,e2⟩:=bG hy;rw[gD]at e;rw[gC]at e2;simp at hj hq;have:=h.lt (i:=j) (j:=eV l i+q) (by omega) (by omega)
   grind
def gO(t i:B)(T:TT):Prop:=∃s,bV t T=some s/\i∈vY s
theorem oT{i:B}:∀(t:B) {T:TT},wfT T->szT (mH i t T)=szT T+1
 | [],.node ids k,_=>by
  grind[mH,szT,Gk]
 |b::t,.node ids k,w=>by
  simp only[wfT]at w;simp only[mH,szT];cases hg:dN k b with
  |none =>
   have hb:b∉cC k:=(by grind[xH]);rw[K2 hb];show ids.length+(szK k+szT (mH i t emp))=_;rw[oT t oU];rfl
  |some s =>
   have:=Bf (s':=mH i t s) hg w.2.1;have h2:=oT (i:=i) t (kZ hg w.2.2).1;show ids.length+szK (lK k b (mH i t s))=_;omega
theorem sY{i:B}:∀(t:B) {T:TT},wfT T->¬gO t i T->wfT (mH i t T)
 | [],.node ids k,w,hm=>by
  simp only[wfT]at w;simp only[mH,wfT];exact⟨Yi w.1 λh=>hm ⟨_,rfl,h⟩,w.2⟩
 |b::t,.node ids k,w,hm=>by
  have w':=w;simp only[wfT]at w;simp only[mH,wfT];have h1:wfT ((dN k b).getD emp)/\¬gO t i ((dN k b).getD emp):=by
   cases hg:dN k b with
   |none =>
    refine⟨oU,?_⟩;rintro⟨s,e,hi⟩;cases t with
    |nil=>cases e; cases hi
    |cons c t=>cases e
   |some s =>
    refine⟨(kZ hg w.2.2).1,?_⟩;rintro⟨s',e,hi⟩;exact hm ⟨s',by grind[bV],hi⟩
  refine⟨w.1,Kn w.2.1,wf_set (sY t h1.1 h1.2) ?_ w.2.2⟩;rw[oT t h1.1]; omega
theorem Hq{D:Dg}{N N':Nat->NO}{b:UInt8}{s':TT}{u τ:Nat}{l l':List (bQ×Nat×Nat)}{G1:Nat->Prop}(hu:mget l' (fY b)=some (u,τ))(hl:∀x,x≠b->mget l' (fY x)=mget l (fY x))(h1:gJ D N' s' u G1) :
  ∀{k:TK} {G:Nat->Prop},kK D N k l G->b∉cC k->(∀x,G1 x->¬G x)->(∀x,G x->N' x=N x)->kK D N' (lK k b s') l' (λx=>G1 x\/G x)
 |.nil,G,h,_,hd,_=>by
  simp only[kK]at h;simp only[lK,kK];exact⟨u,τ,G1,G,hu,h1,λx hx=>h x hx,hd,λ_=>dF⟩
 |.cons x t r,G,h,hb,hd,he=>by
  simp only[cC,aR,not_or]at hb;have hx:¬x=b:=λe=>hb.1 e.symm;simp only[lK,if_neg hx];split
  .simp only [kK];refine⟨u,τ,G1,G,hu,h1,?_,hd,λ_=>dF⟩;have h2:=kY (N':=N') h he;have h3:kK D N' (.cons x t r) l' G:=oQ.repK_map (λy hy=>hl y ?_) h2
   .grind [kK]
   .rintro rfl;rcases aR.1 hy with e|hy
    .exact hb.1 e
    grind
  .simp only [kK]at h;obtain⟨v,σ,H1,H2,j1,j2,j3,j4,j5⟩:=h;have:=Hq hu hl h1 j3 hb.2 (λy hy h'=>hd y hy ((j5 y).2 (.inr h'))) (λy hy=>he y ((j5 y).2 (.inr hy)));simp only[kK];refine⟨v,σ,H1,λy=>G1 y\/H2 y,(hl x hx).trans j1,(by grind[lX]),this,?_,?_⟩
   .grind
   grind
end T14
end
section
set_option maxHeartbeats 10000000
open Go Go.Eng Go.Proofs T1 T2 T3 T4 T5 T6 T7 T8 T9 T10 T11 T12 T13 T14
set_option maxRecDepth 100000
namespace T15
theorem G7{V:Type}{l:List (bQ×V×Nat)}{k y:bQ}{v:V}{q:Nat}:mget (l++[(k,v,q)]) y=match mget l y with
  |some e=>some e
  |none=>if k=y then some (v,q)else none:=by
 induction l with
 |nil=>rfl
 |cons x r ih =>
  grind[mget]
theorem De{N:Nat->NO}{a:Nat}{ids:List B}(h:(N a=.none/\ids=[])\/∃A,N a=.arr A/\A≠[]/\ids.length<=A.length/\A.take ids.length=ids) :
  fM N a ids.length=ids/\(fC N a).take ids.length=ids:=by
 grind[fM,fC]
def Ox(T:TT)(b:UInt8):TT :=
 match T with
 |.node _ k=>(dN k b).getD emp
theorem wQ(b:UInt8)(t:B)(T:TT):(bV (b::t) T).getD emp=(bV t (Ox T b)).getD emp:=by
 obtain⟨ids,k⟩:=T;simp only[bV,Ox];cases dN k b with
 |some s=>rfl
 |none =>
  cases t with
  |nil=>rfl
  |cons c t=>rfl
structure aGh(D:Dg)(i:B)(t:B)(N:Nat->NO)(c x:Nat)(T:TT)(F:Nat->Prop)(y:Nat)(F':Nat->Prop):Prop where
 rep:gJ D (iL true (chN true ⟨N,c,x⟩ t).N (chN true ⟨N,c,x⟩ t).x y i) (mH i t T) x F'
 new:∀z,F' z->F z\/(c<=z/\z<(chN true ⟨N,c,x⟩ t).c+1)
 old:∀z,¬F z->z<c->iL true (chN true ⟨N,c,x⟩ t).N (chN true ⟨N,c,x⟩ t).x y i z=N z
 free:∀z,(chN true ⟨N,c,x⟩ t).c+1<=z->iL true (chN true ⟨N,c,x⟩ t).N (chN true ⟨N,c,x⟩ t).x y i z=.none
 le:c<=(chN true ⟨N,c,x⟩ t).c
theorem zM{D:Dg}{i:B}:∀(t:B) {N:Nat->NO} {c x:Nat} {T:TT} {F:Nat->Prop},gJ D N T x F->(∀z,F z->z<c)->(∀z,c<=z->N z=.none)->wfT T ->
  nX (chN true ⟨N,c,x⟩ t).N (chN true ⟨N,c,x⟩ t).x=vY ((bV t T).getD emp) /\
  ∀y,((y=Ew (chN true ⟨N,c,x⟩ t).N (chN true ⟨N,c,x⟩ t).x/\fC (chN true ⟨N,c,x⟩ t).N y≠[])\/y=(chN true ⟨N,c,x⟩ t).c)->∃F',aGh D i t N c x T F y F'
 | [],N,c,x,.node ids k,F,h,hF,h0,w=>by
  simp only[gJ]at h;obtain⟨a,m,mk,l,q,G,h1,h2,h3,h4,h5,h6,h7,h8,h9,h10,h11,h12⟩:=h;have hxc:x<c:=(by grind);have hmc:m<c:=(by grind);have hac:a<c:=(by grind);have hmx:m≠x:=sN h1 h3;have e1:bump true N x=put N x (.node a ids.length m (((ids.length+szK k:Nat):Int)+1) []):=nS h1;have ec:chN true ⟨N,c,x⟩ []=⟨put N x (.node a ids.length m (((ids.length+szK k:Nat):Int)+1) []),c,x⟩:=by show CS.mk _ _ _=_; rw[e1]
  generalize hN1:put N x (.node a ids.length m (((ids.length+szK k:Nat):Int)+1) [])=N1 at ec;have n1x:N1 x=.node a ids.length m (((ids.length+szK k:Nat):Int)+1) []:=by rw[<- hN1,dW]
  have n1o:∀z,z≠x->N1 z=N z:=λz hz=>by rw[<- hN1,bS hz]
  have ha:=De h2;have hla:fM N1 a ids.length=ids:=by grind[fM]
  have haa:(fC N1 a).take ids.length=ids:=by grind[fC]
  have hsx:(chN true ⟨N,c,x⟩ []).x=x:=by rw[ec]
  have hsN:(chN true ⟨N,c,x⟩ []).N=N1:=by rw[ec]
  have hsc:(chN true ⟨N,c,x⟩ []).c=c:=by rw[ec]
  refine⟨by rw[hsx,hsN,qW n1x,hla]; rfl,?_⟩;intro y hy;rw[hsx,hsN,hsc]at hy;have hyx:y≠x/\y≠m/\¬G y/\(y=a\/y=c):=by
   rcases hy with⟨h,_⟩|h
   .have:y=a:=by grind[Ew]
    grind
   grind
  obtain⟨y1,y2,y3,y4⟩:=hyx;have hL:oY (fC N1 a) ids.length (eV (fM N1 a ids.length) i) i=oY ids ids.length (eV ids i) i:=by
   grind[oY]
  have ee:iL true N1 x y i=put (put N1 y (.arr (oY ids ids.length (eV ids i) i))) x (.node y (ids.length+1) m (((ids.length+szK k:Nat):Int)+1) []):=by
   simp_all[iL,cond_true]
  have hlen:=Gk ids i;generalize hLL:oY ids ids.length (eV ids i) i=L at ee hlen;refine⟨λz=>z=x\/z=m\/z=y\/G z,?_⟩;have rx:iL true N1 x y i x=.node y L.length m (((L.length+szK k:Nat):Int)) []:=by
   rw[ee,dW,hlen]
   grind
  have ry:iL true N1 x y i y=.arr L:=by rw[ee,bS y1,dW]
  have ro:∀z,z≠x->z≠y->iL true N1 x y i z=N z:=λz hx hy=>by simp_all[bS]
  refine⟨?_,?_,?_,?_,?_⟩
  .rw [hsx,hsN];simp only[mH,hLL,gJ];refine⟨y,m,[],l,q,G,rx,(by grind),(by grind),.inl rfl,h5,(by grind[kY]),y1,y2,h9,h10,y3,λ_=>dF⟩
  .grind
  .grind
  .grind
  omega
 |b::t,N,c,x,.node ids k,F,h,hF,h0,w=>by
  simp only[gJ]at h;obtain⟨a,m,mk,l,q,G,h1,h2,h3,h4,h5,h6,h7,h8,h9,h10,h11,h12⟩:=h;have w':=w;simp only[wfT]at w;have hxc:x<c:=(by grind);have hmc:m<c:=(by grind);have hac:a<c:=(by grind);have hGc:∀z,G z->z<c:=(by grind);have hmx:m≠x:=sN h1 h3;have e1:bump true N x=put N x (.node a ids.length m (((ids.length+szK k:Nat):Int)+1) []):=nS h1;have ec:chN true ⟨N,c,x⟩ (b::t)=chN true (stN true ⟨put N x (.node a ids.length m (((ids.length+szK k:Nat):Int)+1) []),c,x⟩ b) t:=by grind[chN]
  generalize hN1:put N x (.node a ids.length m (((ids.length+szK k:Nat):Int)+1) [])=N1 at ec;have n1x:N1 x=.node a ids.length m (((ids.length+szK k:Nat):Int)+1) []:=by rw[<- hN1,dW]
  have n1o:∀z,z≠x->N1 z=N z:=λz hz=>by rw[<- hN1,bS hz]
  have n1m:N1 m=.map l q:=(n1o m hmx).trans h3;have hkd:yR N1 x b=(mget l (fY b)).map (·.1):=pE n1x n1m b;have hsz:=oT (i:=i) (b::t) w';cases hg:dN k b with
  |some s =>
   obtain⟨u,τ,G1,G2,j1,j2,j3,j4,j5,_⟩:=oQ h6 hg w.2.1;have hus:isNode N1 u/\szN N1 u+dv true≠0:=by
    obtain⟨ids',k'⟩:=s;have j2':=j2;simp only[gJ]at j2';obtain⟨a',m',mk',l',q',G',i1,_,_,_,_,_,_,_,_,_,_,i12⟩:=j2';have:N1 u=N u:=(by grind);rw[i1]at this;refine⟨⟨_,_,_,_,_,this⟩,?_⟩;rw[H7 this];show _+(1:Int)≠0;omega
   have est:stN true ⟨N1,c,x⟩ b=⟨N1,c,u⟩:=by
    simp_all[stN,Option.map_some]
   rw[est]at ec;have r1:gJ D N1 s u G1:=(by grind[lX]);obtain⟨ih1,ih2⟩:=zM t (N:=N1) (c:=c) (x:=u) (T:=s) (F:=G1) r1 (by grind) (by grind) (kZ hg w.2.2).1;refine⟨?_,?_⟩
   .grind [wQ,Ox]
   .intro y hy;rw[ec]at hy;obtain⟨F1,p⟩:=ih2 y hy;have n'o:∀z,¬G1 z->z<c->iL true (chN true ⟨N1,c,u⟩ t).N (chN true ⟨N1,c,u⟩ t).x y i z=N1 z:=p.old;have hG1x:∀z,(z=x\/z=m\/z=a)->¬G1 z:=by
     grind
    refine⟨λz=>z=x\/z=m\/z=a\/(F1 z\/G2 z),?_⟩;have hF1:∀z,F1 z->G1 z\/c<=z:=λz hz=>(p.new z hz).imp id And.left;refine⟨?_,?_,?_,?_,?_⟩
    .rw [ec];simp only[mH,hg,dR,gJ];refine⟨a,m,[],l,q,λz=>F1 z\/G2 z,?_,?_,(by grind),.inl rfl,?_,?_,h7,h8,?_,?_,?_,λ_=>dF⟩
     .rw [n'o x (hG1x x (.inl rfl)) hxc,n1x];have h:=Bf (s':=mH i t s) hg w.2.1;have h2:=oT (i:=i) t (kZ hg w.2.2).1;have:((ids.length+szK k:Nat):Int)+1=((ids.length+szK (lK k b (mH i t s)):Nat):Int):=by omega
      rw[this]
     .simp [*]
     .grind [Dk]
     .refine j5 _ _ F1 p.rep (λz hz h'=>?_) (λz hz=>?_)
      .grind
      grind
     .grind
     .grind
     grind
    .rw [ec];rintro z (h|h|h|h|h)
     .simp [*]
     .simp [*]
     .simp [*]
     .rcases p.new z h with h|h
      .simp [*]
      omega
     simp[*]
    .grind
    .rw [ec]; exact p.free
    .rw [ec]; exact p.le
  |none =>
   have hb:b∉cC k:=(by grind[xH]);have hbl:fY b∉l.map (·.1):=(by grind[vZ]);have hno:=Cn hbl;have est:stN true ⟨N1,c,x⟩ b=⟨put (jX N1 c) m (.map (l++[(fY b,c+1,q)]) (q+1)),c+3,c+1⟩:=by
    grind[stN,tE]
   rw[est]at ec;generalize hN2:put (jX N1 c) m (.map (l++[(fY b,c+1,q)]) (q+1))=N2 at ec;have n2o:∀z,z≠m->z<c->N2 z=N1 z:=λz hz hc=>by rw[<- hN2,bS hz,tM hc]
   have n2m:N2 m=.map (l++[(fY b,c+1,q)]) (q+1):=by rw[<- hN2,dW]
   have n2c:N2 c=.map [] 0:=by rw[<- hN2,bS (by omega)]; simp_all[jX,bS,dW]
   have n2n:N2 (c+1)=.node (c+2) 0 c 0 []:=by rw[<- hN2,bS (by omega)]; exact wI
   have n2f:∀z,c+2<=z->N2 z=.none:=λz hz=>by
    rw[<- hN2,bS (by omega)];unfold jX
    grind[bS]
   have r1:gJ D N2 emp (c+1) (λz=>z=c+1\/z=c\/z=c+2\/False):=by
    simp only[emp,gJ];refine⟨c+2,c,[],[],0,λ_=>False,n2n,(by grind),n2c,.inl rfl,.refl _,?_,by omega,by omega,id,id,id,λ_=>dF⟩
    grind[kK]
   obtain⟨ih1,ih2⟩:=zM t (N:=N2) (c:=c+3) (x:=c+1) (T:=emp) r1 (by grind) (by grind) oU;refine⟨?_,?_⟩
   .grind [wQ,Ox]
   .intro y hy;rw[ec]at hy;obtain⟨F1,p⟩:=ih2 y hy;have n'o:∀z,z<c->iL true (chN true ⟨N2,c+3,c+1⟩ t).N (chN true ⟨N2,c+3,c+1⟩ t).x y i z=N2 z:=λz hz=>p.old z (by grind) (by omega);have hF1:∀z,F1 z->c<=z:=λz hz=>by
     rcases p.new z hz with h|h
     .grind
     .omega
    have hF2:∀z,F1 z->c<=z/\z<(chN true ⟨N2,c+3,c+1⟩ t).c+1:=λz hz=>by
     have:=p.le;rcases p.new z hz with h|h
     .grind
     .omega
    have hl1:mget (l++[(fY b,c+1,q)]) (fY b)=some (c+1,q):=by grind[G7]
    have hl2:∀z,z≠b->mget (l++[(fY b,c+1,q)]) (fY z)=mget l (fY z):=λz hz=>by
     rw[G7];cases mget l (fY z) with
     |some e=>rfl
     |none=>simp only; rw[if_neg λe=>hz (vZ e).symm]
    refine⟨λz=>z=x\/z=m\/z=a\/(F1 z\/G z),?_⟩;refine⟨?_,?_,?_,?_,?_⟩
    .rw [ec];simp only[mH,hg,Option.getD_none,gJ];refine⟨a,m,[],_,_,λz=>F1 z\/G z,?_,?_,(n'o m hmc).trans n2m,.inl rfl,?_,Hq hl1 hl2 p.rep h6 hb (λz hz h'=>?_) (λz hz=>?_),h7,h8,?_,?_,?_,λ_=>dF⟩
     .rw [n'o x hxc,n2o x (fR hmx) hxc,n1x];have h2:=oT (i:=i) t oU;have h3:=K2 (s':=mH i t emp) hb;have h4:szT emp=0:=rfl
      grind
     .simp [*]
     .rw [eD];refine .trans ?_ ((Lg (s':=mH i t emp) hb).symm.map fY);simp only[bK,iD];exact(List.perm_append_comm).trans (h5.cons _)
     .grind
     .grind
     .grind
     .grind
     grind
    .grind
    .grind
    .rw [ec]; exact p.free
    .rw [ec]; have:=p.le; omega
end T15
end
section
set_option maxHeartbeats 10000000
open Go Go.Eng Go.Proofs T1 T2 T3 T4 T5 T6 T7 T8 T9 T10 T11 T12 T13 T14 T15
set_option maxRecDepth 100000
namespace T16
theorem M7{l:List B}(h:Srt l){i:B}(hi:i∈l):(A6 l i).length+1=l.length:=by
 grind[zL,A6]
theorem Yj{l:List B}(h:Srt l)(i:B):Srt (A6 l i):=by
 unfold A6;rw[<- List.eraseIdx_eq_take_drop_succ];exact h.sublist (List.eraseIdx_sublist _ _)
theorem Lh{b:UInt8}{s:TT}:∀{k:TK},dN k b=some s->(cC k).Perm (b::cC (rQ k b))
 |.nil,h=>by cases h
 |.cons x t r,h=>by
  simp only[dN]at h;simp only[rQ];by_cases e:x=b
  .rw [if_pos e]; subst e; rfl
  .rw [if_neg e]at h ⊢;exact((Lh h).cons x).trans (.swap _ _ _)
theorem Mr{b y:UInt8}:∀{k:TK},y∈cC (rQ k b)->y∈cC k
 |.nil,h=>h
 |.cons x t r,h=>by
  simp only[rQ]at h;split at h
  .exact aW _ h
  .rcases aR.1 h with h|h
   .rw [h]; exact aZ
   .exact aW _ (Mr h)
theorem Uu{b:UInt8}:∀{k:TK},Sb (cC k)->Sb (cC (rQ k b))
 |.nil,h=>h
 |.cons x t r,h=>by
  have h':=aT.1 h;simp only[rQ];split
  .exact h'.2
  .exact aT.2 ⟨λy hy=>h'.1 y (Mr hy),Uu h'.2⟩
theorem Fl{b:UInt8}{s:TT}:∀{k:TK},dN k b=some s->szK (rQ k b)+szT s=szK k
 |.nil,h=>by cases h
 |.cons x t r,h=>by
  simp only[dN]at h;simp only[rQ];by_cases e:x=b
  .rw [if_pos e]at h ⊢; grind[szK]
  .rw [if_neg e]at h ⊢;have:=Fl h;simp only[szK]; omega
theorem Lw{b:UInt8}:∀{k:TK},Sb (cC k)->∀y,dN (rQ k b) y=if y=b then none else dN k y
 |.nil,_,y=>by simp[rQ,dN]
 |.cons x t r,h,y=>by
  have h':=aT.1 h;simp only[rQ];by_cases e:x=b
  .subst e;rw[if_pos rfl];simp only[dN];by_cases ey:y=x
   .subst ey;rw[if_pos rfl]
    grind[qA]
   grind
  .rw [if_neg e];simp only[dN];rw[Lw h'.2]
   grind
theorem Vj{b:UInt8}:∀{k:TK},wfK k->wfK (rQ k b)
 |.nil,h=>h
 |.cons x t r,w=>by
  simp only[wfK]at w;simp only[rQ];split
  .exact w.2.2
  .simp only [wfK]; exact⟨w.1,w.2.1,Vj w.2.2⟩
theorem mem_cons{t:B}{i:B}{b:UInt8}{ids:List B}{k:TK}(h:gO (b::t) i (.node ids k)):∃s,dN k b=some s/\gO t i s:=by
 obtain⟨s,e,hi⟩:=h;simp only[bV]at e;cases hg:dN k b with
 |none=>grind
 |some s'=>rw[hg]at e; exact⟨s',rfl,s,e,hi⟩
theorem xZ{i:B}:∀(t:B) {T:TT},wfT T->gO t i T->szT (rO i t T)+1=szT T
 | [],.node ids k,w,h=>by
  simp only[wfT]at w;obtain⟨s,e,hi⟩:=h;cases e;have:=M7 w.1 hi
  grind[rO,szT]
 |b::t,.node ids k,w,h=>by
  simp only[wfT]at w;obtain⟨s,hg,hm⟩:=mem_cons h;have ih:=xZ t (kZ hg w.2.2).1 hm
  grind[rO,Fl,szT,Bf]
theorem Bk{i:B}:∀(t:B) {T:TT},wfT T->gO t i T->wfT (rO i t T)
 | [],.node ids k,w,h=>by
  grind[wfT,rO,Yj]
 |b::t,.node ids k,w,h=>by
  simp only[wfT]at w;obtain⟨s,hg,hm⟩:=mem_cons h;have hs:=kZ hg w.2.2;have ih:=Bk t hs.1 hm;have hz:=xZ t hs.1 hm;simp only[rO,hg]
  grind[wfT,Uu,Vj,Kn,wf_set]
theorem O4{V:Type}{l:List (bQ×V×Nat)}{k y:bQ}(h:y≠k):mget (mdel l k) y=mget l y:=by
 induction l with
 |nil=>rfl
 |cons x r ih =>
  simp only[mdel];split
  .rename_i e;simp only[mget]
   grind
  grind[mget]
theorem O3{V:Type}{l:List (bQ×V×Nat)}{k:bQ}{e:V×Nat}(h:mget l k=some e):(l.map (·.1)).Perm (k::(mdel l k).map (·.1)):=by
 induction l with
 |nil=>cases h
 |cons x r ih =>
  simp only[mget]at h;simp only[mdel]
  grind
structure aDs(D:Dg)(i:B)(t:B)(N:Nat->NO)(c x:Nat)(T:TT)(F:Nat->Prop)(F':Nat->Prop):Prop where
 rep:gJ D (iL false (chN false ⟨N,c,x⟩ t).N (chN false ⟨N,c,x⟩ t).x 0 i) (rO i t T) x F'
 new:∀z,F' z->F z
 old:∀z,¬F z->iL false (chN false ⟨N,c,x⟩ t).N (chN false ⟨N,c,x⟩ t).x 0 i z=N z
 ids:nX (chN false ⟨N,c,x⟩ t).N (chN false ⟨N,c,x⟩ t).x=vY ((bV t T).getD emp)
 c:(chN false ⟨N,c,x⟩ t).c=c
theorem vQ{D:Dg}{i:B}:∀(t:B) {N:Nat->NO} {c x:Nat} {T:TT} {F:Nat->Prop},gJ D N T x F->wfT T->gO t i T->∃F',aDs D i t N c x T F F'
 | [],N,c,x,.node ids k,F,h,w,hm=>by
  simp only[gJ]at h;obtain⟨a,m,mk,l,q,G,h1,h2,h3,h4,h5,h6,h7,h8,h9,h10,h11,h12⟩:=h;simp only[wfT]at w;have hi:i∈ids:=by obtain⟨s,e,hi⟩:=hm; cases e; exact hi
  have hmx:m≠x:=sN h1 h3;have e1:bump false N x=put N x (.node a ids.length m (((ids.length+szK k:Nat):Int)+-1) []):=nS h1;have ec:chN false ⟨N,c,x⟩ []=⟨put N x (.node a ids.length m (((ids.length+szK k:Nat):Int)+-1) []),c,x⟩:=by show CS.mk _ _ _=_; rw[e1]
  generalize hN1:put N x (.node a ids.length m (((ids.length+szK k:Nat):Int)+-1) [])=N1 at ec;have n1x:N1 x=.node a ids.length m (((ids.length+szK k:Nat):Int)+-1) []:=by rw[<- hN1,dW]
  have n1o:∀z,z≠x->N1 z=N z:=λz hz=>by rw[<- hN1,bS hz]
  have ha:=De h2;have hla:fM N1 a ids.length=ids:=by grind[fM]
  have haa:(fC N1 a).take ids.length=ids:=by grind[fC]
  have hsx:(chN false ⟨N,c,x⟩ []).x=x:=by rw[ec]
  have hsN:(chN false ⟨N,c,x⟩ []).N=N1:=by rw[ec]
  have hL:vO (fC N1 a) ids.length (eV (fM N1 a ids.length) i)=A6 ids i++[[]]:=by
   grind[vO,A6]
  have ee:iL false N1 x 0 i=put (put N1 a (.arr (A6 ids i++[[]]))) x (.node a (ids.length-1) m (((ids.length+szK k:Nat):Int)+-1) []):=by
   simp_all[iL,cond_false]
  have hlen:=M7 w.1 hi;generalize hLL:A6 ids i=L at ee hlen;have rx:iL false N1 x 0 i x=.node a L.length m (((L.length+szK k:Nat):Int)) []:=by
   rw[ee,dW,<- hlen]
   grind
  have ra:iL false N1 x 0 i a=.arr (L++[[]]):=by rw[ee,bS h7,dW]
  have ro:∀z,z≠x->z≠a->iL false N1 x 0 i z=N z:=λz hx hy=>by simp_all[bS]
  refine⟨λz=>z=x\/z=m\/z=a\/G z,?_,?_,?_,?_,?_⟩
  .rw [hsx,hsN];simp only[rO,hLL,gJ];refine⟨a,m,[],l,q,G,rx,(by grind),(by grind),.inl rfl,h5,kY h6 λz hz=>ro z (by grind) (by grind),h7,h8,h9,h10,h11,λ_=>dF⟩
  .simp [*]
  .grind
  .rw [hsx,hsN,qW n1x,hla]; rfl
  .rw [ec]
 |b::t,N,c,x,.node ids k,F,h,w,hm=>by
  simp only[gJ]at h;obtain⟨a,m,mk,l,q,G,h1,h2,h3,h4,h5,h6,h7,h8,h9,h10,h11,h12⟩:=h;simp only[wfT]at w;obtain⟨s,hg,hms⟩:=mem_cons hm;have hmx:m≠x:=sN h1 h3;have e1:bump false N x=put N x (.node a ids.length m (((ids.length+szK k:Nat):Int)+-1) []):=nS h1;have ec:chN false ⟨N,c,x⟩ (b::t)=chN false (stN false ⟨put N x (.node a ids.length m (((ids.length+szK k:Nat):Int)+-1) []),c,x⟩ b) t:=by grind[chN]
  generalize hN1:put N x (.node a ids.length m (((ids.length+szK k:Nat):Int)+-1) [])=N1 at ec;have n1x:N1 x=.node a ids.length m (((ids.length+szK k:Nat):Int)+-1) []:=by rw[<- hN1,dW]
  have n1o:∀z,z≠x->N1 z=N z:=λz hz=>by rw[<- hN1,bS hz]
  have n1m:N1 m=.map l q:=(n1o m hmx).trans h3;have hkd:yR N1 x b=(mget l (fY b)).map (·.1):=pE n1x n1m b;have hw:=kZ hg w.2.2;have hsz:=xZ t hw.1 hms;obtain⟨u,τ,G1,G2,j1,j2,j3,j4,j5,j6⟩:=oQ h6 hg w.2.1;have hus:isNode N1 u/\szN N1 u=((szT s:Nat):Int):=by
   obtain⟨ids',k'⟩:=s;have j2':=j2;simp only[gJ]at j2';obtain⟨a',m',mk',l',q',G',i1,_,_,_,_,_,_,_,_,_,_,i12⟩:=j2';have:N1 u=N u:=(by grind);rw[i1]at this;exact⟨⟨_,_,_,_,_,this⟩,by grind[H7,szT]⟩
  have hG1:∀z,(z=x\/z=m\/z=a)->¬G1 z:=by
   grind
  have r1:gJ D N1 s u G1:=(by grind[lX]);by_cases h0:szT s=1
  .have est:stN false ⟨N1,c,x⟩ b=⟨put N1 m (.map (mdel l (fY b)) q),c,u⟩:=by
    unfold stN;have:szN N1 u+dv false=0:=by rw[hus.2,h0]; rfl
    simp only[hkd,j1,cU,if_pos this,zX n1x n1m]
   rw[est]at ec;generalize hN2:put N1 m (.map (mdel l (fY b)) q)=N2 at ec;have n2m:N2 m=.map (mdel l (fY b)) q:=by rw[<- hN2,dW]
   have n2o:∀z,z≠m->N2 z=N1 z:=λz hz=>by rw[<- hN2,bS hz]
   have r2:gJ D N2 s u G1:=lX r1 (by grind);obtain⟨F1,p⟩:=vQ t (N:=N2) (c:=c) (x:=u) (F:=G1) r2 hw.1 hms;have n'o:=p.old;refine⟨λz=>z=x\/z=m\/z=a\/G2 z,?_,?_,?_,?_,?_⟩
   .rw [ec];simp only[rO,hg,if_pos h0,gJ];refine⟨a,m,[],_,_,G2,?_,?_,(n'o m (hG1 m (.inr (.inl rfl)))).trans n2m,.inl rfl,?_,j6 _ _ (λz hz=>O4 λe=>hz (vZ e)) (λz hz=>?_),h7,h8,λh=>h9 ((j4 x).2 (.inr h)),λh=>h10 ((j4 m).2 (.inr h)),λh=>h11 ((j4 a).2 (.inr h)),λ_=>dF⟩
    .rw [n'o x (hG1 x (.inl rfl)),n2o x (fR hmx),n1x]
     grind[Fl]
    .simp [*]
    .have e1:=O3 j1;have e2:=(Lh hg).map fY;simp only[bK]at e2;exact(List.perm_cons _).1 ((e1.symm.trans h5).trans e2)
    .have hz':¬G1 z:=λh'=>j3 z h' hz;rw[n'o z hz',n2o z λe=>h10 ((j4 m).2 (.inr (e▸hz)))];exact n1o z λe=>h9 ((j4 x).2 (.inr (e▸hz)))
   .grind
   .grind
   .rw [ec,p.ids,wQ]
    grind[Ox]
   .rw [ec]; exact p.c
  .have est:stN false ⟨N1,c,x⟩ b=⟨N1,c,u⟩:=by
    unfold stN;have:¬(szN N1 u+dv false=0):=by rw[hus.2]; show ¬(_+(-1:Int)=0); omega
    grind
   rw[est]at ec;obtain⟨F1,p⟩:=vQ t (N:=N1) (c:=c) (x:=u) (F:=G1) r1 hw.1 hms;have n'o:=p.old;refine⟨λz=>z=x\/z=m\/z=a\/(F1 z\/G2 z),?_,?_,?_,?_,?_⟩
   .rw [ec];simp only[rO,hg,if_neg h0,gJ];refine⟨a,m,[],l,q,λz=>F1 z\/G2 z,?_,?_,(by grind),.inl rfl,?_,j5 _ _ F1 p.rep (λz hz h'=>j3 z (p.new z hz) h') (λz hz=>?_),h7,h8,?_,?_,?_,λ_=>dF⟩
    .rw [n'o x (hG1 x (.inl rfl)),n1x]
     grind[Bf]
    .simp [*]
    .grind [Dk]
    .grind
    .rintro (h|h)
     .exact hG1 x (.inl rfl) (p.new _ h)
     grind
    .rintro (h|h)
     .exact hG1 m (.inr (.inl rfl)) (p.new _ h)
     grind
    .rintro (h|h)
     .exact hG1 a (.inr (.inr rfl)) (p.new _ h)
     grind
   .rintro z (h|h|h|h|h)
    .simp [*]
    .simp [*]
    .simp [*]
    .exact (h12 z).2 (.inr (.inr (.inr ((j4 z).2 (.inl (p.new z h))))))
    simp[*]
   .grind
   .rw [ec,p.ids,wQ]
    grind[Ox]
   .rw [ec]; exact p.c
end T16
end
section
set_option maxHeartbeats 10000000
open Go Go.Eng Go.Proofs T1 T2 T3 T4 T5 T6 T7 T8 T9 T10 T11 T12 T13 T14 T15 T16
set_option maxRecDepth 100000
namespace T17
theorem Qx{p:Bool}:∀(t:B) {s:CS} {K:Int},T8.Ok s K->0<=K->T8.Ok (chN p s t) (K+(t.length:Int)+1)
 | [],s,K,h,_=>by
  have h1:=Ok.bump (p:=p) h;have e:K+(([]:B).length:Int)+1=K+1:=by simp
  rw[e];exact h1
 |b::t,s,K,h,hK=>by
  have h1:=(Ok.bump (p:=p) h).step (p:=p) (by omega) b;have:=Qx (p:=p) t h1 (by omega);have e:K+((b::t).length:Int)+1=K+1+(t.length:Int)+1:=by simp only[bA]; omega
  rw[e];exact this
theorem Cl.list{N:Nat->NO}{c c' x a n m y n':Nat}{sz:Int}{mk:B}{L:List B}(h:Cl N c)(hx:N x=.node a n m sz mk)(hy:(y=a/\∃A,N a=.arr A)\/(y=c/\c<c'))(hc:c<=c')(hL:L≠[])(hn:n'<=L.length) :
  Cl (put (put N y (.arr L)) x (.node y n' m sz mk)) c':=by
 have hxc:x<c:=h.lt (by simp[*]);have hy1:y≠x:=by
  grind
 have hyc:y<c':=by
  rcases hy with⟨rfl,A,h'⟩|⟨rfl,h'⟩
  .have:=h.lim _ _ _ _ _ _ hx; omega
  .exact h'
 have hym:∀l q,N y≠.map l q:=by
  rcases hy with⟨rfl,A,h'⟩|⟨rfl,_⟩
  .simp [*]
  .intro l q; rw[h.free _ (aN _)]; simp
 have hyn:∀a n m sz mk,N y≠.node a n m sz mk:=by
  rcases hy with⟨rfl,A,h'⟩|⟨rfl,_⟩
  .simp [*]
  .intro a n m sz mk; rw[h.free _ (aN _)]; simp
 have oth:∀z,z≠x->z≠y->put (put N y (.arr L)) x (.node y n' m sz mk) z=N z:=(by grind[bS]);have atx:put (put N y (.arr L)) x (.node y n' m sz mk) x=.node y n' m sz mk:=dW _ _ _;have aty:put (put N y (.arr L)) x (.node y n' m sz mk) y=.arr L:=by rw[bS hy1,dW]
 have cs:∀{z:Nat} {o:NO},put (put N y (.arr L)) x (.node y n' m sz mk) z=o->(z=x/\o=.node y n' m sz mk)\/(z=y/\o=.arr L)\/(z≠x/\z≠y/\N z=o):=by
  grind
 have nolist:∀{i a' n1 m1 sz1 mk1},N i=.node a' n1 m1 sz1 mk1->i≠x->a'≠y:=by
  rintro i a' n1 m1 sz1 mk1 hi hne rfl;rcases hy with⟨rfl,_⟩|⟨rfl,_⟩
  .exact hne (h.own _ _ _ _ _ _ _ _ _ _ _ hi hx)
  .have:=h.lim _ _ _ _ _ _ hi; omega
 refine⟨λi hi=>?_,λi a' n1 m1 sz1 mk1 hi=>?_,λi l q hi e he=>?_,λi a' n1 m1 sz1 mk1 hi=>?_,λi a' n1 m1 sz1 mk1 hi=>?_,λi j a' n1 m1 sz1 mk1 n2 m2 sz2 mk2 hi hj=>?_,λi l q hi=>?_⟩
 .rw [oth i (by omega) (by omega)]; exact h.free i (by omega)
 .have key:∃a n sz mk i,N i=.node a n m1 sz mk:=by
   grind
  obtain⟨_,_,_,_,_,k⟩:=key;obtain⟨l,q,e⟩:=h.kids _ _ _ _ _ _ k
  grind
 .rcases cs hi with⟨rfl,k⟩|⟨_,k⟩|⟨_,_,k⟩
  .cases k
  .cases k
  .obtain ⟨h1,a2,n2,m2,s2,k2,h2⟩:=h.ent _ _ _ k e he
   grind
 .rcases cs hi with⟨rfl,k⟩|⟨_,k⟩|⟨h1,_,k⟩
  .grind
  .cases k
  .have hne:=nolist k h1;have hnx:a'≠x:=by
    rintro rfl;rcases h.lst _ _ _ _ _ _ k with⟨e,_⟩|⟨A,e,_⟩<;>rw[hx]at e<;>cases e
   rw[oth a' hnx hne];exact h.lst _ _ _ _ _ _ k
 .rcases cs hi with⟨rfl,k⟩|⟨_,k⟩|⟨h1,_,k⟩
  .grind
  .cases k
  .have:=h.lim _ _ _ _ _ _ k; omega
 .rcases cs hi with⟨h1,k⟩|⟨_,k⟩|⟨h1,_,k⟩
  .grind
  .cases k
  .rcases cs hj with⟨h2,k'⟩|⟨_,k'⟩|⟨h2,_,k'⟩
   .grind
   .cases k'
   .exact h.own _ _ _ _ _ _ _ _ _ _ _ k k'
 .rcases cs hi with⟨rfl,k⟩|⟨_,k⟩|⟨_,_,k⟩
  .cases k
  .cases k
  .exact h.tick _ _ _ k
theorem Bd.list{N:Nat->NO}{x a n m y n':Nat}{sz K:Int}{mk:B}{L:List B}(h:Bd N K)(hx:N x=.node a n m sz mk):Bd (put (put N y (.arr L)) x (.node y n' m sz mk)) K:=by
 intro i a1 n1 m1 sz1 mk1 hi;rcases eI hi with⟨rfl,k⟩|⟨_,k⟩
 .cases k; exact h _ _ _ _ _ _ hx
 .rcases eI k with⟨_,k⟩|⟨_,k⟩
  .cases k
  .exact h _ _ _ _ _ _ k
theorem Wi{s:CS}{K:Int}(h:T8.Ok s K){y:Nat}{i:B}(hy:(y=Ew s.N s.x/\fC s.N y≠[])\/y=s.c)(r:Nat)(hr:isNode s.N r):T8.Ok ⟨iL true s.N s.x y i,s.c+1,r⟩ K:=by
 obtain⟨a,n,m,sz,mk,e⟩:=h.nd;have ee:iL true s.N s.x y i=put (put s.N y (.arr (oY (fC s.N a) n (eV (fM s.N a n) i) i))) s.x (.node y (n+1) m sz mk):=by simp_all[iL,cond_true]
 have hle:n<=(fC s.N a).length:=by
  rcases h.cl.lst _ _ _ _ _ _ e with⟨_,h0⟩|⟨A,h0,_,h1⟩
  .omega
  grind[fC]
 have hp:eV (fM s.N a n) i<=n:=by grind[zK,fM]
 have hlen:=zE (A:=fC s.N a) (v:=i) hp hle;have hy':(y=a/\∃A,s.N a=.arr A)\/(y=s.c/\s.c<s.c+1):=by
  rcases hy with⟨h1,h2⟩|h1
  .have:y=a:=by grind[Ew]
   subst this;refine .inl ⟨rfl,?_⟩
   grind[fC]
  omega
 refine⟨?_,?_,?_⟩
 .show Cl (iL true s.N s.x y i) (s.c+1);rw[ee];exact Cl.list h.cl e hy' (jH _) (λh0=>by rw[h0]at hlen; simp at hlen) (by rw[hlen]; exact aN _)
 .show isNode (iL true s.N s.x y i) r;rw[ee];refine wM ⟨_,_,_,_,_,rfl⟩ ?_;obtain⟨a1,n1,m1,s1,k1,e1⟩:=hr;refine⟨a1,n1,m1,s1,k1,?_⟩;rw[bS]
  .exact e1
  .rintro rfl;rcases hy' with⟨rfl,A,h0⟩|⟨h0,_⟩
   .grind
   .rw [h0,h.cl.free _ (aN _)]at e1; cases e1
 .show Bd (iL true s.N s.x y i) K;rw[ee];exact Bd.list h.bd e
theorem Rl{s:CS}{K:Int}(h:T8.Ok s K){i:B}(hi:i∈nX s.N s.x)(r:Nat)(hr:isNode s.N r):T8.Ok ⟨iL false s.N s.x 0 i,s.c,r⟩ K:=by
 obtain⟨a,n,m,sz,mk,e⟩:=h.nd;rw[qW e]at hi;have ee:iL false s.N s.x 0 i=put (put s.N a (.arr (vO (fC s.N a) n (eV (fM s.N a n) i)))) s.x (.node a (n-1) m sz mk):=by simp_all[iL,cond_false]
 obtain⟨A,hA,hA0,hA1⟩:∃A,s.N a=.arr A/\A≠[]/\n<=A.length:=by
  rcases h.cl.lst _ _ _ _ _ _ e with⟨h0,_⟩|h0
  .grind [fM]
  .exact h0
 refine⟨?_,?_,?_⟩
 .show Cl (iL false s.N s.x 0 i) s.c;rw[ee];refine Cl.list h.cl e (by grind) (aN _) (λh0=>by simp[vO]at h0) ?_;simp only[fC,hA,vO,bF,eN,gM,bA,eZ];omega
 .show isNode (iL false s.N s.x 0 i) r;rw[ee];refine wM ⟨_,_,_,_,_,rfl⟩ ?_;obtain⟨a1,n1,m1,s1,k1,e1⟩:=hr;refine⟨a1,n1,m1,s1,k1,?_⟩;rw[bS]
  .exact e1
  grind
 .show Bd (iL false s.N s.x 0 i) K;rw[ee];exact Bd.list h.bd e
theorem Ct{p:Bool}{N:Nat->NO}{x z:Nat}(h:isNode N z):isNode (bump p N x) z:=by
 unfold bump;split
 .exact wM ⟨_,_,_,_,_,rfl⟩ h
 .exact h
theorem E3{p:Bool}:∀(t:B) {s:CS} {K:Int},T8.Ok s K->0<=K->∀{z:Nat},isNode s.N z->isNode (chN p s t).N z
 | [],s,K,h,_,z,hz=>Ct hz
 |b::t,s,K,h,hK,z,hz=>by
  have h0:=Ok.bump (p:=p) h;refine E3 (p:=p) t (h0.step (p:=p) (by omega) b) (by omega) ?_;have hz':isNode (bump p s.N s.x) z:=Ct hz;obtain⟨a,n,m,sz,mk,(e:bump p s.N s.x s.x=.node a n m sz mk)⟩:=h0.nd;obtain⟨l,q,(hm:bump p s.N s.x m=.map l q)⟩:=h0.cl.kids _ _ _ _ _ _ e;have hzc:z<s.c:=h0.cl.lt (by obtain⟨_,_,_,_,_,e⟩:=hz'; simp[*]);have mapped:∀{M:Nat->NO} {l' q'},isNode M z->(∃l q,M m=.map l q)->isNode (put M m (.map l' q')) z:=by
   rintro M l' q' ⟨a1,n1,m1,s1,k1,e1⟩ ⟨l,q,e2⟩;exact⟨a1,n1,m1,s1,k1,by grind[bS]⟩
  unfold stN;split
  .show isNode (Ah (bump p s.N s.x) s.c s.x b) z;rw[tE e hm];have hmc:m<s.c:=h0.cl.lt (by simp[*]);refine mapped ?_ ⟨l,q,(tM hmc).trans hm⟩;obtain⟨a1,n1,m1,s1,k1,e1⟩:=hz';exact⟨a1,n1,m1,s1,k1,(tM hzc).trans e1⟩
  grind[Iz]
theorem Df{D:Dg}{N:Nat->NO}:∀(t:B) {T:TT} {x:Nat} {F:Nat->Prop},gJ D N T x F->wfT T ->
  (∀s,bV t T=some s->∃v G,atN N x t=some v/\gJ D N s v G)/\(bV t T=none->atN N x t=none)
 | [],T,x,F,h,_=>⟨λs e=>(by cases e; exact⟨x,F,rfl,h⟩),λe=>(by cases e)⟩
 |b::t,.node ids k,x,F,h,w=>by
  simp only[gJ]at h;obtain⟨a,m,mk,l,q,G,h1,_,h3,_,h5,h6,_⟩:=h;simp only[wfT]at w;have hkd:yR N x b=(mget l (fY b)).map (·.1):=pE h1 h3 b;simp only[bV,atN];cases hg:dN k b with
  |none =>
   have hb:b∉cC k:=(by grind[xH]);have hbl:fY b∉l.map (·.1):=(by grind[vZ]);rw[hkd,Cn hbl];simp
  |some s =>
   obtain⟨u,τ,G1,G2,j1,j2,_⟩:=oQ h6 hg w.2.1;rw[hkd,j1];exact Df t j2 (kZ hg w.2.2).1
theorem zD{D:Dg}{N:Nat->NO}{T:TT}{v:Nat}{F:Nat->Prop}(h:gJ D N T v F):nX N v=vY T/\szN N v=(szT T:Nat):=by
 obtain⟨ids,k⟩:=T;simp only[gJ]at h;obtain⟨a,m,mk,l,q,G,h1,h2,_⟩:=h;exact⟨by rw[qW h1]; exact(De h2).1,by grind[H7,szT]⟩
theorem Be:∀(t:B) {T s:TT},bV t T=some s->(vY s).length<=szT T
 | [],.node ids k,s,e=>by cases e; grind[vY,szT]
 |b::t,.node ids k,s,e=>by
  simp only[bV]at e;cases hg:dN k b with
  |none=>grind
  |some s' =>
   rw[hg]at e;have h1:=Be t e;have h2:∀{k:TK},dN k b=some s'->szT s'<=szK k:=by
    intro k hk;have:=Fl hk;omega
   grind[szT]
theorem vC:∀(t:B) {T s:TT},wfT T->bV t T=some s->wfT s
 | [],T,s,w,e=>by cases e; exact w
 |b::t,.node ids k,s,w,e=>by
  simp only[wfT]at w;simp only[bV]at e;cases hg:dN k b with
  |none=>rw[hg]at e; cases e
  |some s'=>rw[hg]at e; exact vC t (kZ hg w.2.2).1 e
theorem Wv{D:Dg}{N:Nat->NO}{t i:B}{T:TT}{x:Nat}{F:Nat->Prop}(h:gJ D N T x F)(w:wfT T):tQ N x t i=true↔gO t i T:=by
 obtain⟨h1,h2⟩:=Df t h w;unfold tQ gO;cases hs:bV t T with
 |none=>simp[*]
 |some s =>
  grind[zD]
end T17
end
section
set_option maxHeartbeats 10000000
open Go Go.Eng Go.Proofs T1 T2 T3 T4 T5 T6 T7 T8 T9 T10 T11 T12 T13 T14 T15 T16 T17
set_option maxRecDepth 100000
namespace T18
theorem S7{l:List B}{i j:B}:j∈oY l l.length (eV l i) i↔j=i\/j∈l:=by
 grind[Ek,List.take_append_drop]
theorem Pw{l:List B}(h:Srt l):l.Nodup:=by
 refine kV ?_ h
 grind[uI]
theorem S8{l:List B}(h:Srt l){i j:B}(hi:i∈l):j∈A6 l i↔j∈l/\j≠i:=by
 obtain⟨h1,h2⟩:=(zL h i).1 hi;have e:l=l.take (eV l i)++i::l.drop (eV l i+1):=by
  grind[List.take_append_drop,List.drop_eq_getElem_cons]
 have hn:=Pw h;rw[e,List.nodup_append]at hn;obtain⟨_,n2,n3⟩:=hn;have n4:=(fQ.1 n2).1;unfold A6
 grind
theorem oA{ids:List B}{k:TK}{i:B}:gO [] i (.node ids k)↔i∈ids :=
 ⟨λ⟨s,e,h⟩=>by cases e; exact h,λh=>⟨_,rfl,h⟩⟩
theorem dV{ids:List B}{k:TK}{b:UInt8}{t i:B}:gO (b::t) i (.node ids k)↔∃s,dN k b=some s/\gO t i s :=
 ⟨mem_cons,λ⟨s,hg,s',e,h⟩=>⟨s',by grind[bV],h⟩⟩
theorem Ey{t i:B}:¬gO t i emp:=by
 rintro⟨s,e,h⟩;cases t with
 |nil=>cases e; cases h
 |cons b t=>cases e
theorem zG{i:B}:∀(t:B) {T:TT},wfT T->∀{t' i':B},gO t' i' (mH i t T)↔(t'=t/\i'=i)\/gO t' i' T
 | [],.node ids k,w,[],i'=>by
  grind[mH,oA,S7]
 | [],.node ids k,w,b'::t',i'=>by
  grind[mH,dV]
 |b::t,.node ids k,w,[],i'=>by
  grind[mH,oA]
 |b::t,.node ids k,w,b'::t',i'=>by
  simp only[wfT]at w;simp only[mH];rw[dV,dV];simp only[Ee w.2.1];have hw:wfT ((dN k b).getD emp):=by
   cases hg:dN k b with
   |none=>exact oU
   |some s=>grind[kZ]
  by_cases e:b'=b
  .subst e;simp only[if_true,aH,exists_eq_left'];rw[zG t hw];cases hg:dN k b' with
   |none =>
    simp only[Option.getD_none,dZ,true_and,reduceCtorEq,false_and,exists_false,or_false]
    grind[Ey]
   |some s=>simp
  simp[*]
theorem Ex{i:B}:∀(t:B) {T:TT},wfT T->gO t i T->∀{t' i':B},gO t' i' (rO i t T)↔gO t' i' T/\¬(t'=t/\i'=i)
 | [],.node ids k,w,hm,[],i'=>by
  grind[wfT,rO,oA,S8]
 | [],.node ids k,w,hm,b'::t',i'=>by
  grind[rO,dV]
 |b::t,.node ids k,w,hm,t',i'=>by
  simp only[wfT]at w;obtain⟨s,hg,hms⟩:=mem_cons hm;have hs:=kZ hg w.2.2;have ih:=@Ex i t s hs.1 hms;simp only[rO,hg];split
  .rename_i h1;cases t' with
   |nil=>grind[oA]
   |cons b' t' =>
    rw[dV,dV];simp only[Lw w.2.1];by_cases e:b'=b
    .subst e;simp only[if_true,reduceCtorEq,false_and,exists_false,false_iff,hg,aH,exists_eq_left',dZ,true_and];rintro⟨h',hne⟩;have h2:=ih.2 ⟨h',hne⟩;have h3:=xZ t hs.1 hms;obtain⟨s',e',h4⟩:=h2;have h5:=Be _ e'
     grind
    simp[*]
  .cases t' with
   |nil=>grind[oA]
   |cons b' t' =>
    rw[dV,dV];simp only[Ee w.2.1]
    grind
structure Tr(D:Dg)(T:TT)(N:Nat->NO)(c r:Nat)(K:Int):Prop where
 rep:∃F,gJ D N T r F/\∀z,F z->z<c
 ok:T8.Ok ⟨N,c,r⟩ K
 wf:wfT T
 val:∀t i,gO t i T->kF t i=true
 sz:szT T<=20000
theorem wS{t i:B}(h:kF t i=true):t.length<=120:=by
 simp_all[kF,Bool.and_eq_true,decide_eq_true_eq]
theorem Tr.ids{D:Dg}{T:TT}{N:Nat->NO}{c r:Nat}{K:Int}(h:Tr D T N c r K)(t:B):∀v,atN N r t=some v->(nX N v).length<=1000000:=by
 intro v hv;obtain⟨F,hF,_⟩:=h.rep;obtain⟨h1,h2⟩:=Df t hF h.wf;cases hs:bV t T with
 |none=>grind
 |some s =>
  obtain⟨v',G,e,hr⟩:=h1 s hs;rw[e]at hv;cases hv;rw[(zD hr).1];have:=Be t hs;have:=h.sz;omega
theorem Tr.has{D:Dg}{T:TT}{N:Nat->NO}{c r:Nat}{K:Int}(h:Tr D T N c r K){p:Bool}{t i:B}:HX.has ⟨p,N,c,r,t,i⟩=true↔gO t i T:=by
 obtain⟨F,hF,_⟩:=h.rep;exact Wv hF h.wf
theorem Tr.Rj{D:Dg}{T:TT}{N:Nat->NO}{c r:Nat}{K:Int}(h:Tr D T N c r K)(hK:K<=1000000000000){t i:B}(ht:t.length<4611686018427387904):Ri.pre ⟨false,N,c,r,t,i⟩:=by
 refine⟨rfl,h.ok.cl,h.ok.nd,ht,h.ids t,λhh=>?_⟩;have hm:=h.has.1 hh;obtain⟨F,hF,_⟩:=h.rep;obtain⟨F',p⟩:=vQ (D:=D) (c:=c) t hF h.wf hm;have hl:=wS (h.val _ _ hm);obtain⟨s,hs,hi⟩:=hm;have e:nX (HX.mk false N c r t i).fin.N (HX.mk false N c r t i).fin.x=vY s:=by
  show nX (chN false ⟨N,c,r⟩ t).N (chN false ⟨N,c,r⟩ t).x=_;rw[p.ids,hs]; rfl
 refine⟨⟨h.ok.cl,h.ok.nd,?_⟩,by grind,?_,?_,λ_=>?_⟩
 .intro j a n m sz mk hj;have:=h.ok.bd _ _ _ _ _ _ hj;omega
 .rw [e];obtain⟨ids,k⟩:=s;have:=vC t h.wf hs;simp only[wfT]at this;exact this.1
 .rw [e];have:=Be t hs;have:=h.sz;omega
 simp[*]
theorem Tr.drop{D:Dg}{T:TT}{N:Nat->NO}{c r:Nat}{K:Int}(h:Tr D T N c r K)(hK:0<=K){t i:B}(hm:gO t i T):Tr D (rO i t T) (T12.nB ⟨false,N,c,r,t,i⟩) c r (K+1000):=by
 have e:T12.nB ⟨false,N,c,r,t,i⟩=iL false (chN false ⟨N,c,r⟩ t).N (chN false ⟨N,c,r⟩ t).x 0 i:=by
  unfold T12.nB;rw[h.has.2 hm];rfl
 obtain⟨F,hF,hFc⟩:=h.rep;obtain⟨F',p⟩:=vQ (D:=D) (c:=c) t hF h.wf hm;have hl:=wS (h.val _ _ hm);have hz:=xZ t h.wf hm;have hch:=Qx (p:=false) t h.ok hK;have hi:i∈nX (chN false ⟨N,c,r⟩ t).N (chN false ⟨N,c,r⟩ t).x:=by
  rw[p.ids];obtain⟨s,hs,hi⟩:=hm;simp[*]
 have h2:=Rl hch hi r (E3 (p:=false) t h.ok hK h.ok.nd);rw[p.c]at h2;rw[e];refine⟨⟨F',p.rep,λz hz=>hFc z (p.new z hz)⟩,⟨h2.cl,h2.nd,?_⟩,Bk t h.wf hm,λt' i' h'=>h.val t' i' ((Ex t h.wf hm).1 h').1,by have:=h.sz; omega⟩;intro j a n m sz mk hj;have:=h2.bd _ _ _ _ _ _ hj;omega
theorem Tr.M6{D:Dg}{T:TT}{N:Nat->NO}{c r:Nat}{K:Int}(h:Tr D T N c r K)(hK:K<=1000000000000){t i:B}(ht:t.length<4611686018427387904):X4.pre ⟨true,N,c,r,t,i⟩:=by
 refine⟨rfl,h.ok.cl,h.ok.nd,ht,h.ids t,λhh=>?_⟩;obtain⟨F,hF,hFc⟩:=h.rep;obtain⟨e,_⟩:=zM (D:=D) (i:=i) t hF hFc h.ok.cl.free h.wf;have hl:t.length<=120:=by
  simp_all[HX.puts,Bool.and_eq_true,kF]
 have e':nX (HX.mk true N c r t i).fin.N (HX.mk true N c r t i).fin.x=vY ((bV t T).getD emp):=e;have hs:Srt (vY ((bV t T).getD emp))/\(vY ((bV t T).getD emp)).length<1000000:=by
  cases hs:bV t T with
  |none=>exact⟨.nil,by decide⟩
  |some s =>
   obtain⟨ids,k⟩:=s;have h1:=vC t h.wf hs;simp only[wfT]at h1;have h2:=Be t hs;have h3:=h.sz
   grind[vY]
 refine⟨⟨h.ok.cl,h.ok.nd,?_⟩,by grind,by simp[*],by simp[*],(by grind)⟩;intro j a n m sz mk hj;have:=h.ok.bd _ _ _ _ _ _ hj;omega
def putc(x:HX):Nat:=bif HX.puts x then x.fin.c+1 else x.c
theorem Tr.puts{D:Dg}{T:TT}{N:Nat->NO}{c r:Nat}{K:Int}(h:Tr D T N c r K){t i:B}:HX.puts ⟨true,N,c,r,t,i⟩=true↔kF t i=true/\¬gO t i T/\szT T<20000:=by
 obtain⟨F,hF,_⟩:=h.rep;unfold HX.puts;rw[aI,aI,bL,bL,<- Bool.not_eq_true,h.has,decide_eq_false_iff_not];show _/\_/\¬(20000<=szN N r)↔_;rw[(zD hF).2]
 grind
theorem Tr.put{D:Dg}{T:TT}{N:Nat->NO}{c r:Nat}{K:Int}(h:Tr D T N c r K)(hK:0<=K){t i:B}(hp:HX.puts ⟨true,N,c,r,t,i⟩=true){y:Nat}(hy:chS.post ⟨true,N,c,r,t,i⟩ y) :
  Tr D (mH i t T) (sR ⟨true,N,c,r,t,i⟩ y) (putc ⟨true,N,c,r,t,i⟩) r (K+1000):=by
 have e:sR ⟨true,N,c,r,t,i⟩ y=iL true (chN true ⟨N,c,r⟩ t).N (chN true ⟨N,c,r⟩ t).x y i:=by
  unfold sR;rw[hp];rfl
 have ec:putc ⟨true,N,c,r,t,i⟩=(chN true ⟨N,c,r⟩ t).c+1:=by
  unfold putc;rw[hp];rfl
 have hy':(y=Ew (chN true ⟨N,c,r⟩ t).N (chN true ⟨N,c,r⟩ t).x/\fC (chN true ⟨N,c,r⟩ t).N y≠[])\/y=(chN true ⟨N,c,r⟩ t).c:=hy rfl;obtain⟨hv,hm,hz⟩:=h.puts.1 hp;obtain⟨F,hF,hFc⟩:=h.rep;obtain⟨_,h2⟩:=zM (D:=D) (i:=i) t hF hFc h.ok.cl.free h.wf;obtain⟨F',p⟩:=h2 y hy';have hl:=wS hv;have hsz:=oT (i:=i) t h.wf;have hch:=Qx (p:=true) t h.ok hK;have h3:=Wi hch (i:=i) hy' r (E3 (p:=true) t h.ok hK h.ok.nd);rw[e,ec];refine⟨⟨F',p.rep,λz hz=>?_⟩,⟨h3.cl,h3.nd,?_⟩,sY t h.wf hm,λt' i' h'=>?_,by omega⟩
 .have:=p.le;rcases p.new z hz with h1|h1
  .grind
  omega
 .intro j a n m sz mk hj;have:=h3.bd _ _ _ _ _ _ hj;omega
 .rcases (zG t h.wf).1 h' with⟨rfl,rfl⟩|h'
  .exact hv
  .exact h.val t' i' h'
end T18
end
section
set_option maxHeartbeats 10000000
open Go Go.Eng Go.Proofs T1 T2 T3 T4 T5 T6 T7 T8 T9 T10 T11 T12 T13 T14 T15 T16 T17 T18
set_option maxRecDepth 100000
namespace T19
def N0:Nat->NO:=λ_=>.none
theorem cl0:Cl N0 0:=⟨λ_ _=>rfl,λ_ _ _ _ _ _ h=>(by cases h),λ_ _ _ h=>(by cases h),λ_ _ _ _ _ _ h=>(by cases h),λ_ _ _ _ _ _ h=>(by cases h),λ_ _ _ _ _ _ _ _ _ _ _ h=>(by cases h),λ_ _ _ h=>(by cases h)⟩
theorem tr0(D:Dg):Tr D emp (jX N0 0) 3 1 0:=by
 have hc:=Cl.open cl0;have e1:jX N0 0 1=.node 2 0 0 0 []:=wI;refine⟨⟨λz=>z=1\/z=0\/z=2\/False,?_,?_⟩,⟨hc,⟨_,_,_,_,_,e1⟩,?_⟩,oU,λt i h=>absurd h Ey,by decide⟩
 .simp only [emp,gJ];refine⟨2,0,[],[],0,λ_=>False,e1,.inl ⟨rfl,trivial⟩,rfl,.inl rfl,.refl _,?_,by omega,by omega,id,id,id,λ_=>dF⟩
  grind[kK]
 .simp
 .intro i a n m sz mk h;have h':jX N0 0 i=.node a n m sz mk:=h;unfold jX at h';rcases eI h' with⟨_,k⟩|⟨_,k⟩
  .grind
  .rcases eI k with⟨_,k⟩|⟨_,k⟩<;>cases k
def Br(T:TT)(t i:B):Bool :=
 match bV t T with
 |some s=>decide (i∈vY s)
 |none=>false
theorem iY{T:TT}{t i:B}:Br T t i=true↔gO t i T:=by
 grind[Br,gO]
def pcT(T:TT)(k:Ky):Int:=bif kF k.1 k.2 then (bif Br T k.1 k.2 then 8 else bif decide (20000<=szT T)then 22 else 0)else 1
def tS:List Ky->TT->Int×TT
 | [],T=>(0,T)
 |k::l,T=>if pcT T k=0 then tS l (mH k.2 k.1 T)else (pcT T k,T)
def fK(l:List Ky):Int×TT:=if 20000<l.length then (2,emp)else if l.any kM=true then (1,emp)else tS l emp
theorem _root_.T18.Tr.code{D:Dg}{T:TT}{N:Nat->NO}{c r:Nat}{K:Int}(h:Tr D T N c r K){t i:B}:qI ⟨true,N,c,r,t,i⟩=pcT T (t,i):=by
 have e1:HX.has ⟨true,N,c,r,t,i⟩=Br T t i:=by rw[bH,h.has,iY]
 have e2:szN N r=(szT T:Nat):=by obtain⟨F,hF,_⟩:=h.rep; exact(zD hF).2
 unfold qI pcT
 grind
theorem _root_.T18.Tr.puts0{D:Dg}{T:TT}{N:Nat->NO}{c r:Nat}{K:Int}(h:Tr D T N c r K){t i:B}:HX.puts ⟨true,N,c,r,t,i⟩=decide (pcT T (t,i)=0):=by
 rw[bH,h.puts,decide_eq_true_iff,<- iY]
 grind[pcT]
end T19
end
section
open Go Go.Eng Go.Proofs T1 T2 T3 T4 T5 T6 T7 T8 T9 T10 T11 T12 T13 T14 T15 T16 T17 T18 T19
set_option maxRecDepth 100000
namespace T20
structure NY where
 e:Int
 o:Bool
 N:Nat->NO
 c:Nat
 r:Nat
 K:Int
def nyE(y:NY):SV:=bif y.o then .own 0 0 else .val (.pointer none)
def nyH(y:NY):List (Nat×aL):=bif y.o then tH 0 1 y.r y.N else []
def g11:List Nat:=[10,12,0,17,19,16,6,26,7,18,4,2,3]
def c11:aY :=
 .seq (.region g11 [(zo 2 (.move (.c (.nilptr)))),(zo 3 (.move (cj 0)))]) (.seq (.seq (.region g11 [(mv 8 0),(zo 9 (.lenSl (.s 8))),(zo 10 (.bin (.gtr) (.s 9) (cj 20000)))]) (.cond (.s 10) (.seq (.region g11 [(zo 2 (.move (.c (.nilptr)))),(zo 3 (.move (cj 2)))]) .ret) .skip)) (.seq (.seq (.region g11 [(mv 11 0),(zo 12 (.call (.c (.fn 36)) [.s 11,.c (.fn 37)]))]) (.join 0 [2,3] (.cond (.s 12) (.seq (.region g11 [(zo 2 (.move (.c (.nilptr)))),(zo 3 (.move (cj 1)))]) .ret) .skip))) (.seq (.region g11 [(zo 13 (.call (.c (.fn 39)) [])),(zo 14 (.build (.cons (.nilptr) .nil) [(0,1,.s 13)])),(zo 15 (.box 64 (.s 14))),(mv 4 15)]) (.seq (.seq (.region g11 [(mv 16 0),(zo 17 (.lenSl (.s 16))),(zo 18 (.move (cj 0)))]) (.block 0 (.loop 1 [19,20,21,6,22,23,24,7,25,26,27,2,3,28,18] (.seq (.region g11 [(zo 19 (.bin (.lss) (.s 18) (.s 17)))]) (.seq (.cond (.s 19) .skip (.exit 0)) (.seq (.block 1 (.seq (.region g11 [(zo 20 (.idxSl 2 (.s 16) (.s 18))),(zo 21 (.load 2 true (.s 20))),(zo 6 (.alloc 32 (.cons (.str []) (.cons (.str []) .nil)))),⟨none,none,.store 2 (.s 6) (.s 21),[]⟩]) (.seq (.region g11 [(mv 22 4),(zo 23 (.load 2 true (.s 6))),(zo 24 (.call (.c (.fn 15)) [.s 22,.s 23])),(mv 7 24)]) (.seq (.region g11 [(mv 25 7),(zo 26 (.bin (.neq) (.s 25) (cj 0)))]) (.cond (.s 26) (.seq (.region g11 [(mv 27 7),(zo 2 (.move (.c (.nilptr)))),(mv 3 27)]) .ret) .skip))))) (.region g11 [(zo 28 (.bin (.add) (.s 18) (cj 1))),(mv 18 28)]))))))) (.seq (.region g11 [(mv 29 4),(mv 2 29),(zo 3 (.move (cj 0)))]) .ret)))))
theorem e11:bO Tryz.prog 11 g11 [1] [] []=some (c11,[.slot 2,.slot 3],30):=by kernel_rfl
def Xq(D:Dg):bC where
 X:=List Ky
 Y:=NY
 args:=λl=>.cons (ksE l) .nil
 pre:=λl=>l.length<4611686018427387904/\∀j,j<l.length->(l.getD j k0).1.length<4611686018427387904
 h0:=λ_=>[]
 nx0:=0
 post:=λl y=>(y.e=(fK l).1/\y.o=decide (y.e=0))/\(y.o=true->Tr D (fK l).2 y.N y.c y.r y.K/\0<=y.K/\y.K<=20000000)
 res:=λ_ y=>.tup (.cons (nyE y) (.cons (.int .i64 y.e) .nil))
 h1:=λ_ y=>nyH y
 nx1:=2
theorem J7(D:Dg):(Xq D).Ok Tryz.prog 11:=by
 refine Eng.bC.okR e11 .nil (λ_=>[(36,.m aD6),(39,.m aCy),(15,.m X4)]) (λ_ _=>aO.m V8 (aO.m Ts (aO.m Ub aO.nil))) ?_;rintro(l:List Ky) ⟨(hn:l.length<4611686018427387904),(ht:∀j,j<l.length->(l.getD j k0).1.length<4611686018427387904)⟩;refine⟨trivial,?_⟩;repeat' (first|refine aA ?_ ?_)
 .refine λ(h:decide ((l.length:Int)>20000)=true)=>?_;have h0:20000<l.length:=by have:=of_decide_eq_true h; omega
  have e:fK l=(2,emp):=if_pos h0;have p1:(NY.mk 2 false N0 0 0 0).e=(fK l).1:=by rw[e]
  have p2:(NY.mk 2 false N0 0 0 0).o=true->Tr D (fK l).2 (NY.mk 2 false N0 0 0 0).N (NY.mk 2 false N0 0 0 0).c (NY.mk 2 false N0 0 0 0).r (NY.mk 2 false N0 0 0 0).K/\0<=(NY.mk 2 false N0 0 0 0).K/\(NY.mk 2 false N0 0 0 0).K<=20000000:=λh=>(by cases h);refine aB (NY.mk 2 false N0 0 0 0) ?_;repeat' (first|(with_reducible first|exact p1|exact p2)|apply aA|exact trivial|exact rfl)
 .refine λ(h:decide ((l.length:Int)>20000)=false)=>?_;have h0:¬20000<l.length:=by have:=of_decide_eq_false h; omega
  refine aB l (aB [] ?_);repeat' (first|apply aA|exact trivial|exact rfl|exact lz λ_=>rfl|exact hn|exact ht)
  refine λ(y:Bool) (hy:y=l.any kM)=>?_;subst hy;refine aB ⟨Unit,λ_=>l.any kM=false,λ_=>[],λ_=>[(20,.fam λ_=>.gone)],λ_=>0⟩ (aA ?_ ?_)
  .repeat' (first|refine aA ?_ ?_)
   .refine λ(hb:l.any kM=true)=>?_;have e:fK l=(1,emp):=by unfold T19.fK; rw[if_neg h0,if_pos hb]
    have p1:(NY.mk 1 false N0 0 0 0).e=(fK l).1:=by rw[e]
    have p2:(NY.mk 1 false N0 0 0 0).o=true->Tr D (fK l).2 (NY.mk 1 false N0 0 0 0).N (NY.mk 1 false N0 0 0 0).c (NY.mk 1 false N0 0 0 0).r (NY.mk 1 false N0 0 0 0).K/\0<=(NY.mk 1 false N0 0 0 0).K/\(NY.mk 1 false N0 0 0 0).K<=20000000:=λh=>(by cases h);refine aB (NY.mk 1 false N0 0 0 0) ?_;repeat' (first|(with_reducible first|exact p1|exact p2)|apply aA|exact trivial|exact rfl)
   .refine λ(hb:l.any kM=false)=>?_;refine aB () ?_;repeat' (first|with_reducible exact hb|apply aA|exact trivial|exact rfl|exact λ_=>rfl|exact lz λ_=>rfl|fail)
  rintro⟨⟩ (hb:l.any kM=false);have e:fK l=tS l emp:=by unfold T19.fK; rw[if_neg h0,if_neg (by rw[hb]; simp)]
  have hc0:Cl N0 0:=cl0;refine aB (N0,0) (aB [20] ?_);repeat' (first|apply aA|exact trivial|exact λ_=>rfl|exact hc0)
  refine λ(_:Unit) (_:True)=>?_;refine⟨⟨Nat×TT×(Nat->NO)×Nat×Nat×Int,λs=>s.1<=l.length/\tS (l.drop s.1) s.2.1=T19.fK l/\Tr D s.2.1 s.2.2.1 s.2.2.2.1 s.2.2.2.2.1 s.2.2.2.2.2/\0<=s.2.2.2.2.2/\s.2.2.2.2.2<=(s.1:Int)*1000,λs=>[(18,.int .i64 (s.1:Int)),(4,.own 40 0)],λs=>tH 40 20 s.2.2.2.2.1 s.2.2.1,λs=>l.length-s.1⟩,(0,emp,jX N0 0,3,1,0),?_,?_,?_⟩
  .exact ⟨aS _,e.symm,tr0 D,by decide,by decide⟩
  .repeat' (first|apply aA|exact trivial|exact rfl|exact lz λ_=>rfl|exact λi=>mL (by exact rfl) (by exact rfl) _|fail)
  rintro⟨j,T,N,c,r,K⟩ ⟨(kj:j<=l.length),(k1:tS (l.drop j) T=T19.fK l),(k2:Tr D T N c r K),(k3:0<=K),(k4:K<=(j:Int)*1000)⟩;repeat' (first|refine aA ?_ ?_)
  .refine λ(hg:decide ((j:Int)<(l.length:Int))=true)=>?_;have hj:j<l.length:=by have:=of_decide_eq_true hg; omega
   have g0:(0:Int)<=(j:Int):=by omega
   have g1:(j:Int)<(l.length:Int):=by omega
   have g2:-9223372036854775808<=(j:Int)+1:=by omega
   have g3:(j:Int)+1<=9223372036854775807:=by omega
   have hdr:l.drop j=l.getD j k0::l.drop (j+1):=by rw[List.drop_eq_getElem_cons hj]; simp[hj]
   have hK:K<=1000000000000:=by omega
   have hpre:=k2.M6 (t:=(l.getD j k0).1) (i:=(l.getD j k0).2) hK (ht j hj);have hcode:=k2.code (t:=(l.getD j k0).1) (i:=(l.getD j k0).2);repeat' (first|apply aA|(with_reducible first|exact g0|exact g1))
   refine aB (HX.mk true N c r (l.getD j k0).1 (l.getD j k0).2) (aB [40,20] ?_);repeat' (first|exact hpre|apply aA|exact trivial|exact rfl|exact λi=>oS (by exact rfl) (N i)|fail)
   refine λ(y:Nat) (hy:HX.puts ⟨true,N,c,r,(l.getD j k0).1,(l.getD j k0).2⟩=true->chS.post ⟨true,N,c,r,(l.getD j k0).1,(l.getD j k0).2⟩ y)=>?_;repeat' (first|refine aA ?_ ?_)
   .refine λ(hc:(!decide (qI ⟨true,N,c,r,(l.getD j k0).1,(l.getD j k0).2⟩=0))=true)=>?_;have hne:qI ⟨true,N,c,r,(l.getD j k0).1,(l.getD j k0).2⟩≠0:=of_decide_eq_false (T12.Xx hc);have k5:T19.fK l=(qI ⟨true,N,c,r,(l.getD j k0).1,(l.getD j k0).2⟩,T):=by
     rw[<- k1,hdr,tS,hcode];rw[hcode]at hne;rw[if_neg hne]
    have p1:(NY.mk (qI ⟨true,N,c,r,(l.getD j k0).1,(l.getD j k0).2⟩) false N0 0 0 0).e=(T19.fK l).1:=by rw[k5]
    have p3:false=decide (qI ⟨true,N,c,r,(l.getD j k0).1,(l.getD j k0).2⟩=0):=(decide_eq_false hne).symm;refine aB (NY.mk (qI ⟨true,N,c,r,(l.getD j k0).1,(l.getD j k0).2⟩) false N0 0 0 0) ?_;repeat' (first|with_reducible exact p1|exact p3|apply aA|exact trivial|exact rfl|exact zf|fail)
   .refine λ(hc:(!decide (qI ⟨true,N,c,r,(l.getD j k0).1,(l.getD j k0).2⟩=0))=false)=>?_;have he:qI ⟨true,N,c,r,(l.getD j k0).1,(l.getD j k0).2⟩=0:=of_decide_eq_true (T12.Xw hc);have hpu:HX.puts ⟨true,N,c,r,(l.getD j k0).1,(l.getD j k0).2⟩=true:=by rw[k2.puts0,<- hcode]; exact decide_eq_true he
    have k5:=k2.put k3 hpu (hy hpu);have k6:tS (l.drop (j+1)) (mH (l.getD j k0).2 (l.getD j k0).1 T)=T19.fK l:=by
     rw[<- k1,hdr];show _=if pcT T (l.getD j k0)=0 then _ else _
     rw[hcode]at he;rw[if_pos he]
    have kj':j+1<=l.length:=hj;have k7:0<=K+1000:=by omega
    have k8:K+1000<=((j+1:Nat):Int)*1000:=by omega
    have k9:l.length-(j+1)<l.length-j:=by omega
    repeat' (first|apply aA|(with_reducible first|exact g2|exact g3))
    refine aB (j+1,mH (l.getD j k0).2 (l.getD j k0).1 T,sR ⟨true,N,c,r,(l.getD j k0).1,(l.getD j k0).2⟩ y,putc ⟨true,N,c,r,(l.getD j k0).1,(l.getD j k0).2⟩,r,K+1000) ?_;repeat' (first|(with_reducible first|exact kj'|exact k6|exact k5|exact k7|exact k8|exact k9)|apply aA|exact trivial|exact rfl|exact lz λ_=>rfl|exact λi=>mL (by exact rfl) (by exact rfl) _|fail)
  .refine λ(hg:decide ((j:Int)<(l.length:Int))=false)=>?_;have hj:j=l.length:=by have:=of_decide_eq_false hg; omega
   subst hj;have k5:T19.fK l=(0,T):=by rw[<- k1,iQ]; rfl
   have p1:(NY.mk 0 true N c r K).e=(T19.fK l).1:=by rw[k5]
   have p2:(NY.mk 0 true N c r K).o=true->Tr D (T19.fK l).2 (NY.mk 0 true N c r K).N (NY.mk 0 true N c r K).c (NY.mk 0 true N c r K).r (NY.mk 0 true N c r K).K/\0<=(NY.mk 0 true N c r K).K/\(NY.mk 0 true N c r K).K<=20000000:=λ_=>by rw[k5]; exact⟨k2,k3,by show K<=_; omega⟩
   refine aB (NY.mk 0 true N c r K) ?_;repeat' (first|(with_reducible first|exact p1|exact p2)|apply aA|exact trivial|exact rfl|exact λi=>oS (by exact rfl) (N i)|fail)
end T20
end
section
set_option maxHeartbeats 10000000
open Go Go.Eng Go.Proofs T1 T2 T3 T4 T5 T6 T10 T11
set_option maxRecDepth 100000
namespace T21
def jJ(l:List Ky)(v:Ky):Int:=match (List.range l.length).find? (λi=>decide (l.getD i k0=v)) with
 |some i=>i
 |none=>-1
theorem aBf{l:List Ky}{v:Ky}{k:Nat}(hk:k<l.length)(he:l.getD k k0=v)(h:∀j,j<k->l.getD j k0≠v):jJ l v=k:=by
 grind[jJ,List.find?_range_eq_some]
theorem Ry{l:List Ky}{v:Ky}(h:∀j,j<l.length->l.getD j k0≠v):jJ l v=-1:=by
 grind[jJ]
end T21
end
