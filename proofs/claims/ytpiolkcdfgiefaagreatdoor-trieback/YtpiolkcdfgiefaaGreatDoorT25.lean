/- A part of the proof. -/
import Derived.Test.YtpiolkcdfgiefaaGreatDoorT16
section
open Go Go.Eng Go.Proofs T1 T2 T3 T4 T5 T6 T7 T8 T9 T10 T11 T12 T13 T14 T15 T16
set_option maxRecDepth 100000
namespace T17
theorem Kc {p:Bool}:∀ (t:B) {s:CS} {K:Int},T8.Ok s K->0<=K->T8.Ok (chN p s t) (K+(t.length:Int)+1)
 | [],s,K,h,_=>by
  have h1:=Ok.bump (p:=p) h
  have e:K+(([]:B).length:Int)+1=K+1:=by simp
  rw [e]
  exact h1
 | b::t,s,K,h,hK=>by
  have h1:=(Ok.bump (p:=p) h).step (p:=p) (by omega) b
  have:=Kc (p:=p) t h1 (by omega)
  have e:K+((b::t).length:Int)+1=K+1+(t.length:Int)+1:=by simp only [List.length_cons]; omega
  rw [e]
  exact this
theorem Cl.list {N:Nat->NO} {c c' x a n m y n':Nat} {sz:Int} {mk:B} {L:List B} (h:Cl N c) (hx:N x=.node a n m sz mk) (hy:(y=a/\∃ A,N a=.arr A)\/(y=c/\c < c')) (hc:c<=c') (hL:L≠[]) (hn:n'<=L.length) :
  Cl (put (put N y (.arr L)) x (.node y n' m sz mk)) c':=by
 have hxc:x < c:=h.lt (by rw [hx]; intro h; cases h)
 have hy1:y≠x:=by
  rcases hy with ⟨rfl,A,h'⟩|⟨rfl,_⟩
  ·rintro rfl; rw [h'] at hx; cases hx
  ·omega
 have hyc:y < c':=by
  rcases hy with ⟨rfl,A,h'⟩|⟨rfl,h'⟩
  ·have:=h.lim _ _ _ _ _ _ hx; omega
  ·exact h'
 have hym:∀ l q,N y≠.map l q:=by
  rcases hy with ⟨rfl,A,h'⟩|⟨rfl,_⟩
  ·intro l q; rw [h']; intro h; cases h
  ·intro l q; rw [h.free _ (Nat.le_refl _)]; intro h; cases h
 have hyn:∀ a n m sz mk,N y≠.node a n m sz mk:=by
  rcases hy with ⟨rfl,A,h'⟩|⟨rfl,_⟩
  ·intro a n m sz mk; rw [h']; intro h; cases h
  ·intro a n m sz mk; rw [h.free _ (Nat.le_refl _)]; intro h; cases h
 have oth:∀ z,z≠x->z≠y->put (put N y (.arr L)) x (.node y n' m sz mk) z=N z:=fun z h1 h2=>by rw [aI h1,aI h2]
 have atx:put (put N y (.arr L)) x (.node y n' m sz mk) x=.node y n' m sz mk:=bN _ _ _
 have aty:put (put N y (.arr L)) x (.node y n' m sz mk) y=.arr L:=by rw [aI hy1,bN]
 have cs:∀ {z:Nat} {o:NO},put (put N y (.arr L)) x (.node y n' m sz mk) z=o->(z=x/\o=.node y n' m sz mk)\/(z=y/\o=.arr L)\/(z≠x/\z≠y/\N z=o):=by
  intro z o e
  by_cases h1:z=x
  ·subst h1; rw [atx] at e; exact .inl ⟨rfl,e.symm⟩
  ·by_cases h2:z=y
   ·subst h2; rw [aty] at e; exact .inr (.inl ⟨rfl,e.symm⟩)
   ·rw [oth z h1 h2] at e; exact .inr (.inr ⟨h1,h2,e⟩)
 have nolist:∀ {i a' n1 m1 sz1 mk1},N i=.node a' n1 m1 sz1 mk1->i≠x->a'≠y:=by
  rintro i a' n1 m1 sz1 mk1 hi hne rfl
  rcases hy with ⟨rfl,_⟩|⟨rfl,_⟩
  ·exact hne (h.own _ _ _ _ _ _ _ _ _ _ _ hi hx)
  ·have:=h.lim _ _ _ _ _ _ hi; omega
 refine ⟨fun i hi=>?_,fun i a' n1 m1 sz1 mk1 hi=>?_,fun i l q hi e he=>?_,fun i a' n1 m1 sz1 mk1 hi=>?_,fun i a' n1 m1 sz1 mk1 hi=>?_,fun i j a' n1 m1 sz1 mk1 n2 m2 sz2 mk2 hi hj=>?_,fun i l q hi=>?_⟩
 ·rw [oth i (by omega) (by omega)]; exact h.free i (by omega)
 ·have key:∃ a n sz mk i,N i=.node a n m1 sz mk:=by
   rcases cs hi with ⟨rfl,k⟩|⟨_,k⟩|⟨_,_,k⟩
   ·cases k; exact ⟨_,_,_,_,_,hx⟩
   ·cases k
   ·exact ⟨_,_,_,_,_,k⟩
  obtain ⟨_,_,_,_,_,k⟩:=key
  obtain ⟨l,q,e⟩:=h.kids _ _ _ _ _ _ k
  exact ⟨l,q,by rw [oth _ (lX hx e) (fun h'=>hym l q (h' ▸ e))]; exact e⟩
 ·rcases cs hi with ⟨rfl,k⟩|⟨_,k⟩|⟨_,_,k⟩
  ·cases k
  ·cases k
  ·obtain ⟨h1,a2,n2,m2,s2,k2,h2⟩:=h.ent _ _ _ k e he
   refine ⟨h1,?_⟩
   by_cases hz:e.2.1=x
   ·rw [hz]; exact ⟨_,_,_,_,_,atx⟩
   ·exact ⟨_,_,_,_,_,by rw [oth _ hz (fun h'=>hyn _ _ _ _ _ (h' ▸ h2))]; exact h2⟩
 ·rcases cs hi with ⟨rfl,k⟩|⟨_,k⟩|⟨h1,_,k⟩
  ·cases k; exact .inr ⟨L,aty,hL,hn⟩
  ·cases k
  ·have hne:=nolist k h1
   have hnx:a'≠x:=by
    rintro rfl
    rcases h.lst _ _ _ _ _ _ k with ⟨e,_⟩|⟨A,e,_⟩ <;> rw [hx] at e <;> cases e
   rw [oth a' hnx hne]
   exact h.lst _ _ _ _ _ _ k
 ·rcases cs hi with ⟨rfl,k⟩|⟨_,k⟩|⟨h1,_,k⟩
  ·cases k; exact hyc
  ·cases k
  ·have:=h.lim _ _ _ _ _ _ k; omega
 ·rcases cs hi with ⟨h1,k⟩|⟨_,k⟩|⟨h1,_,k⟩
  ·cases k
   rcases cs hj with ⟨h2,k'⟩|⟨_,k'⟩|⟨h2,_,k'⟩
   ·rw [h1,h2]
   ·cases k'
   ·exact absurd rfl (nolist k' h2)
  ·cases k
  ·rcases cs hj with ⟨h2,k'⟩|⟨_,k'⟩|⟨h2,_,k'⟩
   ·cases k'; exact absurd rfl (nolist k h1)
   ·cases k'
   ·exact h.own _ _ _ _ _ _ _ _ _ _ _ k k'
 ·rcases cs hi with ⟨rfl,k⟩|⟨_,k⟩|⟨_,_,k⟩
  ·cases k
  ·cases k
  ·exact h.tick _ _ _ k
theorem Bd.list {N:Nat->NO} {x a n m y n':Nat} {sz K:Int} {mk:B} {L:List B} (h:Bd N K) (hx:N x=.node a n m sz mk):Bd (put (put N y (.arr L)) x (.node y n' m sz mk)) K:=by
 intro i a1 n1 m1 sz1 mk1 hi
 rcases bR hi with ⟨rfl,k⟩|⟨_,k⟩
 ·cases k; exact h _ _ _ _ _ _ hx
 ·rcases bR k with ⟨_,k⟩|⟨_,k⟩
  ·cases k
  ·exact h _ _ _ _ _ _ k
theorem Oi {s:CS} {K:Int} (h:T8.Ok s K) {y:Nat} {i:B} (hy:(y=zI s.N s.x/\cG s.N y≠[])\/y=s.c) (r:Nat) (hr:isNode s.N r):T8.Ok ⟨dU true s.N s.x y i,s.c+1,r⟩ K:=by
 obtain ⟨a,n,m,sz,mk,e⟩:=h.nd
 have ee:dU true s.N s.x y i=put (put s.N y (.arr (kA (cG s.N a) n (bM (cR s.N a n) i) i))) s.x (.node y (n+1) m sz mk):=by simp only [dU,e,cond_true]
 have hle:n<=(cG s.N a).length:=by
  rcases h.cl.lst _ _ _ _ _ _ e with ⟨_,h0⟩|⟨A,h0,_,h1⟩
  ·omega
  ·simp only [cG,h0]; exact h1
 have hp:bM (cR s.N a n) i<=n:=by have:=qW (cR s.N a n) i; rwa [jQ (h.cl.lst _ _ _ _ _ _ e)] at this
 have hlen:=Gv (A:=cG s.N a) (v:=i) hp hle
 have hy':(y=a/\∃ A,s.N a=.arr A)\/(y=s.c/\s.c < s.c+1):=by
  rcases hy with ⟨h1,h2⟩|h1
  ·have:y=a:=by rw [h1]; simp only [zI,e]
   subst this
   refine .inl ⟨rfl,?_⟩
   rcases h.cl.lst _ _ _ _ _ _ e with ⟨h0,_⟩|⟨A,h0,_⟩
   ·simp [cG,h0] at h2
   ·exact ⟨A,h0⟩
  ·exact .inr ⟨h1,Nat.lt_succ_self _⟩
 refine ⟨?_,?_,?_⟩
 ·show Cl (dU true s.N s.x y i) (s.c+1)
  rw [ee]
  exact Cl.list h.cl e hy' (Nat.le_succ _) (fun h0=>by rw [h0] at hlen; simp at hlen) (by rw [hlen]; exact Nat.le_refl _)
 ·show isNode (dU true s.N s.x y i) r
  rw [ee]
  refine qY ⟨_,_,_,_,_,rfl⟩ ?_
  obtain ⟨a1,n1,m1,s1,k1,e1⟩:=hr
  refine ⟨a1,n1,m1,s1,k1,?_⟩
  rw [aI]
  ·exact e1
  ·rintro rfl
   rcases hy' with ⟨rfl,A,h0⟩|⟨h0,_⟩
   ·rw [h0] at e1; cases e1
   ·rw [h0,h.cl.free _ (Nat.le_refl _)] at e1; cases e1
 ·show Bd (dU true s.N s.x y i) K
  rw [ee]
  exact Bd.list h.bd e
theorem Kn {s:CS} {K:Int} (h:T8.Ok s K) {i:B} (hi:i∈iZ s.N s.x) (r:Nat) (hr:isNode s.N r):T8.Ok ⟨dU false s.N s.x 0 i,s.c,r⟩ K:=by
 obtain ⟨a,n,m,sz,mk,e⟩:=h.nd
 rw [lV e] at hi
 have ee:dU false s.N s.x 0 i=put (put s.N a (.arr (qD (cG s.N a) n (bM (cR s.N a n) i)))) s.x (.node a (n - 1) m sz mk):=by simp only [dU,e,cond_false]
 obtain ⟨A,hA,hA0,hA1⟩:∃ A,s.N a=.arr A/\A≠[]/\n<=A.length:=by
  rcases h.cl.lst _ _ _ _ _ _ e with ⟨h0,_⟩|h0
  ·simp [cR,h0] at hi
  ·exact h0
 refine ⟨?_,?_,?_⟩
 ·show Cl (dU false s.N s.x 0 i) s.c
  rw [ee]
  refine Cl.list h.cl e (.inl ⟨rfl,A,hA⟩) (Nat.le_refl _) (fun h0=>by simp [qD] at h0) ?_
  simp only [cG,hA,qD,List.length_append,List.length_take,List.length_drop,List.length_cons,List.length_nil]
  omega
 ·show isNode (dU false s.N s.x 0 i) r
  rw [ee]
  refine qY ⟨_,_,_,_,_,rfl⟩ ?_
  obtain ⟨a1,n1,m1,s1,k1,e1⟩:=hr
  refine ⟨a1,n1,m1,s1,k1,?_⟩
  rw [aI]
  ·exact e1
  ·rintro rfl; rw [hA] at e1; cases e1
 ·show Bd (dU false s.N s.x 0 i) K
  rw [ee]
  exact Bd.list h.bd e
theorem xG {p:Bool} {N:Nat->NO} {x z:Nat} (h:isNode N z):isNode (bump p N x) z:=by
 unfold bump
 split
 ·exact qY ⟨_,_,_,_,_,rfl⟩ h
 ·exact h
theorem zP {p:Bool}:∀ (t:B) {s:CS} {K:Int},T8.Ok s K->0<=K->∀ {z:Nat},isNode s.N z->isNode (chN p s t).N z
 | [],s,K,h,_,z,hz=>xG hz
 | b::t,s,K,h,hK,z,hz=>by
  have h0:=Ok.bump (p:=p) h
  refine zP (p:=p) t (h0.step (p:=p) (by omega) b) (by omega) ?_
  have hz':isNode (bump p s.N s.x) z:=xG hz
  obtain ⟨a,n,m,sz,mk,(e:bump p s.N s.x s.x=.node a n m sz mk)⟩:=h0.nd
  obtain ⟨l,q,(hm:bump p s.N s.x m=.map l q)⟩:=h0.cl.kids _ _ _ _ _ _ e
  have hzc:z < s.c:=h0.cl.lt (by obtain ⟨_,_,_,_,_,e⟩:=hz'; show bump p s.N s.x z≠_; rw [e]; intro h; cases h)
  have mapped:∀ {M:Nat->NO} {l' q'},isNode M z->(∃ l q,M m=.map l q)->isNode (put M m (.map l' q')) z:=by
   rintro M l' q' ⟨a1,n1,m1,s1,k1,e1⟩ ⟨l,q,e2⟩
   exact ⟨a1,n1,m1,s1,k1,by rw [aI (fun h=>by rw [h,e2] at e1; cases e1)]; exact e1⟩
  unfold stN
  split
  ·show isNode (uK (bump p s.N s.x) s.c s.x b) z
   rw [oB e hm]
   have hmc:m < s.c:=h0.cl.lt (by show bump p s.N s.x m≠_; rw [hm]; intro h; cases h)
   refine mapped ?_ ⟨l,q,(oI hmc).trans hm⟩
   obtain ⟨a1,n1,m1,s1,k1,e1⟩:=hz'
   exact ⟨a1,n1,m1,s1,k1,(oI hzc).trans e1⟩
  ·show isNode (if _ then _ else _) z
   split
   ·show isNode (Di (bump p s.N s.x) s.x b) z
    rw [rL e hm]
    exact mapped hz' ⟨l,q,hm⟩
   ·exact hz'
theorem yA {D:Dg} {N:Nat->NO}:∀ (t:B) {T:TT} {x:Nat} {F:Nat->Prop},dH D N T x F->wfT T ->
  (∀ s,cM t T=some s->∃ v G,atN N x t=some v/\dH D N s v G)/\(cM t T=none->atN N x t=none)
 | [],T,x,F,h,_=>⟨fun s e=>(by cases e; exact ⟨x,F,rfl,h⟩),fun e=>(by cases e)⟩
 | b::t,.node ids k,x,F,h,w=>by
  simp only [dH] at h
  obtain ⟨a,m,mk,l,q,G,h1,_,h3,_,h5,h6,_⟩:=h
  simp only [wfT] at w
  have hkd:rV N x b=(mget l (dE b)).map (·.1):=kG h1 h3 b
  simp only [cM,atN]
  cases hg:bQ k b with
  | none =>
   have hb:b ∉ aQ k:=fun h=>by obtain ⟨s,e⟩:=rR h; rw [hg] at e; cases e
   have hbl:dE b ∉ l.map (·.1):=fun h=>by
    obtain ⟨x,hx,e⟩:=List.mem_map.1 (h5.mem_iff.1 h)
    exact hb (qP e ▸ hx)
   rw [hkd,rY hbl]
   exact ⟨fun s e=>(by cases e),fun _=>rfl⟩
  | some s =>
   obtain ⟨u,τ,G1,G2,j1,j2,_⟩:=jW h6 hg w.2.1
   rw [hkd,j1]
   exact yA t j2 (iA hg w.2.2).1
theorem tN {D:Dg} {N:Nat->NO} {T:TT} {v:Nat} {F:Nat->Prop} (h:dH D N T v F):iZ N v=tD T/\szN N v=(szT T:Nat):=by
 obtain ⟨ids,k⟩:=T
 simp only [dH] at h
 obtain ⟨a,m,mk,l,q,G,h1,h2,_⟩:=h
 exact ⟨by rw [lV h1]; exact (xZ h2).1,by rw [Cq h1]; simp only [szT]⟩
theorem vO:∀ (t:B) {T s:TT},cM t T=some s->(tD s).length<=szT T
 | [],.node ids k,s,e=>by cases e; simp only [tD,szT]; omega
 | b::t,.node ids k,s,e=>by
  simp only [cM] at e
  cases hg:bQ k b with
  | none=>rw [hg] at e; cases e
  | some s' =>
   rw [hg] at e
   have h1:=vO t e
   have h2:∀ {k:TK},bQ k b=some s'->szT s'<=szK k:=by
    intro k hk
    have:=Ai hk
    omega
   have:=h2 hg
   simp only [szT]; omega
theorem Fs:∀ (t:B) {T s:TT},wfT T->cM t T=some s->wfT s
 | [],T,s,w,e=>by cases e; exact w
 | b::t,.node ids k,s,w,e=>by
  simp only [wfT] at w
  simp only [cM] at e
  cases hg:bQ k b with
  | none=>rw [hg] at e; cases e
  | some s'=>rw [hg] at e; exact Fs t (iA hg w.2.2).1 e
theorem Ow {D:Dg} {N:Nat->NO} {t i:B} {T:TT} {x:Nat} {F:Nat->Prop} (h:dH D N T x F) (w:wfT T):oL N x t i=true ↔ dJ t i T:=by
 obtain ⟨h1,h2⟩:=yA t h w
 unfold oL dJ
 cases hs:cM t T with
 | none=>rw [h2 hs]; simp
 | some s =>
  obtain ⟨v,G,hv,hr⟩:=h1 s hs
  rw [hv]
  simp [(tN hr).1]
end T17
end
section
open Go Go.Eng Go.Proofs T1 T2 T3 T4 T5 T6 T7 T8 T9 T10 T11 T12 T13 T14 T15 T16 T17
set_option maxRecDepth 100000
namespace T18
theorem Lu {l:List B} {i j:B}:j∈kA l l.length (bM l i) i ↔ j=i\/j∈l:=by
 rw [zA,List.mem_append,List.mem_cons]
 have:j∈l ↔ j∈l.take (bM l i)\/j∈l.drop (bM l i):=by
  rw [<- List.mem_append,List.take_append_drop]
 rw [this]
 constructor
 ·rintro (h|h|h)
  ·exact .inr (.inl h)
  ·exact .inl h
  ·exact .inr (.inr h)
 ·rintro (h|h|h)
  ·exact .inr (.inl h)
  ·exact .inl h
  ·exact .inr (.inr h)
theorem Jh {l:List B} (h:Srt l):l.Nodup:=by
 refine List.Pairwise.imp ?_ h
 intro a b hab e
 subst e
 rw [uA] at hab
 cases hab
theorem Lv {l:List B} (h:Srt l) {i j:B} (hi:i∈l):j∈vJ l i ↔ j∈l/\j≠i:=by
 obtain ⟨h1,h2⟩:=(tS h i).1 hi
 have e:l=l.take (bM l i)++i::l.drop (bM l i+1):=by
  have:i=l[bM l i]:=by
   have h3:=h2
   rw [List.getD_eq_getElem?_getD,List.getElem?_eq_getElem h1] at h3
   exact h3.symm
  conv=>lhs; rw [<- List.take_append_drop (bM l i) l,List.drop_eq_getElem_cons h1,<- this]
 have hn:=Jh h
 rw [e,List.nodup_append] at hn
 obtain ⟨_,n2,n3⟩:=hn
 have n4:=(List.nodup_cons.1 n2).1
 unfold vJ
 rw [List.mem_append]
 have hm:j∈l ↔ j∈l.take (bM l i)\/j=i\/j∈l.drop (bM l i+1):=by
  conv=>lhs; rw [e]
  rw [List.mem_append,List.mem_cons]
 rw [hm]
 constructor
 ·rintro (h|h)
  ·exact ⟨.inl h,n3 _ h _ List.mem_cons_self⟩
  ·exact ⟨.inr (.inr h),fun e=>n4 (e ▸ h)⟩
 ·rintro ⟨h|h|h,hne⟩
  ·exact .inl h
  ·exact absurd h hne
  ·exact .inr h
theorem fQ {ids:List B} {k:TK} {i:B}:dJ [] i (.node ids k) ↔ i∈ids :=
 ⟨fun ⟨s,e,h⟩=>by cases e; exact h,fun h=>⟨_,rfl,h⟩⟩
theorem cE {ids:List B} {k:TK} {b:UInt8} {t i:B}:dJ (b::t) i (.node ids k) ↔ ∃ s,bQ k b=some s/\dJ t i s :=
 ⟨mem_cons,fun ⟨s,hg,s',e,h⟩=>⟨s',by simp only [cM,hg,Option.bind_some]; exact e,h⟩⟩
theorem zK {t i:B}:¬ dJ t i emp:=by
 rintro ⟨s,e,h⟩
 cases t with
 | nil=>cases e; cases h
 | cons b t=>cases e
theorem lY {i:B}:∀ (t:B) {T:TT},wfT T->∀ {t' i':B},dJ t' i' (eM i t T) ↔ (t'=t/\i'=i)\/dJ t' i' T
 | [],.node ids k,w,[],i'=>by
  simp only [eM]
  rw [fQ,fQ,Lu]
  simp
 | [],.node ids k,w,b'::t',i'=>by
  simp only [eM]
  rw [cE,cE]
  simp
 | b::t,.node ids k,w,[],i'=>by
  simp only [eM]
  rw [fQ,fQ]
  simp
 | b::t,.node ids k,w,b'::t',i'=>by
  simp only [wfT] at w
  simp only [eM]
  rw [cE,cE]
  simp only [yW w.2.1]
  have hw:wfT ((bQ k b).getD emp):=by
   cases hg:bQ k b with
   | none=>exact pU
   | some s=>exact (iA hg w.2.2).1
  by_cases e:b'=b
  ·subst e
   simp only [if_true,Option.some.injEq,exists_eq_left']
   rw [lY t hw]
   cases hg:bQ k b' with
   | none =>
    simp only [Option.getD_none,List.cons.injEq,true_and,reduceCtorEq,false_and,exists_false,or_false]
    exact ⟨fun h=>h.resolve_right zK,.inl⟩
   | some s=>simp
  ·rw [if_neg e]
   simp [e]
theorem oG {i:B}:∀ (t:B) {T:TT},wfT T->dJ t i T->∀ {t' i':B},dJ t' i' (fV i t T) ↔ dJ t' i' T/\¬ (t'=t/\i'=i)
 | [],.node ids k,w,hm,[],i'=>by
  simp only [wfT] at w
  simp only [fV]
  rw [fQ,fQ,Lv w.1 (fQ.1 hm)]
  simp
 | [],.node ids k,w,hm,b'::t',i'=>by
  simp only [fV]
  rw [cE,cE]
  simp
 | b::t,.node ids k,w,hm,t',i'=>by
  simp only [wfT] at w
  obtain ⟨s,hg,hms⟩:=mem_cons hm
  have hs:=iA hg w.2.2
  have ih:=@oG i t s hs.1 hms
  simp only [fV,hg]
  split
  ·rename_i h1
   cases t' with
   | nil=>rw [fQ,fQ]; simp
   | cons b' t' =>
    rw [cE,cE]
    simp only [Gr w.2.1]
    by_cases e:b'=b
    ·subst e
     simp only [if_true,reduceCtorEq,false_and,exists_false,false_iff,hg,Option.some.injEq,exists_eq_left',List.cons.injEq,true_and]
     rintro ⟨h',hne⟩
     have h2:=ih.2 ⟨h',hne⟩
     have h3:=sJ t hs.1 hms
     obtain ⟨s',e',h4⟩:=h2
     have h5:=vO _ e'
     have:=List.length_pos_of_mem h4
     omega
    ·rw [if_neg e]; simp [e]
  ·cases t' with
   | nil=>rw [fQ,fQ]; simp
   | cons b' t' =>
    rw [cE,cE]
    simp only [yW w.2.1]
    by_cases e:b'=b
    ·subst e
     simp only [if_true,Option.some.injEq,exists_eq_left',hg,List.cons.injEq,true_and]
     exact ih
    ·rw [if_neg e]; simp [e]
structure Tr (D:Dg) (T:TT) (N:Nat->NO) (c r:Nat) (K:Int):Prop where
 rep:∃ F,dH D N T r F/\∀ z,F z->z < c
 ok:T8.Ok ⟨N,c,r⟩ K
 wf:wfT T
 val:∀ t i,dJ t i T->iI t i=true
 sz:szT T<=20000
theorem tV {t i:B} (h:iI t i=true):t.length<=120:=by
 unfold iI at h
 simp only [Bool.and_eq_true,decide_eq_true_eq] at h
 exact h.2.1
theorem Tr.ids {D:Dg} {T:TT} {N:Nat->NO} {c r:Nat} {K:Int} (h:Tr D T N c r K) (t:B):∀ v,atN N r t=some v->(iZ N v).length<=1000000:=by
 intro v hv
 obtain ⟨F,hF,_⟩:=h.rep
 obtain ⟨h1,h2⟩:=yA t hF h.wf
 cases hs:cM t T with
 | none=>rw [h2 hs] at hv; cases hv
 | some s =>
  obtain ⟨v',G,e,hr⟩:=h1 s hs
  rw [e] at hv
  cases hv
  rw [(tN hr).1]
  have:=vO t hs
  have:=h.sz
  omega
theorem Tr.has {D:Dg} {T:TT} {N:Nat->NO} {c r:Nat} {K:Int} (h:Tr D T N c r K) {p:Bool} {t i:B}:HX.has ⟨p,N,c,r,t,i⟩=true ↔ dJ t i T:=by
 obtain ⟨F,hF,_⟩:=h.rep
 exact Ow hF h.wf
theorem Tr.Kl {D:Dg} {T:TT} {N:Nat->NO} {c r:Nat} {K:Int} (h:Tr D T N c r K) (hK:K<=1000000000000) {t i:B} (ht:t.length < 4611686018427387904):Kk.pre ⟨false,N,c,r,t,i⟩:=by
 refine ⟨rfl,h.ok.cl,h.ok.nd,ht,h.ids t,fun hh=>?_⟩
 have hm:=h.has.1 hh
 obtain ⟨F,hF,_⟩:=h.rep
 obtain ⟨F',p⟩:=qF (D:=D) (c:=c) t hF h.wf hm
 have hl:=tV (h.val _ _ hm)
 obtain ⟨s,hs,hi⟩:=hm
 have e:iZ (HX.mk false N c r t i).fin.N (HX.mk false N c r t i).fin.x=tD s:=by
  show iZ (chN false ⟨N,c,r⟩ t).N (chN false ⟨N,c,r⟩ t).x=_
  rw [p.ids,hs]; rfl
 refine ⟨⟨h.ok.cl,h.ok.nd,?_⟩,by show t.length<=1000; omega,?_,?_,fun _=>?_⟩
 ·intro j a n m sz mk hj
  have:=h.ok.bd _ _ _ _ _ _ hj
  omega
 ·rw [e]
  obtain ⟨ids,k⟩:=s
  have:=Fs t h.wf hs
  simp only [wfT] at this
  exact this.1
 ·rw [e]
  have:=vO t hs
  have:=h.sz
  omega
 ·rw [e]; exact hi
theorem Tr.drop {D:Dg} {T:TT} {N:Nat->NO} {c r:Nat} {K:Int} (h:Tr D T N c r K) (hK:0<=K) {t i:B} (hm:dJ t i T):Tr D (fV i t T) (T12.iD ⟨false,N,c,r,t,i⟩) c r (K+1000):=by
 have e:T12.iD ⟨false,N,c,r,t,i⟩=dU false (chN false ⟨N,c,r⟩ t).N (chN false ⟨N,c,r⟩ t).x 0 i:=by
  unfold T12.iD
  rw [h.has.2 hm]
  rfl
 obtain ⟨F,hF,hFc⟩:=h.rep
 obtain ⟨F',p⟩:=qF (D:=D) (c:=c) t hF h.wf hm
 have hl:=tV (h.val _ _ hm)
 have hz:=sJ t h.wf hm
 have hch:=Kc (p:=false) t h.ok hK
 have hi:i∈iZ (chN false ⟨N,c,r⟩ t).N (chN false ⟨N,c,r⟩ t).x:=by
  rw [p.ids]
  obtain ⟨s,hs,hi⟩:=hm
  rw [hs]; exact hi
 have h2:=Kn hch hi r (zP (p:=false) t h.ok hK h.ok.nd)
 rw [p.c] at h2
 rw [e]
 refine ⟨⟨F',p.rep,fun z hz=>hFc z (p.new z hz)⟩,⟨h2.cl,h2.nd,?_⟩,Aj t h.wf hm,fun t' i' h'=>h.val t' i' ((oG t h.wf hm).1 h').1,by have:=h.sz; omega⟩
 intro j a n m sz mk hj
 have:=h2.bd _ _ _ _ _ _ hj
 omega
theorem Tr.G9 {D:Dg} {T:TT} {N:Nat->NO} {c r:Nat} {K:Int} (h:Tr D T N c r K) (hK:K<=1000000000000) {t i:B} (ht:t.length < 4611686018427387904):Pr.pre ⟨true,N,c,r,t,i⟩:=by
 refine ⟨rfl,h.ok.cl,h.ok.nd,ht,h.ids t,fun hh=>?_⟩
 obtain ⟨F,hF,hFc⟩:=h.rep
 obtain ⟨e,_⟩:=tT (D:=D) (i:=i) t hF hFc h.ok.cl.free h.wf
 have hl:t.length<=120:=by
  unfold HX.puts at hh
  exact tV (Bool.and_eq_true _ _ ▸ hh:iI t i=true/\_).1
 have e':iZ (HX.mk true N c r t i).fin.N (HX.mk true N c r t i).fin.x=tD ((cM t T).getD emp):=e
 have hs:Srt (tD ((cM t T).getD emp))/\(tD ((cM t T).getD emp)).length < 1000000:=by
  cases hs:cM t T with
  | none=>exact ⟨.nil,by decide⟩
  | some s =>
   obtain ⟨ids,k⟩:=s
   have h1:=Fs t h.wf hs
   simp only [wfT] at h1
   have h2:=vO t hs
   have h3:=h.sz
   exact ⟨h1.1,by show (tD (.node ids k)).length < _; omega⟩
 refine ⟨⟨h.ok.cl,h.ok.nd,?_⟩,by show t.length<=1000; omega,by rw [e']; exact hs.1,by rw [e']; exact hs.2,fun h0=>(by cases h0)⟩
 intro j a n m sz mk hj
 have:=h.ok.bd _ _ _ _ _ _ hj
 omega
def putc (x:HX):Nat:=bif HX.puts x then x.fin.c+1 else x.c
theorem Tr.puts {D:Dg} {T:TT} {N:Nat->NO} {c r:Nat} {K:Int} (h:Tr D T N c r K) {t i:B}:HX.puts ⟨true,N,c,r,t,i⟩=true ↔ iI t i=true/\¬ dJ t i T/\szT T < 20000:=by
 obtain ⟨F,hF,_⟩:=h.rep
 unfold HX.puts
 rw [Bool.and_eq_true,Bool.and_eq_true,Bool.not_eq_true',Bool.not_eq_true',<- Bool.not_eq_true,h.has,decide_eq_false_iff_not]
 show _/\_/\¬ (20000<=szN N r) ↔ _
 rw [(tN hF).2]
 have:(¬ (20000:Int)<=((szT T:Nat):Int)) ↔ szT T < 20000:=by omega
 rw [this]
theorem Tr.put {D:Dg} {T:TT} {N:Nat->NO} {c r:Nat} {K:Int} (h:Tr D T N c r K) (hK:0<=K) {t i:B} (hp:HX.puts ⟨true,N,c,r,t,i⟩=true) {y:Nat} (hy:chS.post ⟨true,N,c,r,t,i⟩ y) :
  Tr D (eM i t T) (nM ⟨true,N,c,r,t,i⟩ y) (putc ⟨true,N,c,r,t,i⟩) r (K+1000):=by
 have e:nM ⟨true,N,c,r,t,i⟩ y=dU true (chN true ⟨N,c,r⟩ t).N (chN true ⟨N,c,r⟩ t).x y i:=by
  unfold nM
  rw [hp]
  rfl
 have ec:putc ⟨true,N,c,r,t,i⟩=(chN true ⟨N,c,r⟩ t).c+1:=by
  unfold putc
  rw [hp]
  rfl
 have hy':(y=zI (chN true ⟨N,c,r⟩ t).N (chN true ⟨N,c,r⟩ t).x/\cG (chN true ⟨N,c,r⟩ t).N y≠[])\/y=(chN true ⟨N,c,r⟩ t).c:=hy rfl
 obtain ⟨hv,hm,hz⟩:=h.puts.1 hp
 obtain ⟨F,hF,hFc⟩:=h.rep
 obtain ⟨_,h2⟩:=tT (D:=D) (i:=i) t hF hFc h.ok.cl.free h.wf
 obtain ⟨F',p⟩:=h2 y hy'
 have hl:=tV hv
 have hsz:=nU (i:=i) t h.wf
 have hch:=Kc (p:=true) t h.ok hK
 have h3:=Oi hch (i:=i) hy' r (zP (p:=true) t h.ok hK h.ok.nd)
 rw [e,ec]
 refine ⟨⟨F',p.rep,fun z hz=>?_⟩,⟨h3.cl,h3.nd,?_⟩,vT t h.wf hm,fun t' i' h'=>?_,by omega⟩
 ·have:=p.le
  rcases p.new z hz with h1|h1
  ·have:=hFc z h1; omega
  ·exact h1.2
 ·intro j a n m sz mk hj
  have:=h3.bd _ _ _ _ _ _ hj
  omega
 ·rcases (lY t h.wf).1 h' with ⟨rfl,rfl⟩|h'
  ·exact hv
  ·exact h.val t' i' h'
end T18
end
section
open Go Go.Eng Go.Proofs T1 T2 T3 T4 T5 T6 T7 T8 T9 T10 T11 T12 T13 T14 T15 T16 T17 T18
set_option maxRecDepth 100000
namespace T19
def N0:Nat->NO:=fun _=>.none
theorem cl0:Cl N0 0:=⟨fun _ _=>rfl,fun _ _ _ _ _ _ h=>(by cases h),fun _ _ _ h=>(by cases h),fun _ _ _ _ _ _ h=>(by cases h),fun _ _ _ _ _ _ h=>(by cases h),fun _ _ _ _ _ _ _ _ _ _ _ h=>(by cases h),fun _ _ _ h=>(by cases h)⟩
theorem tr0 (D:Dg):Tr D emp (eZ N0 0) 3 1 0:=by
 have hc:=Cl.open cl0
 have e1:eZ N0 0 1=.node 2 0 0 0 []:=qV
 refine ⟨⟨fun z=>z=1\/z=0\/z=2\/False,?_,?_⟩,⟨hc,⟨_,_,_,_,_,e1⟩,?_⟩,pU,fun t i h=>absurd h zK,by decide⟩
 ·simp only [emp,dH]
  refine ⟨2,0,[],[],0,fun _=>False,e1,.inl ⟨rfl,trivial⟩,rfl,.inl rfl,.refl _,?_,by omega,by omega,id,id,id,fun _=>Iff.rfl⟩
  simp only [fE]
  exact fun _ h=>h
 ·rintro z (h|h|h|h) <;> first|omega|exact h.elim
 ·intro i a n m sz mk h
  have h':eZ N0 0 i=.node a n m sz mk:=h
  unfold eZ at h'
  rcases bR h' with ⟨_,k⟩|⟨_,k⟩
  ·cases k; decide
  ·rcases bR k with ⟨_,k⟩|⟨_,k⟩ <;> cases k
def rT (T:TT) (t i:B):Bool :=
 match cM t T with
 | some s=>decide (i∈tD s)
 | none=>false
theorem fY {T:TT} {t i:B}:rT T t i=true ↔ dJ t i T:=by
 unfold rT dJ
 cases cM t T with
 | none=>simp
 | some s=>simp
def pcT (T:TT) (k:Ky):Int:=bif iI k.1 k.2 then (bif rT T k.1 k.2 then 8 else bif decide (20000<=szT T) then 22 else 0) else 1
def zN:List Ky->TT->Int×TT
 | [],T=>(0,T)
 | k::l,T=>if pcT T k=0 then zN l (eM k.2 k.1 T) else (pcT T k,T)
def eN (l:List Ky):Int×TT:=if 20000 < l.length then (2,emp) else if l.any kQ=true then (1,emp) else zN l emp
theorem _root_.T18.Tr.code {D:Dg} {T:TT} {N:Nat->NO} {c r:Nat} {K:Int} (h:Tr D T N c r K) {t i:B}:lG ⟨true,N,c,r,t,i⟩=pcT T (t,i):=by
 have e1:HX.has ⟨true,N,c,r,t,i⟩=rT T t i:=by rw [Bool.eq_iff_iff,h.has,fY]
 have e2:szN N r=(szT T:Nat):=by obtain ⟨F,hF,_⟩:=h.rep; exact (tN hF).2
 unfold lG pcT
 rw [e1]
 show (bif iI t i then (bif rT T t i then 8 else bif decide (20000<=szN N r) then 22 else 0) else 1)=_
 rw [e2]
 have:decide ((20000:Int)<=((szT T:Nat):Int))=decide (20000<=szT T):=by rw [decide_eq_decide]; omega
 rw [this]
theorem _root_.T18.Tr.puts0 {D:Dg} {T:TT} {N:Nat->NO} {c r:Nat} {K:Int} (h:Tr D T N c r K) {t i:B}:HX.puts ⟨true,N,c,r,t,i⟩=decide (pcT T (t,i)=0):=by
 rw [Bool.eq_iff_iff,h.puts,decide_eq_true_iff,<- fY]
 unfold pcT
 cases h1:iI t i <;> cases h2:rT T t i <;> cases h3:decide (20000<=szT T) <;> simp_all <;> omega
end T19
end
section
open Go Go.Eng Go.Proofs T1 T2 T3 T4 T5 T6 T7 T8 T9 T10 T11 T12 T13 T14 T15 T16 T17 T18 T19
set_option maxRecDepth 100000
namespace T20
structure NY where
 e:Int
 o:Bool
 N:Nat->NO
 c:Nat
 r:Nat
 K:Int
def nyE (y:NY):SV:=bif y.o then .own 0 0 else .val (.pointer none)
def nyH (y:NY):List (Nat×aE):=bif y.o then tH 0 1 y.r y.N else []
def g11:List Nat:=[10,12,0,17,19,16,6,26,7,18,4,2,3]
def c11:aH :=
 .seq (.region g11 [(zo 2 (.move (.c (.nilptr)))),(zo 3 (.move (cj 0)))]) (.seq (.seq (.region g11 [(mv 8 0),(zo 9 (.lenSl (.s 8))),(zo 10 (.bin (.gtr) (.s 9) (cj 20000)))]) (.cond (.s 10) (.seq (.region g11 [(zo 2 (.move (.c (.nilptr)))),(zo 3 (.move (cj 2)))]) .ret) .skip)) (.seq (.seq (.region g11 [(mv 11 0),(zo 12 (.call (.c (.fn 36)) [.s 11,.c (.fn 37)]))]) (.join 0 [2,3] (.cond (.s 12) (.seq (.region g11 [(zo 2 (.move (.c (.nilptr)))),(zo 3 (.move (cj 1)))]) .ret) .skip))) (.seq (.region g11 [(zo 13 (.call (.c (.fn 39)) [])),(zo 14 (.build (.cons (.nilptr) .nil) [(0,1,.s 13)])),(zo 15 (.box 64 (.s 14))),(mv 4 15)]) (.seq (.seq (.region g11 [(mv 16 0),(zo 17 (.lenSl (.s 16))),(zo 18 (.move (cj 0)))]) (.block 0 (.loop 1 [19,20,21,6,22,23,24,7,25,26,27,2,3,28,18] (.seq (.region g11 [(zo 19 (.bin (.lss) (.s 18) (.s 17)))]) (.seq (.cond (.s 19) .skip (.exit 0)) (.seq (.block 1 (.seq (.region g11 [(zo 20 (.idxSl 2 (.s 16) (.s 18))),(zo 21 (.load 2 true (.s 20))),(zo 6 (.alloc 32 (.cons (.str []) (.cons (.str []) .nil)))),⟨none,none,.store 2 (.s 6) (.s 21),[]⟩]) (.seq (.region g11 [(mv 22 4),(zo 23 (.load 2 true (.s 6))),(zo 24 (.call (.c (.fn 15)) [.s 22,.s 23])),(mv 7 24)]) (.seq (.region g11 [(mv 25 7),(zo 26 (.bin (.neq) (.s 25) (cj 0)))]) (.cond (.s 26) (.seq (.region g11 [(mv 27 7),(zo 2 (.move (.c (.nilptr)))),(mv 3 27)]) .ret) .skip))))) (.region g11 [(zo 28 (.bin (.add) (.s 18) (cj 1))),(mv 18 28)]))))))) (.seq (.region g11 [(mv 29 4),(mv 2 29),(zo 3 (.move (cj 0)))]) .ret)))))
theorem e11:aS Tryz.prog 11 g11 [1] [] []=some (c11,[.slot 2,.slot 3],30):=by kernel_rfl
def Ta (D:Dg):aM where
 X:=List Ky
 Y:=NY
 args:=fun l=>.cons (ksE l) .nil
 pre:=fun l=>l.length < 4611686018427387904/\∀ j,j < l.length->(l.getD j k0).1.length < 4611686018427387904
 h0:=fun _=>[]
 nx0:=0
 post:=fun l y=>(y.e=(eN l).1/\y.o=decide (y.e=0))/\(y.o=true->Tr D (eN l).2 y.N y.c y.r y.K/\0<=y.K/\y.K<=20000000)
 res:=fun _ y=>.tup (.cons (nyE y) (.cons (.int .i64 y.e) .nil))
 h1:=fun _ y=>nyH y
 nx1:=2
theorem Ly (D:Dg):(Ta D).Ok Tryz.prog 11:=by
 refine Eng.aM.okR e11 .nil (fun _=>[(36,.m Ui),(39,.m Tf),(15,.m Pr)]) (fun _ _=>aF.m Ob (aF.m Mc (aF.m Mm aF.nil))) ?_
 rintro (l:List Ky) ⟨(hn:l.length < 4611686018427387904),(ht:∀ j,j < l.length->(l.getD j k0).1.length < 4611686018427387904)⟩
 refine ⟨trivial,?_⟩
 repeat' (first|apply And.intro|exact trivial|exact rfl|(exact fun (h:false=true)=>Bool.noConfusion h)|(refine fun (_:false=false)=>?_)|(exact fun (h:true=false)=>Bool.noConfusion h)|(refine fun (_:true=true)=>?_)|fail)
 ·refine fun (h:decide ((l.length:Int) > 20000)=true)=>?_
  have h0:20000 < l.length:=by have:=of_decide_eq_true h; omega
  have e:eN l=(2,emp):=if_pos h0
  have p1:(NY.mk 2 false N0 0 0 0).e=(eN l).1:=by rw [e]
  have p2:(NY.mk 2 false N0 0 0 0).o=true->Tr D (eN l).2 (NY.mk 2 false N0 0 0 0).N (NY.mk 2 false N0 0 0 0).c (NY.mk 2 false N0 0 0 0).r (NY.mk 2 false N0 0 0 0).K/\0<=(NY.mk 2 false N0 0 0 0).K/\(NY.mk 2 false N0 0 0 0).K<=20000000:=fun h=>(by cases h)
  repeat' (first|apply And.intro|exact trivial|exact rfl|(exact fun (h:false=true)=>Bool.noConfusion h)|(refine fun (_:false=false)=>?_)|(exact fun (h:true=false)=>Bool.noConfusion h)|(refine fun (_:true=true)=>?_)|fail)
  refine Exists.intro (NY.mk 2 false N0 0 0 0) ?_
  repeat' (first|with_reducible exact p1|with_reducible exact p2|apply And.intro|exact trivial|exact rfl|(exact fun (h:false=true)=>Bool.noConfusion h)|(refine fun (_:false=false)=>?_)|(exact fun (h:true=false)=>Bool.noConfusion h)|(refine fun (_:true=true)=>?_)|fail)
 ·refine fun (h:decide ((l.length:Int) > 20000)=false)=>?_
  have h0:¬ 20000 < l.length:=by have:=of_decide_eq_false h; omega
  repeat' (first|apply And.intro|exact trivial|exact rfl|(exact fun (h:false=true)=>Bool.noConfusion h)|(refine fun (_:false=false)=>?_)|(exact fun (h:true=false)=>Bool.noConfusion h)|(refine fun (_:true=true)=>?_)|fail)
  refine Exists.intro l (Exists.intro [] ?_)
  repeat' (first|apply And.intro|exact trivial|exact rfl|exact fun (j:Nat) (hj:j < _)=>Or.inl (aU _ _ _ _)|exact hn|exact ht|fail)
  refine fun (y:Bool) (hy:y=l.any kQ)=>?_
  subst hy
  repeat' (first|apply And.intro|exact trivial|exact rfl|(exact fun (h:false=true)=>Bool.noConfusion h)|(refine fun (_:false=false)=>?_)|(exact fun (h:true=false)=>Bool.noConfusion h)|(refine fun (_:true=true)=>?_)|fail)
  refine Exists.intro ⟨Unit,fun _=>l.any kQ=false,fun _=>[],fun _=>[(20,.fam fun _=>.gone)],fun _=>0⟩ (And.intro ?_ ?_)
  ·repeat' (first|apply And.intro|exact trivial|exact rfl|(exact fun (h:false=true)=>Bool.noConfusion h)|(refine fun (_:false=false)=>?_)|(exact fun (h:true=false)=>Bool.noConfusion h)|(refine fun (_:true=true)=>?_)|fail)
   ·refine fun (hb:l.any kQ=true)=>?_
    have e:eN l=(1,emp):=by unfold T19.eN; rw [if_neg h0,if_pos hb]
    have p1:(NY.mk 1 false N0 0 0 0).e=(eN l).1:=by rw [e]
    have p2:(NY.mk 1 false N0 0 0 0).o=true->Tr D (eN l).2 (NY.mk 1 false N0 0 0 0).N (NY.mk 1 false N0 0 0 0).c (NY.mk 1 false N0 0 0 0).r (NY.mk 1 false N0 0 0 0).K/\0<=(NY.mk 1 false N0 0 0 0).K/\(NY.mk 1 false N0 0 0 0).K<=20000000:=fun h=>(by cases h)
    repeat' (first|apply And.intro|exact trivial|exact rfl|(exact fun (h:false=true)=>Bool.noConfusion h)|(refine fun (_:false=false)=>?_)|(exact fun (h:true=false)=>Bool.noConfusion h)|(refine fun (_:true=true)=>?_)|fail)
    refine Exists.intro (NY.mk 1 false N0 0 0 0) ?_
    repeat' (first|with_reducible exact p1|with_reducible exact p2|apply And.intro|exact trivial|exact rfl|(exact fun (h:false=true)=>Bool.noConfusion h)|(refine fun (_:false=false)=>?_)|(exact fun (h:true=false)=>Bool.noConfusion h)|(refine fun (_:true=true)=>?_)|fail)
   ·refine fun (hb:l.any kQ=false)=>?_
    repeat' (first|apply And.intro|exact trivial|exact rfl|(exact fun (h:false=true)=>Bool.noConfusion h)|(refine fun (_:false=false)=>?_)|(exact fun (h:true=false)=>Bool.noConfusion h)|(refine fun (_:true=true)=>?_)|fail)
    refine Exists.intro () ?_
    repeat' (first|with_reducible exact hb|apply And.intro|exact trivial|exact rfl|(exact fun (h:false=true)=>Bool.noConfusion h)|(refine fun (_:false=false)=>?_)|(exact fun (h:true=false)=>Bool.noConfusion h)|(refine fun (_:true=true)=>?_)|exact fun _=>rfl|exact fun (j:Nat) (hj:j < _)=>Or.inl (aU _ _ _ _)|fail)
  rintro ⟨⟩ (hb:l.any kQ=false)
  have e:eN l=zN l emp:=by unfold T19.eN; rw [if_neg h0,if_neg (by rw [hb]; simp)]
  have hc0:Cl N0 0:=cl0
  repeat' (first|apply And.intro|exact trivial|exact rfl|(exact fun (h:false=true)=>Bool.noConfusion h)|(refine fun (_:false=false)=>?_)|(exact fun (h:true=false)=>Bool.noConfusion h)|(refine fun (_:true=true)=>?_)|fail)
  refine Exists.intro (N0,0) (Exists.intro [20] ?_)
  repeat' (first|apply And.intro|exact trivial|exact rfl|(exact fun (h:false=true)=>Bool.noConfusion h)|(refine fun (_:false=false)=>?_)|(exact fun (h:true=false)=>Bool.noConfusion h)|(refine fun (_:true=true)=>?_)|exact fun _=>rfl|exact hc0|fail)
  refine fun (_:Unit) (_:True)=>?_
  repeat' (first|apply And.intro|exact trivial|exact rfl|(exact fun (h:false=true)=>Bool.noConfusion h)|(refine fun (_:false=false)=>?_)|(exact fun (h:true=false)=>Bool.noConfusion h)|(refine fun (_:true=true)=>?_)|fail)
  refine ⟨⟨Nat×TT×(Nat->NO)×Nat×Nat×Int,fun s=>s.1<=l.length/\zN (l.drop s.1) s.2.1=T19.eN l/\Tr D s.2.1 s.2.2.1 s.2.2.2.1 s.2.2.2.2.1 s.2.2.2.2.2/\0<=s.2.2.2.2.2/\s.2.2.2.2.2<=(s.1:Int) * 1000,fun s=>[(18,.int .i64 (s.1:Int)),(4,.own 40 0)],fun s=>tH 40 20 s.2.2.2.2.1 s.2.2.1,fun s=>l.length - s.1⟩,(0,emp,eZ N0 0,3,1,0),?_,?_,?_⟩
  ·exact ⟨Nat.zero_le _,e.symm,tr0 D,by decide,by decide⟩
  ·repeat' (first|apply And.intro|exact trivial|exact rfl|(exact fun (h:false=true)=>Bool.noConfusion h)|(refine fun (_:false=false)=>?_)|(exact fun (h:true=false)=>Bool.noConfusion h)|(refine fun (_:true=true)=>?_)|exact fun (j:Nat) (hj:j < _)=>Or.inl (aU _ _ _ _)|exact fun i=>aD (by exact rfl) (by exact rfl) _|fail)
  rintro ⟨j,T,N,c,r,K⟩ ⟨(kj:j<=l.length),(k1:zN (l.drop j) T=T19.eN l),(k2:Tr D T N c r K),(k3:0<=K),(k4:K<=(j:Int) * 1000)⟩
  repeat' (first|apply And.intro|exact trivial|exact rfl|(exact fun (h:false=true)=>Bool.noConfusion h)|(refine fun (_:false=false)=>?_)|(exact fun (h:true=false)=>Bool.noConfusion h)|(refine fun (_:true=true)=>?_)|fail)
  ·refine fun (hg:decide ((j:Int) < (l.length:Int))=true)=>?_
   have hj:j < l.length:=by have:=of_decide_eq_true hg; omega
   have g0:(0:Int)<=(j:Int):=by omega
   have g1:(j:Int) < (l.length:Int):=by omega
   have g2:-9223372036854775808<=(j:Int)+1:=by omega
   have g3:(j:Int)+1<=9223372036854775807:=by omega
   have hdr:l.drop j=l.getD j k0::l.drop (j+1):=by rw [List.drop_eq_getElem_cons hj]; simp [hj]
   have hK:K<=1000000000000:=by omega
   have hpre:=k2.G9 (t:=(l.getD j k0).1) (i:=(l.getD j k0).2) hK (ht j hj)
   have hcode:=k2.code (t:=(l.getD j k0).1) (i:=(l.getD j k0).2)
   repeat' (first|apply And.intro|exact trivial|exact rfl|(exact fun (h:false=true)=>Bool.noConfusion h)|(refine fun (_:false=false)=>?_)|(exact fun (h:true=false)=>Bool.noConfusion h)|(refine fun (_:true=true)=>?_)|with_reducible exact g0|with_reducible exact g1|fail)
   refine Exists.intro (HX.mk true N c r (l.getD j k0).1 (l.getD j k0).2) (Exists.intro [40,20] ?_)
   repeat' (first|exact hpre|apply And.intro|exact trivial|exact rfl|(exact fun (h:false=true)=>Bool.noConfusion h)|(refine fun (_:false=false)=>?_)|(exact fun (h:true=false)=>Bool.noConfusion h)|(refine fun (_:true=true)=>?_)|exact fun i=>aC (by exact rfl) (N i)|fail)
   refine fun (y:Nat) (hy:HX.puts ⟨true,N,c,r,(l.getD j k0).1,(l.getD j k0).2⟩=true->chS.post ⟨true,N,c,r,(l.getD j k0).1,(l.getD j k0).2⟩ y)=>?_
   repeat' (first|apply And.intro|exact trivial|exact rfl|(exact fun (h:false=true)=>Bool.noConfusion h)|(refine fun (_:false=false)=>?_)|(exact fun (h:true=false)=>Bool.noConfusion h)|(refine fun (_:true=true)=>?_)|fail)
   ·refine fun (hc:(!decide (lG ⟨true,N,c,r,(l.getD j k0).1,(l.getD j k0).2⟩=0))=true)=>?_
    have hne:lG ⟨true,N,c,r,(l.getD j k0).1,(l.getD j k0).2⟩≠0:=of_decide_eq_false (T12.Te hc)
    have k5:T19.eN l=(lG ⟨true,N,c,r,(l.getD j k0).1,(l.getD j k0).2⟩,T):=by
     rw [<- k1,hdr,zN,hcode]
     rw [hcode] at hne
     rw [if_neg hne]
    have p1:(NY.mk (lG ⟨true,N,c,r,(l.getD j k0).1,(l.getD j k0).2⟩) false N0 0 0 0).e=(T19.eN l).1:=by rw [k5]
    have p3:false=decide (lG ⟨true,N,c,r,(l.getD j k0).1,(l.getD j k0).2⟩=0):=(decide_eq_false hne).symm
    repeat' (first|apply And.intro|exact trivial|exact rfl|(exact fun (h:false=true)=>Bool.noConfusion h)|(refine fun (_:false=false)=>?_)|(exact fun (h:true=false)=>Bool.noConfusion h)|(refine fun (_:true=true)=>?_)|fail)
    refine Exists.intro (NY.mk (lG ⟨true,N,c,r,(l.getD j k0).1,(l.getD j k0).2⟩) false N0 0 0 0) ?_
    repeat' (first|with_reducible exact p1|exact p3|apply And.intro|exact trivial|exact rfl|(exact fun (h:false=true)=>Bool.noConfusion h)|(refine fun (_:false=false)=>?_)|(exact fun (h:true=false)=>Bool.noConfusion h)|(refine fun (_:true=true)=>?_)|exact fun h=>Bool.noConfusion h|fail)
   ·refine fun (hc:(!decide (lG ⟨true,N,c,r,(l.getD j k0).1,(l.getD j k0).2⟩=0))=false)=>?_
    have he:lG ⟨true,N,c,r,(l.getD j k0).1,(l.getD j k0).2⟩=0:=of_decide_eq_true (T12.Td hc)
    have hpu:HX.puts ⟨true,N,c,r,(l.getD j k0).1,(l.getD j k0).2⟩=true:=by rw [k2.puts0,<- hcode]; exact decide_eq_true he
    have k5:=k2.put k3 hpu (hy hpu)
    have k6:zN (l.drop (j+1)) (eM (l.getD j k0).2 (l.getD j k0).1 T)=T19.eN l:=by
     rw [<- k1,hdr]
     show _=if pcT T (l.getD j k0)=0 then _ else _
     rw [hcode] at he
     rw [if_pos he]
    have kj':j+1<=l.length:=hj
    have k7:0<=K+1000:=by omega
    have k8:K+1000<=((j+1:Nat):Int) * 1000:=by omega
    have k9:l.length - (j+1) < l.length - j:=by omega
    repeat' (first|apply And.intro|exact trivial|exact rfl|(exact fun (h:false=true)=>Bool.noConfusion h)|(refine fun (_:false=false)=>?_)|(exact fun (h:true=false)=>Bool.noConfusion h)|(refine fun (_:true=true)=>?_)|with_reducible exact g2|with_reducible exact g3|fail)
    refine Exists.intro (j+1,eM (l.getD j k0).2 (l.getD j k0).1 T,nM ⟨true,N,c,r,(l.getD j k0).1,(l.getD j k0).2⟩ y,putc ⟨true,N,c,r,(l.getD j k0).1,(l.getD j k0).2⟩,r,K+1000) ?_
    repeat' (first|with_reducible exact kj'|with_reducible exact k6|with_reducible exact k5|with_reducible exact k7|with_reducible exact k8|with_reducible exact k9|apply And.intro|exact trivial|exact rfl|(exact fun (h:false=true)=>Bool.noConfusion h)|(refine fun (_:false=false)=>?_)|(exact fun (h:true=false)=>Bool.noConfusion h)|(refine fun (_:true=true)=>?_)|exact fun (j:Nat) (hj:j < _)=>Or.inl (aU _ _ _ _)|exact fun i=>aD (by exact rfl) (by exact rfl) _|fail)
  ·refine fun (hg:decide ((j:Int) < (l.length:Int))=false)=>?_
   have hj:j=l.length:=by have:=of_decide_eq_false hg; omega
   subst hj
   have k5:T19.eN l=(0,T):=by rw [<- k1,List.drop_length]; rfl
   have p1:(NY.mk 0 true N c r K).e=(T19.eN l).1:=by rw [k5]
   have p2:(NY.mk 0 true N c r K).o=true->Tr D (T19.eN l).2 (NY.mk 0 true N c r K).N (NY.mk 0 true N c r K).c (NY.mk 0 true N c r K).r (NY.mk 0 true N c r K).K/\0<=(NY.mk 0 true N c r K).K/\(NY.mk 0 true N c r K).K<=20000000:=fun _=>by rw [k5]; exact ⟨k2,k3,by show K<=_; omega⟩
   repeat' (first|apply And.intro|exact trivial|exact rfl|(exact fun (h:false=true)=>Bool.noConfusion h)|(refine fun (_:false=false)=>?_)|(exact fun (h:true=false)=>Bool.noConfusion h)|(refine fun (_:true=true)=>?_)|fail)
   refine Exists.intro (NY.mk 0 true N c r K) ?_
   repeat' (first|with_reducible exact p1|with_reducible exact p2|apply And.intro|exact trivial|exact rfl|(exact fun (h:false=true)=>Bool.noConfusion h)|(refine fun (_:false=false)=>?_)|(exact fun (h:true=false)=>Bool.noConfusion h)|(refine fun (_:true=true)=>?_)|exact fun i=>aC (by exact rfl) (N i)|fail)
end T20
end
section
open Go Go.Eng Go.Proofs T1 T2 T3 T4 T5 T6 T10 T11
set_option maxRecDepth 100000
namespace T22
theorem A3 {α:Type} {a b:List α} {d:α} (hl:a.length=b.length) (h:∀ j,j < a.length->a.getD j d=b.getD j d):a=b:=by
 refine List.ext_getElem hl fun j h1 h2=>?_
 have:=h j h1
 simpa [h1,h2] using this
def g31:List Nat:=[10,14,0,1,25,5,4]
def c31:aH :=
 .seq (.region g31 [(zo 4 (.move cF))]) (.seq (.seq (.region g31 [(mv 6 0),(zo 7 (.lenSl (.s 6))),(mv 8 1),(zo 9 (.lenSl (.s 8))),(zo 10 (.bin (.neq) (.s 7) (.s 9)))]) (.cond (.s 10) (.seq (.region g31 [(zo 4 (.move cF))]) .ret) .skip)) (.seq (.seq (.region g31 [(zo 5 (.move (cj 0)))]) (.block 0 (.loop 0 [11,12,13,14,17,18,19,20,21,22,23,24,25,4,15,16,5] (.seq (.seq (.region g31 [(mv 11 5),(mv 12 0),(zo 13 (.lenSl (.s 12))),(zo 14 (.bin (.lss) (.s 11) (.s 13)))]) (.cond (.s 14) .skip (.exit 0))) (.seq (.block 1 (.seq (.drawn g31 (.pure 0 (mv 17 0) (.pure 1 (mv 18 5) (.pure 2 (zo 19 (.idxSl 1 (.s 17) (.s 18))) (.pure 3 (ld 20 19) (.pure 4 (mv 21 1) (.pure 5 (mv 22 5) (.pure 6 (zo 23 (.idxSl 1 (.s 21) (.s 22))) (.pure 7 (ld 24 23) (.pure 8 (zo 25 (.bin (.neq) (.s 20) (.s 24))) .done)))))))))) (.cond (.s 25) (.seq (.region g31 [(zo 4 (.move cF))]) .ret) .skip))) (.region g31 [(mv 15 5),(zo 16 (.bin (.add) (.s 15) (cj 1))),(mv 5 16)])))))) (.seq (.region g31 [(zo 4 (.move cT))]) .ret)))
theorem e31:aS Tryz.prog 31 g31 [] [] []=some (c31,[.slot 4],26):=by kernel_rfl
def Vt:Eng.Spec where
 X:=List B×List B
 args:=fun x=>.cons (slE x.1) (.cons (slE x.2) .nil)
 pre:=fun x=>x.1.length < 4611686018427387904
 res:=fun x=>.bool (decide (x.1=x.2))
 inst:=fun _=>none
theorem Tt:Vt.Ok Tryz.prog 31:=by
 refine Eng.Spec.okR e31 .nil (fun _=>[]) (fun _ _=>aF.nil) ?_
 rintro ⟨a,b⟩ (hn:a.length < 4611686018427387904)
 refine ⟨trivial,?_⟩
 repeat' (first|apply And.intro|exact trivial|exact rfl|(exact fun (h:false=true)=>Bool.noConfusion h)|(refine fun (_:false=false)=>?_)|(exact fun (h:true=false)=>Bool.noConfusion h)|(refine fun (_:true=true)=>?_)|fail)
 ·refine fun (h:(!decide ((a.length:Int)=(b.length:Int)))=true)=>?_
  have hne:a≠b:=by
   rintro rfl
   simp at h
  have e:false=decide (a=b):=(decide_eq_false hne).symm
  repeat' (first|apply And.intro|exact trivial|exact rfl|exact e|fail)
 ·refine fun (h:(!decide ((a.length:Int)=(b.length:Int)))=false)=>?_
  have hl:a.length=b.length:=by
   have:decide ((a.length:Int)=(b.length:Int))=true:=by revert h; cases decide ((a.length:Int)=(b.length:Int)) <;> simp
   have:=of_decide_eq_true this
   omega
  repeat' (first|apply And.intro|exact trivial|exact rfl|(exact fun (h:false=true)=>Bool.noConfusion h)|(refine fun (_:false=false)=>?_)|(exact fun (h:true=false)=>Bool.noConfusion h)|(refine fun (_:true=true)=>?_)|fail)
  refine ⟨⟨Nat,fun k=>k<=a.length/\∀ j,j < k->a.getD j []=b.getD j [],fun k=>[(5,.int .i64 (k:Int))],fun _=>[],fun k=>a.length - k⟩,0,⟨Nat.zero_le _,fun j hj=>absurd hj (Nat.not_lt_zero j)⟩,?_,?_⟩
  ·repeat' (first|apply And.intro|exact trivial|exact rfl|exact fun (j:Nat) (hj:j < _)=>Or.inl (aN _ _ _ _)|fail)
  rintro (k:Nat) ⟨(hk:k<=a.length),(hf:∀ j,j < k->a.getD j []=b.getD j [])⟩
  repeat' (first|apply And.intro|exact trivial|exact rfl|fail)
  ·refine fun (hg:decide ((k:Int) < (a.length:Int))=true)=>?_
   have h1:(k:Int) < (a.length:Int):=of_decide_eq_true hg
   have h2:(k:Int) < (b.length:Int):=by omega
   have h0:(0:Int)<=(k:Int):=by omega
   have b1:-9223372036854775808<=(k:Int)+1:=by omega
   have b2:(k:Int)+1<=9223372036854775807:=by omega
   have hkl:k < a.length:=by omega
   repeat' (first|apply And.intro|exact trivial|exact rfl|with_reducible exact h0|with_reducible exact h1|with_reducible exact h2|fail)
   ·refine fun (hv:(!decide (a.getD k []=b.getD k []))=true)=>?_
    have hne:a≠b:=by
     rintro rfl
     simp at hv
    have e:false=decide (a=b):=(decide_eq_false hne).symm
    repeat' (first|apply And.intro|exact trivial|exact rfl|exact e|fail)
   ·refine fun (hv:(!decide (a.getD k []=b.getD k []))=false)=>?_
    have hv':a.getD k []=b.getD k []:=by
     have:decide (a.getD k []=b.getD k [])=true:=by revert hv; cases decide (a.getD k []=b.getD k []) <;> simp
     exact of_decide_eq_true this
    have hkl':k+1<=a.length:=hkl
    have hf':∀ j,j < k+1->a.getD j []=b.getD j []:=fun j hj=>by
     by_cases e:j=k
     ·rw [e]; exact hv'
     ·exact hf j (by omega)
    have hms:a.length - (k+1) < a.length - k:=by omega
    repeat' (first|apply And.intro|exact trivial|exact rfl|with_reducible exact b1|with_reducible exact b2|fail)
    refine Exists.intro (k+1) ?_
    repeat' (first|apply And.intro|exact trivial|exact rfl|with_reducible exact hkl'|with_reducible exact hf'|with_reducible exact hms|exact fun (j:Nat) (hj:j < _)=>Or.inl (aN _ _ _ _)|fail)
  ·refine fun (hg:decide ((k:Int) < (a.length:Int))=false)=>?_
   have hkl:k=a.length:=by have:=of_decide_eq_false hg; omega
   subst hkl
   have e:true=decide (a=b):=(decide_eq_true (A3 hl hf)).symm
   repeat' (first|apply And.intro|exact trivial|exact rfl|exact e|fail)
def Vs:aM:=Vt.mof Bool (fun x y=>y=decide (x.1=x.2)) (fun _ y=>.bool y)
theorem P9:Vs.Ok Tryz.prog 31:=Eng.Spec.kW Tt fun _ _=>⟨_,rfl,rfl⟩
def g28:List Nat:=[10,14,0,1,25,5,4]
def c28:aH :=
 .seq (.region g28 [(zo 4 (.move cF))]) (.seq (.seq (.region g28 [(mv 6 0),(zo 7 (.lenSl (.s 6))),(mv 8 1),(zo 9 (.lenSl (.s 8))),(zo 10 (.bin (.neq) (.s 7) (.s 9)))]) (.cond (.s 10) (.seq (.region g28 [(zo 4 (.move cF))]) .ret) .skip)) (.seq (.seq (.region g28 [(zo 5 (.move (cj 0)))]) (.block 0 (.loop 0 [11,12,13,14,17,18,19,20,21,22,23,24,25,4,15,16,5] (.seq (.seq (.region g28 [(mv 11 5),(mv 12 0),(zo 13 (.lenSl (.s 12))),(zo 14 (.bin (.lss) (.s 11) (.s 13)))]) (.cond (.s 14) .skip (.exit 0))) (.seq (.block 1 (.seq (.drawn g28 (.pure 0 (mv 17 0) (.pure 1 (mv 18 5) (.pure 2 (zo 19 (.idxSl 2 (.s 17) (.s 18))) (.pure 3 (zo 20 (.load 2 true (.s 19))) (.pure 4 (mv 21 1) (.pure 5 (mv 22 5) (.pure 6 (zo 23 (.idxSl 2 (.s 21) (.s 22))) (.pure 7 (zo 24 (.load 2 true (.s 23))) (.pure 8 (zo 25 (.eqS true [(0,2),(1,2)] (.s 20) (.s 24))) .done)))))))))) (.cond (.s 25) (.seq (.region g28 [(zo 4 (.move cF))]) .ret) .skip))) (.region g28 [(mv 15 5),(zo 16 (.bin (.add) (.s 15) (cj 1))),(mv 5 16)])))))) (.seq (.region g28 [(zo 4 (.move cT))]) .ret)))
theorem e28:aS Tryz.prog 28 g28 [] [] []=some (c28,[.slot 4],26):=by kernel_rfl
def V5:Eng.Spec where
 X:=List Ky×List Ky
 args:=fun x=>.cons (ksE x.1) (.cons (ksE x.2) .nil)
 pre:=fun x=>x.1.length < 4611686018427387904
 res:=fun x=>.bool (decide (x.1=x.2))
 inst:=fun _=>none
theorem Lh:V5.Ok Tryz.prog 28:=by
 refine Eng.Spec.okR e28 .nil (fun _=>[]) (fun _ _=>aF.nil) ?_
 rintro ⟨a,b⟩ (hn:a.length < 4611686018427387904)
 refine ⟨trivial,?_⟩
 repeat' (first|apply And.intro|exact trivial|exact rfl|(exact fun (h:false=true)=>Bool.noConfusion h)|(refine fun (_:false=false)=>?_)|(exact fun (h:true=false)=>Bool.noConfusion h)|(refine fun (_:true=true)=>?_)|fail)
 ·refine fun (h:(!decide ((a.length:Int)=(b.length:Int)))=true)=>?_
  have hne:a≠b:=by
   rintro rfl
   simp at h
  have e:false=decide (a=b):=(decide_eq_false hne).symm
  repeat' (first|apply And.intro|exact trivial|exact rfl|exact e|fail)
 ·refine fun (h:(!decide ((a.length:Int)=(b.length:Int)))=false)=>?_
  have hl:a.length=b.length:=by
   have:decide ((a.length:Int)=(b.length:Int))=true:=by revert h; cases decide ((a.length:Int)=(b.length:Int)) <;> simp
   have:=of_decide_eq_true this
   omega
  repeat' (first|apply And.intro|exact trivial|exact rfl|(exact fun (h:false=true)=>Bool.noConfusion h)|(refine fun (_:false=false)=>?_)|(exact fun (h:true=false)=>Bool.noConfusion h)|(refine fun (_:true=true)=>?_)|fail)
  refine ⟨⟨Nat,fun k=>k<=a.length/\∀ j,j < k->a.getD j k0=b.getD j k0,fun k=>[(5,.int .i64 (k:Int))],fun _=>[],fun k=>a.length - k⟩,0,⟨Nat.zero_le _,fun j hj=>absurd hj (Nat.not_lt_zero j)⟩,?_,?_⟩
  ·repeat' (first|apply And.intro|exact trivial|exact rfl|exact fun (j:Nat) (hj:j < _)=>Or.inl (aU _ _ _ _)|fail)
  rintro (k:Nat) ⟨(hk:k<=a.length),(hf:∀ j,j < k->a.getD j k0=b.getD j k0)⟩
  repeat' (first|apply And.intro|exact trivial|exact rfl|fail)
  ·refine fun (hg:decide ((k:Int) < (a.length:Int))=true)=>?_
   have h1:(k:Int) < (a.length:Int):=of_decide_eq_true hg
   have h2:(k:Int) < (b.length:Int):=by omega
   have h0:(0:Int)<=(k:Int):=by omega
   have b1:-9223372036854775808<=(k:Int)+1:=by omega
   have b2:(k:Int)+1<=9223372036854775807:=by omega
   have hkl:k < a.length:=by omega
   repeat' (first|apply And.intro|exact trivial|exact rfl|with_reducible exact h0|with_reducible exact h1|with_reducible exact h2|fail)
   ·refine fun (hv:(!(decide ((a.getD k k0).1=(b.getD k k0).1) && (decide ((a.getD k k0).2=(b.getD k k0).2) && true)))=true)=>?_
    have heq:(decide ((a.getD k k0).1=(b.getD k k0).1) && (decide ((a.getD k k0).2=(b.getD k k0).2) && true))=decide (a.getD k k0=b.getD k k0):=by
     rw [Bool.eq_iff_iff,decide_eq_true_iff,Prod.ext_iff]
     simp
    rw [heq] at hv
    have hne:a≠b:=by
     rintro rfl
     simp at hv
    have e:false=decide (a=b):=(decide_eq_false hne).symm
    repeat' (first|apply And.intro|exact trivial|exact rfl|exact e|fail)
   ·refine fun (hv:(!(decide ((a.getD k k0).1=(b.getD k k0).1) && (decide ((a.getD k k0).2=(b.getD k k0).2) && true)))=false)=>?_
    have heq:(decide ((a.getD k k0).1=(b.getD k k0).1) && (decide ((a.getD k k0).2=(b.getD k k0).2) && true))=decide (a.getD k k0=b.getD k k0):=by
     rw [Bool.eq_iff_iff,decide_eq_true_iff,Prod.ext_iff]
     simp
    rw [heq] at hv
    have hv':a.getD k k0=b.getD k k0:=by
     have:decide (a.getD k k0=b.getD k k0)=true:=by revert hv; cases decide (a.getD k k0=b.getD k k0) <;> simp
     exact of_decide_eq_true this
    have hkl':k+1<=a.length:=hkl
    have hf':∀ j,j < k+1->a.getD j k0=b.getD j k0:=fun j hj=>by
     by_cases e:j=k
     ·rw [e]; exact hv'
     ·exact hf j (by omega)
    have hms:a.length - (k+1) < a.length - k:=by omega
    repeat' (first|apply And.intro|exact trivial|exact rfl|with_reducible exact b1|with_reducible exact b2|fail)
    refine Exists.intro (k+1) ?_
    repeat' (first|apply And.intro|exact trivial|exact rfl|with_reducible exact hkl'|with_reducible exact hf'|with_reducible exact hms|exact fun (j:Nat) (hj:j < _)=>Or.inl (aU _ _ _ _)|fail)
  ·refine fun (hg:decide ((k:Int) < (a.length:Int))=false)=>?_
   have hkl:k=a.length:=by have:=of_decide_eq_false hg; omega
   subst hkl
   have e:true=decide (a=b):=(decide_eq_true (A3 hl hf)).symm
   repeat' (first|apply And.intro|exact trivial|exact rfl|exact e|fail)
def nR (k:Ky):Bool:=decide (k.1.length<=40) && decide (k.2.length<=40)
def uH (l:List Ky) (n:Nat):Bool:=decide (l.length<=n) && l.all nR
def g17:List Nat:=[14,32,5,0,1,4]
def c17:aH :=
 .seq (.region g17 [(zo 4 (.move cF))]) (.seq (.seq (.region g17 [(zo 5 (.move (cj 0)))]) (.block 0 (.loop 0 [6,7,8,9,10,11,12,13,14,17,18,19,20,21,22,23,24,25,26,27,28,29,30,31,32,4,15,16,5] (.seq (.seq (.region g17 [(mv 6 5),(mv 7 0),(zo 8 (.lenSl (.s 7))),(zo 9 (.bin (.lss) (.s 6) (.s 8))),(mv 10 9),(mg 11 10 true 5),(mg 12 10 true 1),(zg 13 10 true (.bin (.lss) (.s 11) (.s 12))),(zo 14 (.pick (.s 10) (.s 13) cF))]) (.cond (.s 14) .skip (.exit 0))) (.seq (.block 1 (.seq (.region g17 [(mv 17 0),(mv 18 5),(zo 19 (.idxSl 2 (.s 17) (.s 18))),(fa 20 0 19),(ld 21 20),(zo 22 (.lenStr (.s 21))),(zo 23 (.bin (.gtr) (.s 22) (cj 40))),(mv 24 23),(mg 25 24 false 0),(mg 26 24 false 5),(zg 27 24 false (.idxSl 2 (.s 25) (.s 26))),(fg 28 24 false 1 27),(lg 29 24 false 28),(zg 30 24 false (.lenStr (.s 29))),(zg 31 24 false (.bin (.gtr) (.s 30) (cj 40))),(zo 32 (.pick (.s 24) cT (.s 31)))]) (.cond (.s 32) (.seq (.region g17 [(zo 4 (.move cF))]) .ret) .skip))) (.region g17 [(mv 15 5),(zo 16 (.bin (.add) (.s 15) (cj 1))),(mv 5 16)])))))) (.seq (.region g17 [(mv 33 0),(zo 34 (.lenSl (.s 33))),(mv 35 1),(zo 36 (.bin (.leq) (.s 34) (.s 35))),(mv 4 36)]) .ret))
theorem e17:aS Tryz.prog 17 g17 [] [] []=some (c17,[.slot 4],37):=by kernel_rfl
def Uy:Eng.Spec where
 X:=List Ky×Nat
 args:=fun x=>.cons (ksE x.1) (.cons (.int .i64 (x.2:Int)) .nil)
 pre:=fun x=>x.1.length < 4611686018427387904
 res:=fun x=>.bool (uH x.1 x.2)
 inst:=fun _=>none
theorem Sc:Uy.Ok Tryz.prog 17:=by
 refine Eng.Spec.okR e17 .nil (fun _=>[]) (fun _ _=>aF.nil) ?_
 rintro ⟨l,n⟩ (hn:l.length < 4611686018427387904)
 refine ⟨trivial,?_⟩
 repeat' (first|apply And.intro|exact trivial|exact rfl|(exact fun (h:false=true)=>Bool.noConfusion h)|(refine fun (_:false=false)=>?_)|(exact fun (h:true=false)=>Bool.noConfusion h)|(refine fun (_:true=true)=>?_)|fail)
 refine ⟨⟨Nat,fun k=>(k<=l.length/\k<=n)/\∀ j,j < k->nR (l.getD j k0)=true,fun k=>[(5,.int .i64 (k:Int))],fun _=>[],fun k=>l.length - k⟩,0,⟨⟨Nat.zero_le _,Nat.zero_le _⟩,fun j hj=>absurd hj (Nat.not_lt_zero j)⟩,?_,?_⟩
 ·repeat' (first|apply And.intro|exact trivial|exact rfl|exact fun (j:Nat) (hj:j < _)=>Or.inl (aU _ _ _ _)|fail)
 rintro (k:Nat) ⟨⟨(hk:k<=l.length),(hkn:k<=n)⟩,(hf:∀ j,j < k->nR (l.getD j k0)=true)⟩
 have b1:-9223372036854775808<=(k:Int)+1:=by omega
 have b2:(k:Int)+1<=9223372036854775807:=by omega
 have h0:(0:Int)<=(k:Int):=by omega
 repeat' (first|apply And.intro|exact trivial|exact rfl|fail)
 ·refine fun (hg:aW (decide ((k:Int) < (l.length:Int))) (.s 13) cF (decide ((k:Int) < (n:Int))) false=true)=>?_
  rw [bG,Bool.and_eq_true,decide_eq_true_eq,decide_eq_true_eq] at hg
  have h1:=hg.1
  have hkl:k < l.length:=by omega
  repeat' (first|apply And.intro|exact trivial|exact rfl|with_reducible exact h0|with_reducible exact h1|fail)
  ·refine fun _=>?_
   repeat' (first|apply And.intro|exact trivial|exact rfl|with_reducible exact h0|with_reducible exact h1|fail)
  ·refine fun (hv:aW (decide (((l.getD k k0).1.length:Int) > 40)) cT (.s 31) true (decide (((l.getD k k0).2.length:Int) > 40))=true)=>?_
   rw [eU,Bool.or_eq_true,decide_eq_true_eq,decide_eq_true_eq] at hv
   have e:false=uH l n:=by
    symm
    unfold uH
    have:l.all nR=false:=by
     rw [List.all_eq_false]
     refine ⟨l.getD k k0,?_,?_⟩
     ·rw [List.getD_eq_getElem?_getD,List.getElem?_eq_getElem hkl]; exact List.getElem_mem hkl
     ·unfold nR
      rw [Bool.and_eq_true,decide_eq_true_eq,decide_eq_true_eq]
      omega
    rw [this,Bool.and_false]
   repeat' (first|apply And.intro|exact trivial|exact rfl|exact e|fail)
  ·refine fun (hv:aW (decide (((l.getD k k0).1.length:Int) > 40)) cT (.s 31) true (decide (((l.getD k k0).2.length:Int) > 40))=false)=>?_
   rw [eU,Bool.or_eq_false_iff,decide_eq_false_iff_not,decide_eq_false_iff_not] at hv
   have hkl':k+1<=l.length:=hkl
   have hkn':k+1<=n:=by omega
   have hf':∀ j,j < k+1->nR (l.getD j k0)=true:=fun j hj=>by
    by_cases e:j=k
    ·rw [e]; unfold nR; rw [Bool.and_eq_true,decide_eq_true_eq,decide_eq_true_eq]; omega
    ·exact hf j (by omega)
   have hms:l.length - (k+1) < l.length - k:=by omega
   repeat' (first|apply And.intro|exact trivial|exact rfl|with_reducible exact b1|with_reducible exact b2|fail)
   refine Exists.intro (k+1) ?_
   repeat' (first|apply And.intro|exact trivial|exact rfl|with_reducible exact hkl'|with_reducible exact hkn'|with_reducible exact hf'|with_reducible exact hms|exact fun (j:Nat) (hj:j < _)=>Or.inl (aU _ _ _ _)|fail)
 ·refine fun (hg:aW (decide ((k:Int) < (l.length:Int))) (.s 13) cF (decide ((k:Int) < (n:Int))) false=false)=>?_
  rw [bG,Bool.and_eq_false_iff,decide_eq_false_iff_not,decide_eq_false_iff_not] at hg
  have e:decide ((l.length:Int)<=(n:Int))=uH l n:=by
   unfold uH
   by_cases hl:l.length<=n
   ·have hkl:k=l.length:=by omega
    have:l.all nR=true:=by
     rw [List.all_eq_true]
     intro x hx
     obtain ⟨j,hj,rfl⟩:=List.getElem_of_mem hx
     have:=hf j (by omega)
     simpa [hj] using this
    rw [this,decide_eq_true hl,decide_eq_true (by omega)]; rfl
   ·rw [decide_eq_false hl,decide_eq_false (by omega)]; rfl
  repeat' (first|apply And.intro|exact trivial|exact rfl|exact e|fail)
end T22
end
section
open Go Go.Eng Go.Proofs T1 T2 T3 T4 T5 T6 T10 T11 T22
set_option maxRecDepth 100000
namespace T23
structure ND where
 ids:List B
 bys:B
 kids:List B
 deriving DecidableEq
def ndL (n:ND):SV:=.cons (slE n.ids) (.cons (.str n.bys) (.cons (slE n.kids) .nil))
def g27:List Nat:=[0,1,2,3,4]
def c27:aH :=
 .seq (.region g27 [(zo 2 (.box 39 (.s 0))),(zo 3 (.box 39 (.s 1))),(zo 4 (.move cF))]) (.seq (.region g27 [(fa 5 0 2),(ld 6 5),(fa 7 0 3),(ld 8 7),(zo 9 (.call (.c (.fn 31)) [.s 6,.s 8])),(mv 10 9),(fg 11 10 true 1 2),(lg 12 10 true 11),(fg 13 10 true 1 3),(lg 14 10 true 13),(zg 15 10 true (.bin (.eql) (.s 12) (.s 14))),(zo 16 (.pick (.s 10) (.s 15) cF)),(mv 17 16),(fg 18 17 true 2 2),(lg 19 17 true 18),(fg 20 17 true 2 3),(lg 21 17 true 20),(zg 22 17 true (.call (.c (.fn 31)) [.s 19,.s 21])),(zo 23 (.pick (.s 17) (.s 22) cF)),(mv 4 23)]) .ret)
theorem e27:aS Tryz.prog 27 g27 [] [] []=some (c27,[.slot 4],24):=by kernel_rfl
def Q3:Eng.Spec where
 X:=ND×ND
 args:=fun x=>.cons (.agg (ndL x.1)) (.cons (.agg (ndL x.2)) .nil)
 pre:=fun x=>x.1.ids.length < 4611686018427387904/\x.1.kids.length < 4611686018427387904
 res:=fun x=>.bool (decide (x.1=x.2))
 inst:=fun _=>none
theorem Pv:Q3.Ok Tryz.prog 27:=by
 refine Eng.Spec.okR e27 .nil (fun _=>[(31,.m Vs)]) (fun _ _=>aF.m P9 aF.nil) ?_
 rintro ⟨⟨i1,b1,k1⟩,⟨i2,b2,k2⟩⟩ ⟨(hi:i1.length < 4611686018427387904),(hk:k1.length < 4611686018427387904)⟩
 refine ⟨trivial,?_⟩
 repeat' (first|apply And.intro|exact trivial|exact rfl|(exact fun (h:false=true)=>Bool.noConfusion h)|(refine fun (_:false=false)=>?_)|(exact fun (h:true=false)=>Bool.noConfusion h)|(refine fun (_:true=true)=>?_)|fail)
 refine Exists.intro (i1,i2) (Exists.intro [] ?_)
 repeat' (first|apply And.intro|exact trivial|exact rfl|exact fun (j:Nat) (hj:j < _)=>Or.inl (aN _ _ _ _)|exact hi|fail)
 refine fun (y:Bool) (hy:y=decide (i1=i2))=>?_
 subst hy
 repeat' (first|apply And.intro|exact trivial|exact rfl|(exact fun (h:false=true)=>Bool.noConfusion h)|(refine fun (_:false=false)=>?_)|(exact fun (h:true=false)=>Bool.noConfusion h)|(refine fun (_:true=true)=>?_)|fail)
 ·refine fun (h:aW (decide (i1=i2)) (.s 15) cF (decide (b1=b2)) false=true)=>?_
  rw [bG,Bool.and_eq_true,decide_eq_true_eq,decide_eq_true_eq] at h
  refine Exists.intro (k1,k2) (Exists.intro [] ?_)
  repeat' (first|apply And.intro|exact trivial|exact rfl|exact fun (j:Nat) (hj:j < _)=>Or.inl (aN _ _ _ _)|exact hk|fail)
  refine fun (y:Bool) (hy:y=decide (k1=k2))=>?_
  subst hy
  have e:aW (aW (decide (i1=i2)) (.s 15) cF (decide (b1=b2)) false) (.s 22) cF (decide (k1=k2)) false=decide (ND.mk i1 b1 k1=ND.mk i2 b2 k2):=by
   rw [bG,bG,h.1,h.2]
   simp
  repeat' (first|apply And.intro|exact trivial|exact rfl|(exact fun (h:false=true)=>Bool.noConfusion h)|(refine fun (_:false=false)=>?_)|(exact fun (h:true=false)=>Bool.noConfusion h)|(refine fun (_:true=true)=>?_)|exact e|fail)
 ·refine fun (h:aW (decide (i1=i2)) (.s 15) cF (decide (b1=b2)) false=!true)=>?_
  have h':(decide (i1=i2) && decide (b1=b2))=false:=by
   have h0:=h
   rw [bG] at h0
   exact h0
  have e:false=decide (ND.mk i1 b1 k1=ND.mk i2 b2 k2):=by
   symm
   rw [decide_eq_false_iff_not]
   intro e
   cases e
   simp at h'
  repeat' (first|apply And.intro|exact trivial|exact rfl|(exact fun (h:false=true)=>Bool.noConfusion h)|(refine fun (_:false=false)=>?_)|(exact fun (h:true=false)=>Bool.noConfusion h)|(refine fun (_:true=true)=>?_)|exact e|exact h|fail)
end T23
end
section
open Go Go.Eng Go.Proofs T1 T2 T3 T4 T5 T6 T10 T11 T22 T23
set_option maxRecDepth 100000
namespace T24
abbrev Ac:=Bool×Ky
def a0:Ac:=(false,k0)
def Ux:aM:=Uy.mof Bool (fun x y=>y=uH x.1 x.2) (fun _ y=>.bool y)
theorem Ol:Ux.Ok Tryz.prog 17:=Eng.Spec.kW Sc fun _ _=>⟨_,rfl,rfl⟩
end T24
end
section
open Go Go.Eng Go.Proofs T1 T2 T3 T4 T5 T6 T23
set_option maxRecDepth 100000
namespace T25
def lsH (i:Nat) (l:List B):Nat×aE:=(i,.arr 9 1 l.length fun j=>idE (l.getD j []))
theorem J8 {P:Bool->Prop} (h1:P true) (h0:P false):∀ b,P b
 | true=>h1
 | false=>h0
def g80:List Nat:=[4,0,2]
def c80:aH :=
 .seq (.region g80 [(zo 2 (.move (.c (.nilsl))))]) (.seq (.seq (.region g80 [(mv 3 0),(zo 4 (.slNil false (.s 3) (.c (.nilsl))))]) (.cond (.s 4) (.seq (.region g80 [(zo 2 (.move (.c (.nilsl))))]) .ret) .skip)) (.seq (.region g80 [(zo 5 (.buildSl 9 1 0 (.cons (.str []) .nil) [])),(mv 6 0),(zo 7 (.app 9 1 16 (.s 5) (.s 6))),(mv 2 7)]) .ret))
theorem e80:aS Tryz.prog 80 g80 [] [] []=some (c80,[.slot 2],8):=by kernel_rfl
def Ug:aM where
 X:=List B
 Y:=Unit
 args:=fun l=>.cons (slE l) .nil
 pre:=fun l=>l.length<=1000000
 h0:=fun _=>[]
 nx0:=0
 post:=fun _ _=>True
 res:=fun l _=>.lsl 0 1 l.length
 h1:=fun l _=>[lsH 0 l]
 nx1:=1
theorem Rr:Ug.Ok Tryz.prog 80:=by
 refine Eng.aM.okR e80 .nil (fun _=>[]) (fun _ _=>aF.nil) ?_
 rintro (l:List B) (hn:l.length<=1000000)
 refine ⟨trivial,?_⟩
 repeat' (first|apply And.intro|exact trivial|exact rfl|(exact fun (h:false=true)=>Bool.noConfusion h)|(refine fun (_:false=false)=>?_)|(exact fun (h:true=false)=>Bool.noConfusion h)|(refine fun (_:true=true)=>?_)|fail)
 refine J8 (fun (h:0 < l.length->true=false)=>?_) (fun (_:0 < l.length->false=false)=>?_)
 ·have h0:l.length=0:=by
   rcases Nat.eq_zero_or_pos l.length with h'|h'
   ·exact h'
   ·exact Bool.noConfusion (h h')
  repeat' (first|apply And.intro|exact trivial|exact rfl|(exact fun (h:false=true)=>Bool.noConfusion h)|(refine fun (_:false=false)=>?_)|(exact fun (h:true=false)=>Bool.noConfusion h)|(refine fun (_:true=true)=>?_)|fail)
  refine Exists.intro () ?_
  repeat' (first|apply And.intro|exact trivial|exact rfl|(exact fun (h:false=true)=>Bool.noConfusion h)|(refine fun (_:false=false)=>?_)|(exact fun (h:true=false)=>Bool.noConfusion h)|(refine fun (_:true=true)=>?_)|exact h0|exact h0.symm|fail)
 ·repeat' (first|apply And.intro|exact trivial|exact rfl|(exact fun (h:false=true)=>Bool.noConfusion h)|(refine fun (_:false=false)=>?_)|(exact fun (h:true=false)=>Bool.noConfusion h)|(refine fun (_:true=true)=>?_)|fail)
  ·exact fun _ _=>rfl
  ·show l.length<=9223372036854775807
   omega
  ·show l.length * 16<=140737488355328
   omega
  refine Exists.intro () ?_
  repeat' (first|apply And.intro|exact trivial|exact rfl|(exact fun (h:false=true)=>Bool.noConfusion h)|(refine fun (_:false=false)=>?_)|(exact fun (h:true=false)=>Bool.noConfusion h)|(refine fun (_:true=true)=>?_)|exact fun (j:Nat) (hj:j < _)=>Or.inl (aN _ _ _ _)|fail)
end T25
end
