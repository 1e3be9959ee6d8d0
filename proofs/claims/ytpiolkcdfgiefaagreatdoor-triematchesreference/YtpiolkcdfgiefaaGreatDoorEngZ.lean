/- A part of the proof. -/
import Derived.Test.YtpiolkcdfgiefaaGreatDoorEngJ
section
namespace Go.Eng
open Go Go.RowKit
structure eJ where
 dst:Option Nat
 guard:Option (Nat×Bool)
 op:SOp
 hide:List Nat
 deriving Repr
abbrev zPt:CV:=.cons (.int .i64 0) (.cons (.int .i64 0) .nil)
abbrev zHn:CV:=.cons (.int .i64 0) (.cons (.str []) (.cons (.int .i64 0) (.cons (.int .i64 0) .nil)))
abbrev zEn:CV:=.cons (.str []) (.cons (.int .i64 0) (.cons (.str []) (.cons (.int .i64 0) (.cons (.int .i64 0) (.cons (.int .i64 0) (.cons (.int .i64 0) .nil))))))
abbrev zEv:CV:=.cons (.int .i64 0) (.cons (.int .i64 0) (.cons (.int .i64 0) (.cons (.int .i64 0) (.cons (.int .i64 0) (.cons (.str []) (.cons (.str []) (.cons (.str []) (.cons (.nilsl) (.cons (.nilsl) (.cons (.int .i64 0) (.cons (.str []) (.cons (.int .i64 0) (.cons (.int .i64 0) (.cons (.int .i64 0) (.cons (.int .i64 0) (.cons (.nilsl) (.cons (.nilsl) .nil)))))))))))))))))
abbrev zo(d:Nat)(o:SOp):eJ:=⟨some d,none,o,[]⟩
abbrev zg(d g:Nat)(w:Bool)(o:SOp):eJ:=⟨some d,some (g,w),o,[]⟩
abbrev mv(d x:Nat):eJ:=zo d (.move (.s x))
abbrev mg(d g:Nat)(w:Bool)(x:Nat):eJ:=zg d g w (.move (.s x))
abbrev ld(d x:Nat):eJ:=zo d (.load 1 false (.s x))
abbrev lg(d g:Nat)(w:Bool)(x:Nat):eJ:=zg d g w (.load 1 false (.s x))
abbrev fa(d k x:Nat):eJ:=zo d (.fldA k (.s x))
abbrev fg(d g:Nat)(w:Bool)(k x:Nat):eJ:=zg d g w (.fldA k (.s x))
abbrev cj(z:Int):SX:=.c (.int .i64 z)
abbrev cT:SX:=.c (.bool true)
abbrev cF:SX:=.c (.bool false)
def J2(l:List Nat):Option Nat->Bool
 |none=>false
 |some d=>dU l d
def Lm(n:Nat):Option Nat->Bool
 |none=>true
 |some d=>Nat.blt d n
def Iw(ops:List Oper):Option (Nat×Bool)->Option (Option (Nat×Bool))
 |none=>some none
 |some (j,w)=>match ops[j]? with
  |some oj=>match oj.dst with
   |some d=>some (some (d,w))
   |none=>none
  |none=>none
def tU(P:Program)(n:Nat)(ops:List Oper)(o:Oper):Option eJ :=
 match cOp P o.op,Iw ops o.guard with
 |some so,some g=>bif Lm n o.dst then some ⟨o.dst,g,so,[]⟩else none
 |_,_=>none
def lV(P:Program)(n:Nat)(ops:List Oper):List Oper->Option (List eJ)
 | []=>some []
 |o::r=>match tU P n ops o,lV P n ops r with
  |some x,some y=>some (x::y)
  |_,_=>none
def iX(fr:List (Nat×SV)):Nat->Nat->Bool->Prop
 |0,_,_=>True
 |f+1,d,want=>match look fr d with
  |.bool b=>b=want
  |.gd d' w' (.bool b)=>b=want/\iX fr f d' w'
  |_=>True
theorem zf{P:Prop}:false=true->P:=λh=>Bool.noConfusion h
theorem zh{P:Prop}:true=false->P:=λh=>Bool.noConfusion h
theorem zt{b:Bool}{P:Prop}(h:P):b=b->P:=λ_=>h
theorem gd{fr:List (Nat×SV)}{n d:Nat}{w:Bool}{X:Prop}(h:X):iX fr n d w->X:=λ_=>h
def Gn(T:Tb)(g:Option (Nat×Bool))(st:St):SOp->Bool
 |.call f _=>match gx g st.fr f with
  |.yield _=>true
  |.fn k _=>match get? T.fs (bif Nat.blt k FM then k else k-FM) with
   |some (.m _)=>true
   |_=>false
  |_=>false
 |.buildSl _ _ _ _ _=>match get? T.fs OWN with
  |some .own=>true
  |_=>false
 |.load _ _ x=>match gx g st.fr x with
  |.fown _ _ _=>true
  |.foel _ _ _ _ _=>true
  |_=>false
 |o=>Wh o
def evO(T:Tb)(st:St)(o:SOp)(k:SV->St->Prop):Prop :=
 bif Gn T none st o then evE T none st (λs st'=>stF st' λst'=>k s st') o else
  match evP T.fs none st o with
  |.fail=>False
  |.ok v=>k v st
  |.side p v=>p/\k v st
def nJ(fr:List (Nat×SV)):Nat->Nat->Bool->Prop->Prop->Prop
 |0,_,_,_,_=>False
 |f+1,d,want,Y,N=>match look fr d with
  |.bool b=>(b=want->Y)/\(b=!want->N)
  |.gd d' w' (.bool b)=>nJ fr f d' w' ((b=want->Y)/\(b=!want->N)) N
  |.gd d' w' .junk=>nJ fr f d' w' False N
  |.tup _=>N
  |_=>False
def Fc(d:Option Nat)(lab:List Nat)(s:SV)(st:St)(k:St->Prop):Prop :=
 match d with
 |none=>k st
 |some d=>bif dU lab d then False else
  dJ s λs=>match s with
  |.gd _ _ _=>False
  |s=>match st with
   | ⟨fr,hp,nx⟩=>gN nx λnx=>k ⟨(d,s)::fr,hp,nx⟩
def uP(T:Tb):List eJ->List Nat->St->(St->Prop)->Prop
 | [],_,st,k=>k st
 |o::r,lab,st,k =>
  match o.guard with
  |none=>evO T st o.op λs st'=>Fc o.dst lab s st' λst''=>uP T r lab st'' k
  |some (d0,w) =>
   bif Gn T (some (d0,w)) st o.op then
    bif J2 (d0::lab) o.dst then False else
    nJ st.fr 10 d0 w (evE T (some (d0,w)) st (λs st'=>stF st' λst'=>Fc o.dst (d0::lab) s st' λst''=>uP T r (d0::lab) st'' k) o.op)
     (Fc o.dst (d0::lab) (.tup .nil) st λst''=>uP T r (d0::lab) st'' k)
   else
   match o.dst with
   |none=>False
   |some d=>bif dU (d0::lab) d then False else
    match evP T.fs (some (d0,w)) st o.op with
    |.fail=>(iX st.fr 10 d0 w->False)/\stP st λfr hp nx=>uP T r (d0::lab) ⟨(d,.gd d0 w .junk)::fr,hp,nx⟩ k
    |.ok v=>dJ v λv=>stP st λfr hp nx=>uP T r (d0::lab) ⟨(d,.gd d0 w v)::fr,hp,nx⟩ k
    |.side p v=>(iX st.fr 10 d0 w->p)/\dJ v λv=>stP st λfr hp nx=>uP T r (d0::lab) ⟨(d,.gd d0 w v)::fr,hp,nx⟩ k
def pK(fr:List (Nat×SV)):List Nat->(List (Nat×SV)->Prop)->Prop
 | [],k=>k []
 |n::r,k=>dJ (look fr n) λs=>match s with
  |.gd _ _ _=>pK fr r k
  |.junk=>pK fr r k
  |s=>pK fr r λl=>k ((n,s)::l)
section
variable {P:Program} {C:Ctx} {ro:Option Nat}
theorem vV{E:Env}{t:Array Value}{fr:List (Nat×SV)}(hf:∀s,fJ E t (look fr s) (t.getD s undef)):∀(n d:Nat) (want:Bool) (Y N:Prop),nJ fr n d want Y N ->
  (t.getD d undef=.bool want/\Y)\/(t.getD d undef≠.bool want/\N):=by
 intro n;induction n with
 |zero=>intro d want Y N h; exact h.elim
 |succ n ih =>
  intro d want Y N h;have hs:=hf d;simp only[nJ]at h;have two:∀(b:Bool) {Y N:Prop},t.getD d undef=.bool b->((b=want->Y)/\(b=!want->N))->(t.getD d undef=.bool want/\Y)\/(t.getD d undef≠.bool want/\N):=by
   intro b Y N hb hyn;rw[hb];by_cases e:b=want
   .simp [*]
   .refine .inr ⟨(by grind),hyn.2 ?_⟩;cases b<;>cases want<;>simp_all
  split at h
  .rename_i b hb;rw[hb]at hs;simp only[fJ,R]at hs;exact two b (aC.1 hs) h
  .rename_i d' w' b hb;rw[hb]at hs;obtain⟨h1,h2⟩:=hs;rcases ih _ _ _ _ h with⟨e,hy⟩|⟨e,hn⟩
   .have:=h1 e;simp only[R]at this;exact two b (aC.1 this) hy
   .refine .inr ⟨?_,hn⟩;rw[h2 e];intro e'; cases e'
  .rename_i d' w' hb;rw[hb]at hs;obtain⟨h1,h2⟩:=hs;rcases ih _ _ _ _ h with⟨e,hy⟩|⟨e,hn⟩
   .exact hy.elim
   .refine .inr ⟨?_,hn⟩;rw[h2 e];intro e'; cases e'
  .grind [fJ,R]
  grind
def gR(fr:List (Nat×SV))(lab:List Nat):Prop:=∀s d w x,look fr s=.gd d w x->dU lab d=true
theorem Of{T:Tb}(htab:wU P C T){μ:Nat->Option (Nat×Nat)}{st:St}{a:Act}{w:World}(h:cR C μ st a w){o:Oper}{so:SOp}(hc:cOp P o.op=some so){K:SV->St->Prop}
  (he:evO T st so K):Acts P C μ st.hp w st.fr K ((execOp a.eval o).run P w):=by
 have hg:GOk none a.tmps:=λ_ _ e=>by cases e
 unfold evO at he;cases hb:Gn T none st so with
 |true =>
  simp only[hb,cond_true,Fh]at he
  grind[tC]
 |false =>
  simp only[hb,cond_false]at he;have he':(evP T.fs none st so).holds (λv=>K v st):=by
   cases hp:evP T.fs none st so<;>rw[hp]at he<;>exact he
  obtain⟨s,hq,hd⟩:=tD htab.fs (htab.g.at h.hep.frm) h hg hc he';refine hd.mono ?_;rintro v w' ⟨hb,hr⟩;exact⟨s,st,μ,hq,rfl,jM hb,h.hep.below hb,hr⟩
theorem cR.Fi{μ μ':Nat->Option (Nat×Nat)}{st st':St}{a:Act}{w w':World}(h:cR C μ st a w)(hfr:st'.fr=st.fr)(hE:(aG C μ st.hp w).Le (aG C μ' st'.hp w'))(hh:bD C μ' st'.hp st'.nx w'):cR C μ' st' a w':=by
 have:=h.step hE hh;cases st'
 grind
theorem pQ(t:Array Value)(d:Nat)(v:Value)(h:d<t.size):(t.setIfInBounds d v).getD d undef=v:=by
 simp[*]
theorem eU(t:Array Value)(d s:Nat)(v:Value)(h:s≠d):(t.setIfInBounds d v).getD s undef=t.getD s undef:=by
 simp[Array.getD_eq_getD_getElem?,Array.getElem?_setIfInBounds_ne (Ne.symm h)]
theorem iC(d:Nat)(s:SV)(fr:List (Nat×SV))(n:Nat):look ((d,s)::fr) n=if d=n then s else look fr n:=by
 grind[look,get?_cons]
theorem Bz{E:Env}{t:Array Value}{d:Nat}{v:Value}{s:SV}{x:Value}{lab:List Nat}(hl:dU lab d=false)(hs:∀d' w y,s=.gd d' w y->dU lab d'=true)(h:fJ E t s x) :
  fJ E (t.setIfInBounds d v) s x:=by
 cases s with
 |gd d' w y =>
  have:d'≠d:=by
   grind
  grind[fJ,eU]
 |_=>exact h
theorem cR.set{μ:Nat->Option (Nat×Nat)}{st:St}{a:Act}{w:World}(h:cR C μ st a w){lab:List Nat}(hlab:gR st.fr lab){d:Nat}(hd:d<C.n)(hm:dU lab d=false){s:SV}{v:Value}
  (hs:fJ (aG C μ st.hp w) (a.tmps.setIfInBounds d v) s v):cR C μ { st with fr:=(d,s)::st.fr } (a.put (some d) v) w where
 size:=by simp[Act.put,h.size]
 defers:=h.defers
 fr:=by
  intro n;simp only[Act.put];rw[iC];by_cases hn:d=n
  .subst hn;rw[if_pos rfl,pQ _ _ _ (by rw[h.size]; exact hd)];exact hs
  .rw [if_neg hn,eU _ _ _ _ (fR hn)];exact Bz hm (λd' w y e=>hlab n d' w y e) (h.fr n)
 hep:=h.hep
 le:=h.le
 kd:=h.kd
theorem qO{E:Env}{t:Array Value}{s:SV}{v:Value}(h:R E s [v])(hn:∀d w x,s≠.gd d w x):fJ E t s v:=by
 cases s<;>first
  |exact h
  |grind
theorem gR.cons{fr:List (Nat×SV)}{lab:List Nat}(h:gR fr lab){d:Nat}{s:SV}(hs:∀d' w x,s=.gd d' w x->dU lab d'=true):gR ((d,s)::fr) lab:=by
 intro n d' w x e;rw[iC]at e;split at e
 .grind
 .exact h n d' w x e
theorem fU{ops:Array Oper}{o:Oper}{t:Array Value}{g:Option (Nat×Bool)}(h:Iw ops.toList o.guard=some g) :
  Region.wanted o (yielded ops t)=true↔GOk g t:=by
 unfold Iw at h;split at h
 .rename_i hg;cases h;simp only[Region.wanted,hg];exact⟨(λ_ _ _ e=>by cases e),λ_=>trivial⟩
 .rename_i j w hg;split at h
  .rename_i oj hj;split at h
   .rename_i d hd;cases h;have hj':ops[j]?=some oj:=by grind
    simp only[Region.wanted,hg,yielded,hj',Option.bind_some,hd];constructor
    .intro hh d' w' e;cases e;rw[dK]
     grind
    .intro hh;have:=hh d w rfl;rw[dK]at this
     grind[undef]
   .cases h
  .cases h
theorem qU{E:Env}{a:Act}{fr:List (Nat×SV)}(hf:∀s,fJ E a.tmps (look fr s) (a.tmps.getD s undef)):∀(f d:Nat) (w:Bool),a.tmps.getD d undef=.bool w->iX fr f d w:=by
 intro f;induction f with
 |zero=>intro d w _; trivial
 |succ f ih =>
  intro d w hd;have h:=hf d;simp only[iX];split
  .rename_i b hb;rw[hb,hd]at h;have:R E (.bool b) [.bool w]:=h
   grind[R]
  .rename_i d' w' b hb;rw[hb,hd]at h;obtain⟨h1,h2⟩:=h;by_cases hc:a.tmps.getD d' undef=.bool w'
   .have:=h1 hc;simp only[R]at this
    grind
   .have:=h2 hc;cases this
  .trivial
theorem Aa{T:Tb}(htab:wU P C T){ops:Array Oper}{Q:Exit->Act->World->Prop}{K:St->Prop}
  (hK:∀st μ a w,K st->cR C μ st a w->Q .normal a w) :
  ∀(l:List Oper) (sl:List eJ) (lab:List Nat) (μ:Nat->Option (Nat×Nat)) (st:St) (a:Act) (w:World),lV P C.n ops.toList l=some sl->gR st.fr lab->cR C μ st a w->uP T sl lab st K ->
   wpListIn (WF ro) 0 P ops Q l a w:=by
 intro l;induction l with
 |nil =>
  intro sl lab μ st a w hc hlab h he;simp only[lV,aH]at hc;subst hc;exact wpListIn_nil (hK _ _ _ _ he h)
 |cons o r ih =>
  intro sl lab μ st a w hc hlab h he;simp only[lV]at hc;split at hc
  .rename_i so sr h1 h2;cases hc;unfold tU at h1;split at h1
   .rename_i sop g h3 h4;cases hdst:Lm C.n o.dst with
    |false=>grind
    |true =>
     simp only[hdst,cond_true,aH]at h1;subst h1;have hnd:∀c,o.op≠.defer c:=by
      grind[cOp]
     have hdn:∀d,o.dst=some d->d<C.n:=by
      intro d e;rw[e]at hdst;have h1:Nat.ble (d+1) C.n=true:=hdst;exact aQ h1
     simp only[uP]at he;cases g with
     |none =>
      simp only at he;have hw:Region.wanted o (yielded ops a.tmps)=true:=(fU h4).2 (λ_ _ e=>by cases e);simp only[wpListIn,hw,if_true];refine jQ hnd ?_;refine(Of htab h h3 he).mono ?_;rintro v w' ⟨s,st',μ',hk,hfr,hE,hh,hR⟩;have hrep:=h.Fi hfr hE hh;obtain⟨fr1,hp1,nx1⟩:=st';unfold Fc at hk;split at hk
      .rename_i hdn';rw[hdn'];exact ih sr lab μ' ⟨fr1,hp1,nx1⟩ a w' h2 (by rw[hfr]; exact hlab) hrep hk
      .rename_i d hd';cases hm:dU lab d with
       |true=>grind
       |false =>
        simp only[hm,cond_false,fA,iW]at hk;split at hk
        .exact hk.elim
        .rename_i hnw;rw[hd'];have hlab':gR fr1 lab:=by grind
         exact ih sr lab μ' ⟨(d,_)::fr1,hp1,nx1⟩ _ w' h2 (hlab'.cons (by grind)) (hrep.set hlab' (hdn d hd') hm (qO hR hnw)) hk
     |some gw =>
      obtain⟨d0,gwant⟩:=gw;simp only at he;cases hie:Gn T (some (d0,gwant)) st sop with
      |true =>
       simp only[hie,cond_true,Fh]at he;cases hmo:J2 (d0::lab) o.dst with
       |true=>grind
       |false =>
       simp only[hmo,cond_false]at he;have hlab0:gR st.fr (d0::lab):=by
        intro s d' w x e;have:=hlab s d' w x e
        grind[dU]
       -- the slot is set
       have cont:∀(st':St) (μ':Nat->Option (Nat×Nat)) (v:Value) (w':World) (s:SV),st'.fr=st.fr->cR C μ' st' a w'->R (aG C μ' st'.hp w') s [v]->Fc o.dst (d0::lab) s st' (λst''=>uP T sr (d0::lab) st'' K)->wpListIn (WF ro) 0 P ops Q r (a.put o.dst v) w':=by
        intro st' μ' v w' s hfr hrep hR hk;obtain⟨fr1,hp1,nx1⟩:=st';unfold Fc at hk;split at hk
        .rename_i hdn';rw[hdn'];exact ih sr (d0::lab) μ' ⟨fr1,hp1,nx1⟩ a w' h2 (by rw[hfr]; exact hlab0) hrep hk
        .rename_i d hd';cases hm:dU (d0::lab) d with
         |true=>grind
         |false =>
          simp only[hm,cond_false,fA,iW]at hk;split at hk
          .exact hk.elim
          .rename_i hnw;rw[hd'];have hlab':gR fr1 (d0::lab):=by grind
           exact ih sr (d0::lab) μ' ⟨(d,_)::fr1,hp1,nx1⟩ _ w' h2 (hlab'.cons (by grind)) (hrep.set hlab' (hdn d hd') hm (qO hR hnw)) hk
       rcases vV h.fr 10 d0 gwant _ _ he with⟨hgd,hy⟩|⟨hgd,hn⟩
       .have hg:GOk (some (d0,gwant)) a.tmps:=by intro d w e; grind
        have hw:Region.wanted o (yielded ops a.tmps)=true:=(fU h4).2 hg;simp only[wpListIn,hw,if_true];refine jQ hnd ?_;refine(tC htab h hg h3 hy).mono ?_;rintro v w' ⟨s,st',μ',hk,hfr,hE,hh,hR⟩;exact cont st' μ' v w' s hfr (h.Fi hfr hE hh) hR hk
       .have hw:¬Region.wanted o (yielded ops a.tmps)=true:=by
         intro e;exact hgd ((fU h4).1 e d0 gwant rfl)
        simp only[wpListIn,hw];exact⟨λf _=>yC ro f,cont st μ undef w (.tup .nil) rfl h ⟨[],rfl,rfl⟩ hn⟩
      |false =>
      simp only[hie,cond_false,fA,aDn]at he;split at he
      .exact he.elim
      .rename_i d hd';cases hm:dU (d0::lab) d with
       |true=>grind
       |false =>
        simp only[hm,cond_false]at he;have hlab0:gR st.fr (d0::lab):=by
         intro s d' w x e;have:=hlab s d' w x e
         grind[dU]
        have hd0:dU (d0::lab) d0=true:=by simp[dU,Nat.beq_refl]
        have hne:d0≠d:=by grind
        -- both ways
        have key:∀v,uP T sr (d0::lab) { fr:=(d,.gd d0 gwant v)::st.fr,hp:=st.hp,nx:=st.nx } K->(evP T.fs (some (d0,gwant)) st sop=.ok v\/∃p,(iX st.fr 10 d0 gwant->p)/\evP T.fs (some (d0,gwant)) st sop=.side p v) ->
          wpListIn (WF ro) 0 P ops Q (o::r) a w:=by
         intro v hrest hev;have hlab1:gR ((d,.gd d0 gwant v)::st.fr) (d0::lab):=hlab0.cons (by grind);by_cases hw:Region.wanted o (yielded ops a.tmps)=true
         .have hg:=(fU h4).1 hw;have hgd:a.tmps.getD d0 undef=.bool gwant:=hg d0 gwant rfl;have he':(evP T.fs (some (d0,gwant)) st sop).holds (λx=>x=v):=by
           rcases hev with e|⟨p,hp,e⟩
           .rw [e]; rfl
           .rw [e]; exact⟨hp (qU h.fr 10 d0 gwant hgd),rfl⟩
          simp only[wpListIn,hw,if_true];refine jQ hnd ?_;obtain⟨s,rfl,hdo⟩:=tD htab.fs (htab.g.at h.hep.frm) h hg h3 he';refine hdo.mono ?_;rintro u w' ⟨hb,hr⟩;rw[hd'];refine ih sr (d0::lab) μ _ _ w' h2 hlab1 ((h.below hb).set hlab0 (hdn d hd') hm ?_) hrest;simp only[fJ];rw[eU _ _ _ _ hne,hgd];simp[*]
         .have hg:¬a.tmps.getD d0 undef=.bool gwant:=by
           intro e;exact hw ((fU h4).2 (λd' w' e'=>by cases e'; exact e))
          simp only[wpListIn,hw];refine⟨λf _=>yC ro f,?_⟩;rw[hd'];refine ih sr (d0::lab) μ _ _ w h2 hlab1 (h.set hlab0 (hdn d hd') hm ?_) hrest;simp only[fJ];rw[eU _ _ _ _ hne]
          grind
        split at he
        .obtain ⟨hnp,hrest⟩:=he;have hlab1:gR ((d,.gd d0 gwant .junk)::st.fr) (d0::lab):=hlab0.cons (by grind);by_cases hw:Region.wanted o (yielded ops a.tmps)=true
         .exact (hnp (qU h.fr 10 d0 gwant ((fU h4).1 hw d0 gwant rfl))).elim
         .have hg:¬a.tmps.getD d0 undef=.bool gwant:=by
           intro e;exact hw ((fU h4).2 (λd' w' e'=>by cases e'; exact e))
          simp only[wpListIn,hw];refine⟨λf _=>yC ro f,?_⟩;rw[hd'];refine ih sr (d0::lab) μ _ _ w h2 hlab1 (h.set hlab0 (hdn d hd') hm ?_) hrest;simp only[fJ];rw[eU _ _ _ _ hne]
          grind
        .grind
        grind
   .cases h1
  .cases hc
theorem pL{μ:Nat->Option (Nat×Nat)}{a:Act}{w:World}{hp:List (Nat×aL)}{nx:Nat}{fr:List (Nat×SV)}(h:cR C μ ⟨fr,hp,nx⟩ a w) :
  ∀(l:List Nat) (K:List (Nat×SV)->Prop),pK fr l K->∃fr',K fr'/\gR fr' []/\cR C μ ⟨fr',hp,nx⟩ a w:=by
 intro l;induction l with
 |nil =>
  intro K hk;exact⟨[],hk,λs d w x e=>by simp[look,get?]at e,h.frame (st:=⟨fr,hp,nx⟩) (λs=>mS _ _ _)⟩
 |cons n r ih =>
  intro K hk;simp only[pK,fA]at hk;split at hk
  .grind
  .grind
  .rename_i s hnw hnj;obtain⟨fr',h1,h2,h3⟩:=ih _ hk;refine⟨_,h1,h2.cons (by grind),?_⟩;refine h3.frame (st:=⟨fr',hp,nx⟩) (λm=>?_);rw[iC];split
   .rename_i e; subst e; exact h.fr n
   .exact h3.fr m
end
end Go.Eng
end
section
namespace Go.Eng
open Go Go.RowKit
section
variable {C:Ctx}
theorem Bb{k:Keep}{hp:List (Nat×aL)}{fr:List (Nat×SV)}:∀{fr':List (Nat×SV)},C6 k hp fr fr'->∀s,(look fr' s=.junk)\/(sub k hp 200 (look fr s) (look fr' s)/\∀d w x,look fr' s≠.gd d w x):=by
 intro fr';induction fr' with
 |nil=>intro _ s; exact .inl rfl
 |cons p r ih =>
  obtain⟨s0,v⟩:=p;intro hs s;rw[iC];cases v with
  |gd d w x=>grind[C6]
  |_ =>
   simp only[C6]at hs;split
   .rename_i e;subst e;exact .inr ⟨hs.1,by simp⟩
   .exact ih hs.2 s
theorem Tu(hpin:rH C){nx':Nat}{prs:List (Nat×Nat)}(hk:iG nx' prs=true)(hp:∀i,i∈C.np->(i,i)∈prs){μ μ':Nat->Option (Nat×Nat)}(h:∀id p,C.pin id=some p->μ id=some p)
  (k2:∀id id' p,get? prs id=some id'->μ id=some p->μ' id'=some p) (k3:∀c d i p,get? prs c=some d->μ (fid c i)=some p->μ' (fid d i)=some p) (k9:∀n,n<C.bnd->n<FB->μ' n=μ n):∀id p,C.pin id=some p->μ' id=some p:=by
 intro id p e;rcases hpin id p e with hb|⟨hb,hb2⟩;rotate_left
 .simp [*]
 have hg:=get?_of_mem hk (hp _ hb);by_cases hlt:id<FB
 .simp only [fbase,hlt,if_true]at hg
  grind
 .simp only [fbase,hlt,if_false]at hg;have he:=nI (bJ.1 hlt)
  grind
theorem nF(hpin:rH C){μ:Nat->Option (Nat×Nat)}{st st':St}{a:Act}{w:World}(h:cR C μ st a w)(hlab:gR st.fr [])(hs:lI C.np C.bnd st st'):(∃μ',cR C μ' st' a w)/\gR st'.fr []:=by
 unfold lI at hs;rw[Pg]at hs;cases hk:iG st'.nx (rB C.np C.bnd st st') with
 |false=>grind
 |true =>
  cases hfm:tX st.hp st'.hp (rB C.np C.bnd st st') with
  |false=>grind
  |true =>
  cases hpi:uX (rB C.np C.bnd st st') C.np with
  |false=>grind
  |true =>
  cases hlo:Cm C.bnd (rB C.np C.bnd st st') with
  |false=>grind
  |true =>
  cases hbn:Nat.ble C.bnd st'.nx with
  |false=>grind
  |true =>
  simp only[hk,hfm,hpi,hlo,hbn,cond_true]at hs;generalize rB C.np C.bnd st st'=prs at hs hk hfm hpi hlo;obtain⟨hfr,hhp⟩:=hs;obtain⟨μ',k1,k2,k3,k4,k5,k6,k7,k8,k9⟩:=Fj C.bnd h.hep hk hfm hhp (O1 hlo) (aQ hbn);have hF:(aG C μ st.hp w).Freed (.keep prs) st.hp (aG C μ' st'.hp w):=by
   refine⟨λ_=>⟨?_,λ_ _=>rfl⟩,k2,k3,rfl,?_⟩
   .intro b hb;refine⟨hb.1,hb.2.1,?_,hb.2.2.2⟩;intro i o' c' hg hm;obtain⟨m,o,_,ho,e,_⟩:=k1 i o' hg;rw[e]at hm;exact hb.2.2.1 m o c' ho hm
   .intro id o b c hn hg hm hkp;have hm':μ id=some (b,c):=hm;refine⟨h.hep.lt hg hm',?_,?_,h.hep.obj.plain hg hm' hn⟩
    .rcases h.hep.mine id o b c hg hm' with hh|hh
     .exact .inr (.inl hh)
     .exact .inr (.inr hh)
    .intro i o' c2 hg' hm2;obtain⟨m,oi,hp1,ho,e,_⟩:=k1 i o' hg';rw[e]at hm2;have:=h.hep.inj _ _ _ _ _ _ _ hg ho hm' hm2
     grind
  have hsub:∀s t vs,sub (.keep prs) st.hp 200 s t->R (aG C μ st.hp w) s vs->R (aG C μ' st'.hp w) t vs:=λs t vs=>lF hF h.hep.obj 200 s t vs;refine⟨⟨μ',h.size,h.defers,?_,?_,h.le.trans (hF.le rfl),h.kd⟩,?_⟩
  .intro s;rcases Bb hfr s with e|⟨e,hnw⟩
   .grind [mS]
   .have hold:=h.fr s;have hR:R (aG C μ st.hp w) (look st.fr s) [a.tmps.getD s undef]:=by
     cases hl:look st.fr s with
     |gd d w' x=>have:=hlab s d w' x hl; simp_all[dU]
     |_=>rw[hl]at hold; exact hold
    grind[qO]
  .refine ⟨⟨(by grind),?_⟩,?_,?_,(by grind),k4,k5,Tu hpin hk (A2 hpi) h.hep.pin k2 k3 k9,h.hep.frm,sub_pos h.hep hk k1⟩
   .intro i o' hg;obtain⟨m,o,_,ho,e,hso⟩:=k1 i o' hg;obtain⟨b,cp,x,e1,e2,e3⟩:=h.hep.obj.obj m o ho;refine⟨b,cp,x,e.trans e1,e2,xX hF.le hsub (λ_ _ _ _ e=>e) hso e3⟩
   .intro i i' o1 o2 b c1 c2 g1 g2 m1 m2;obtain⟨d1,p1,q1,ho1,e1,_⟩:=k1 i o1 g1;obtain⟨d2,p2,q2,ho2,e2,_⟩:=k1 i' o2 g2;rw[e1]at m1;rw[e2]at m2;have:=h.hep.inj _ _ _ _ _ _ _ ho1 ho2 m1 m2
    grind
   .intro i o' b c hg hm;obtain⟨d,o,_,ho,e,_⟩:=k1 i o' hg;rw[e]at hm;exact h.hep.mine _ _ _ _ ho hm
  .intro s d w' x e;rcases Bb hfr s with e'|⟨_,hnw⟩
   .grind
   grind
end
end Go.Eng
end
section
namespace Go.Eng
open Go Go.RowKit
def xS:SX->List Nat
 |.s n=>[n]
 |.c _=>[]
def xsS:List SX->List Nat
 | []=>[]
 |x::r=>xS x++xsS r
def oxS:Option SX->List Nat
 |none=>[]
 |some x=>xS x
def xP:List (Nat×Nat×SX)->List Nat
 | []=>[]
 | (_,_,x)::r=>xS x++xP r
def vA:SOp->List Nat
 |.move x=>xS x
 |.pick c a b=>xS c++xS a++xS b
 |.load _ _ x=>xS x
 |.fldA _ x=>xS x
 |.idxArr _ _ x i=>xS x++xS i
 |.idxSl _ x i=>xS x++xS i
 |.idxStr x i=>xS x++xS i
 |.idxVal _ _ _ x i=>xS x++xS i
 |.field _ _ _ x=>xS x
 |.nilCheck x=>xS x
 |.lenStr x=>xS x
 |.lenSl x=>xS x
 |.bin _ x y=>xS x++xS y
 |.ptrEq _ x y=>xS x++xS y
 |.eqB _ x y=>xS x++xS y
 |.not x=>xS x
 |.neg x=>xS x
 |.cnv _ x=>xS x
 |.convS x=>xS x
 |.runeS x=>xS x
 |.cpyS x y=>xS x++xS y
 |.mm _ x y=>xS x++xS y
 |.mm3 x y z=>xS x++xS y++xS z
 |.extract _ x=>xS x
 |.mkfn _ caps=>xsS caps
 |.build _ ps=>xP ps
 |.buildSl _ _ _ _ ps=>xP ps
 |.sliceSl _ x lo hi=>xS x++oxS lo++oxS hi
 |.sliceStr x lo hi=>xS x++oxS lo++oxS hi
 |.call f args=>xS f++xsS args
 |.alloc _ _=>[]
 |.clr _ x=>xS x
 |.arrSl _ _ _ x=>xS x
 |.arrCut _ x h=>xS x++xS h
 |.bad=>[]
 |.slNil _ x y=>xS x++xS y
 |.box _ x=>xS x
 |.store _ x v=>xS x++xS v
 |.mapEq _ x y=>xS x++xS y
 |.eqS _ _ x y=>xS x++xS y
 |.app _ _ _ x y=>xS x++xS y
 |.mkmap _=>[]
 |.mlook _ _ _ m k=>xS m++xS k
 |.mupd _ m k v=>xS m++xS k++xS v
 |.ment _ _ m k=>xS m++xS k
 |.mesto m t v=>xS m++xS t++xS v
 |.mdele _ m k=>xS m++xS k
 |.mlen m=>xS m
 |.mrange m=>xS m
 |.mnext it=>xS it
 |.mentry it=>xS it
def Agree(l:List Nat)(fr fr':List (Nat×SV)):Prop:=∀t∈l,look fr t=look fr' t
section
variable {fr fr':List (Nat×SV)} {g:Option (Nat×Bool)}
theorem eK{x:SX}(h:Agree (xS x) fr fr'):gx g fr x=gx g fr' x:=by
 cases x with
 |s n=>simp only[gx]; rw[h n (by simp[xS])]
 |c v=>rfl
theorem xI:∀{xs:List SX},Agree (xsS xs) fr fr'->gxs g fr xs=gxs g fr' xs:=by
 intro xs;induction xs with
 |nil=>intro _; rfl
 |cons x r ih =>
  intro h;simp only[gxs];rw[eK (λt ht=>h t (by simp[xsS,ht])),ih (λt ht=>h t (by simp[xsS,ht]))]
theorem Hf{x:Option SX}(h:Agree (oxS x) fr fr'):ox g fr x=ox g fr' x:=by
 cases x with
 |none=>rfl
 |some x=>simp only[ox]; rw[eK h]
theorem yJ:∀{ps:List (Nat×Nat×SX)} {l:SV},Agree (xP ps) fr fr'->rJ g fr ps l=rJ g fr' ps l:=by
 intro ps;induction ps with
 |nil=>intro l _; rfl
 |cons p r ih =>
  obtain⟨a,b,x⟩:=p;intro l h;simp only[rJ];rw[eK (x:=x) (λt ht=>h t (by simp[xP,ht]))];have:∀l,rJ g fr r l=rJ g fr' r l:=λl=>ih (λt ht=>h t (by simp[xP,ht]));simp[*]
theorem uB{c x:SX}{want:Bool}(h:Agree (xS x) fr fr'):pG g fr c want x=pG g fr' c want x:=by
 cases x with
 |s n=>simp only[pG]; rw[h n (by simp[xS])]
 |c v=>rfl
theorem Agree.l{a b:List Nat}(h:Agree (a++b) fr fr'):Agree a fr fr':=λt ht=>h t (by simp[ht])
theorem Agree.r{a b:List Nat}(h:Agree (a++b) fr fr'):Agree b fr fr':=λt ht=>h t (by simp[ht])
theorem xE{tab:List (Nat×fV)}{hp:List (Nat×aL)}{nx nx':Nat}{so:SOp}(h:Agree (vA so) fr fr'):evP tab g ⟨fr,hp,nx⟩ so=evP tab g ⟨fr',hp,nx'⟩ so:=by
 cases so<;>(try simp only[vA]at h)<;>(try simp only[evP])<;>first
  |rfl
  |rw[eK h]
  |rw[eK h.l,eK h.r]
  |rw[eK h.l,xI h.r]
  |rw[eK h.l]
  |rw[xI h]
  |rw[yJ h]
  |rw[eK h.l.l,Hf h.l.r,Hf h.r]
  |rw[eK h.l.l,eK h.l.r,eK h.r]
  | (unfold Dv; rw[eK h.l.l,uB h.l.r,uB h.r])
theorem Ca{T:Tb}{hp:List (Nat×aL)}{nx:Nat}{so:SOp}{K:SV->List (Nat×aL)->Nat->Prop}(h:Agree (vA so) fr fr')(he:evE T g ⟨fr,hp,nx⟩ (λs st=>K s st.hp st.nx) so) :
  evE T g ⟨fr',hp,nx⟩ (λs st=>K s st.hp st.nx) so:=by
 cases so<;>(try simp only[vA]at h)<;>(try simp only[evE,yP]at he ⊢)<;>first
  |exact he
  | (rw[eK h]at he; exact he)
  | (rw[yJ h]at he; exact he)
  | (rw[eK h.l,eK h.r]at he; exact he)
  | (rw[eK h.l.l,eK h.l.r,eK h.r]at he; exact he)
  | (simp only[Ln]at he ⊢; rw[eK h.l,eK h.r]at he; exact he)
  | (rw[eK h.l,xI h.r]at he; grind[zB])
end
def kG(s:SV)(k:SV->Prop):Prop :=
 dJ s λs=>match s with
 |.gd _ _ _=>False
 |s=>k s
structure cK where
 o:eJ
 pre:List Nat
 tp:Nat
 eff:Bool
inductive fW where
 |done
 |none
 |pure (i:Nat) (o:eJ) (rest:fW)
 |eff (i:Nat) (o:eJ) (stab:List eJ) (sub alt:fW)
 deriving Repr
def pW:SOp->Bool
 |.load ..=>true
 |.call ..=>true
 |_=>false
def sW(tab:List (Nat×fV))(fr:List (Nat×SV))(hp:List (Nat×aL))(nx:Nat)(hp':List (Nat×aL))(nx':Nat):List eJ->Prop
 | []=>True
 |o::r=>evP tab o.guard ⟨fr,hp',nx'⟩ o.op=evP tab o.guard ⟨fr,hp,nx⟩ o.op/\sW tab fr hp nx hp' nx' r
def xV(d:Option Nat)(s:SV)(fr:List (Nat×SV))(k:List (Nat×SV)->Prop):Prop :=
 match d with
 |none=>k fr
 |some d=>kG s λs=>k ((d,s)::fr)
def evD(T:Tb):fW->List (Nat×SV)->List (Nat×aL)->Nat->(St->Prop)->Prop
 |.done,fr,hp,nx,k=>k ⟨fr,hp,nx⟩
 |.none,_,_,_,_=>True
 |.pure _ o rest,fr,hp,nx,k=>match o.dst with
  |none=>False
  |some d=>match o.guard with
   |none=>match evP T.fs none ⟨fr,hp,nx⟩ o.op with
    |.fail=>False
    |.ok v=>kG v λv=>evD T rest ((d,v)::fr) hp nx k
    |.side p v=>p/\kG v λv=>evD T rest ((d,v)::fr) hp nx k
   |some (d0,w)=>match evP T.fs (some (d0,w)) ⟨fr,hp,nx⟩ o.op with
    |.fail=>(iX fr 10 d0 w->False)/\evD T rest ((d,.gd d0 w .junk)::fr) hp nx k
    |.ok v=>dJ v λv=>evD T rest ((d,.gd d0 w v)::fr) hp nx k
    |.side p v=>(iX fr 10 d0 w->p)/\dJ v λv=>evD T rest ((d,.gd d0 w v)::fr) hp nx k
 |.eff _ o stab sub alt,fr,hp,nx,k =>
  (match o.guard with
   |none=>evE T none ⟨fr,hp,nx⟩ (λs st'=>stK st' λhp' nx'=>sW T.fs fr hp nx hp' nx' stab/\xV o.dst s fr λfr'=>evD T sub fr' hp' nx' k) o.op
   |some (d0,w)=>nJ fr 10 d0 w (evE T (some (d0,w)) ⟨fr,hp,nx⟩ (λs st'=>stK st' λhp' nx'=>sW T.fs fr hp nx hp' nx' stab/\xV o.dst s fr λfr'=>evD T sub fr' hp' nx' k) o.op)
     (xV o.dst (.tup .nil) fr λfr'=>evD T sub fr' hp nx k)) /\
  evD T alt fr hp nx k
def rI(S:List Nat):List Nat->Bool
 | []=>true
 |p::r=>bif dU S p then rI S r else false
theorem oC{S:List Nat}:∀{l:List Nat},rI S l=true↔∀p∈l,p∈S:=by
 intro l;induction l with
 |nil=>simp[rI]
 |cons a r ih =>
  simp only[rI];cases h:dU S a with
  |true=>simp[ih,gA.1 h]
  |false =>
   simp only[cond_false,eR,aR,forall_eq_or_imp,false_iff,not_and]
   grind[gA]
def Cr(I:List cK)(S:List Nat):List cK->Nat->Option (Nat×cK)
 | [],_=>none
 |x::r,i=>bif !x.eff && !dU S i && rI S x.pre then some (i,x)else Cr I S r (i+1)
def tZ(S:List Nat):List cK->Nat->List (Nat×cK)
 | [],_=>[]
 |x::r,i=>bif x.eff && !dU S i && rI S x.pre then (i,x)::tZ S r (i+1)else tZ S r (i+1)
def C5(I:List cK)(tp:Nat):List Nat->List eJ
 | []=>[]
 |j::r=>match I[j]? with
  |some y=>bif !y.eff && pW y.o.op && !tp.testBit j then y.o::C5 I tp r else C5 I tp r
  |none=>C5 I tp r
def uN(f:List Nat->Option fW)(I:List cK)(S:List Nat):List (Nat×cK)->Option fW
 | []=>some .none
 | (e,x)::r=>match f (e::S) with
  |some sub=>match uN f I S r with
   |some alt=>some (.eff e x.o (C5 I x.tp S) sub alt)
   |none=>none
  |none=>none
def upL:Nat->List Nat
 |0=>[]
 |n+1=>n::upL n
def wY(I:List cK):Nat->List Nat->Option fW
 |0,_=>none
 |f+1,S=>bif rI S (upL I.length)then some .done else
  match Cr I S I 0 with
  |some (i,x)=>match wY I f (i::S) with
   |some t=>some (.pure i x.o t)
   |none=>none
  |none=>uN (wY I f) I S (tZ S I 0)
def Closed(I:List cK)(S:List Nat):Prop:=∀i x,I[i]?=some x->x.eff=false->(∀p∈x.pre,p∈S)->i∈S
def jV(I:List cK):Option (List Nat)->List Nat->fW->Prop
 |none,S,.done=>∀i,i<I.length->i∈S
 |none,S,.pure i o rest=>(∃x,I[i]?=some x/\x.o=o/\x.eff=false/\i∉S/\∀p∈x.pre,p∈S)/\jV I none (i::S) rest
 |none,S,.eff e o st sub alt=>Closed I S/\(∃i,i<I.length/\i∉S) /\
   (∃x,I[e]?=some x/\x.o=o/\x.eff=true/\e∉S/\(∀p∈x.pre,p∈S)/\∀j∈S,∀y,I[j]?=some y->y.eff=false->pW y.o.op=true->x.tp.testBit j=false->y.o∈st)/\jV I none (e::S) sub/\jV I (some [e]) S alt
 |none,S,.none=>Closed I S/\(∃i,i<I.length/\i∉S)/\∀e x,I[e]?=some x->x.eff=true->e∉S->(∀p∈x.pre,p∈S)->False
 |some es,S,.eff e o st sub alt =>
   (∃x,I[e]?=some x/\x.o=o/\x.eff=true/\e∉S/\(∀p∈x.pre,p∈S)/\∀j∈S,∀y,I[j]?=some y->y.eff=false->pW y.o.op=true->x.tp.testBit j=false->y.o∈st)/\jV I none (e::S) sub/\jV I (some (e::es)) S alt
 |some es,S,.none=>∀e x,I[e]?=some x->x.eff=true->e∉S->(∀p∈x.pre,p∈S)->e∈es
 |some _,_,_=>False
theorem Px{I:List cK}{tp:Nat}:∀{S:List Nat} {j:Nat} {y:cK},j∈S->I[j]?=some y->y.eff=false->pW y.o.op=true->tp.testBit j=false->y.o∈C5 I tp S:=by
 intro S;induction S with
 |nil=>simp
 |cons a r ih =>
  intro j y h h1 h2 h3 h4;simp only[C5]
  grind
theorem J9{I:List cK}{U:List Nat}:∀{l:List cK} {k i:Nat} {x:cK},Cr I U l k=some (i,x)->∃j,i=k+j/\l[j]?=some x/\x.eff=false/\i∉U/\∀p∈x.pre,p∈U:=by
 intro l;induction l with
 |nil=>intro k i x h; cases h
 |cons a r ih =>
  intro k i x h;simp only[Cr]at h;cases hb:(!a.eff && !dU U k && rI U a.pre) with
  |true =>
   simp only[hb,cond_true,aH,bX]at h;obtain⟨rfl,rfl⟩:=h;simp only[aI,bL]at hb;refine⟨0,rfl,rfl,hb.1.1,?_,oC.1 hb.2⟩
   grind[gA]
  |false =>
   simp only[hb,cond_false]at h;obtain⟨j,e,h1,h2⟩:=ih h;exact⟨j+1,by omega,h1,h2⟩
theorem J8{I:List cK}{U:List Nat}:∀{l:List cK} {k:Nat},Cr I U l k=none->∀j x,l[j]?=some x->x.eff=false->(∀p∈x.pre,p∈U)->k+j∈U:=by
 intro l;induction l with
 |nil=>simp
 |cons a r ih =>
  intro k h j x hj he hp;simp only[Cr]at h;cases hb:(!a.eff && !dU U k && rI U a.pre) with
  |true=>grind
  |false =>
   simp only[hb,cond_false]at h;cases j with
   |zero =>
    simp only[eB,aH]at hj;subst hj;rw[oC.2 hp,he]at hb;simp_all[Bool.not_false,Bool.true_and,Bool.and_true,gA]
   |succ j =>
    grind
theorem Cq{U:List Nat}:∀{l:List cK} {k:Nat} {p:Nat×cK},p∈tZ U l k↔∃j,p.1=k+j/\l[j]?=some p.2/\p.2.eff=true/\p.1∉U/\∀q∈p.2.pre,q∈U:=by
 intro l;induction l with
 |nil=>grind[tZ]
 |cons a r ih =>
  intro k p;simp only[tZ];have tail:(∃j,p.1=k+1+j/\r[j]?=some p.2/\p.2.eff=true/\p.1∉U/\∀q∈p.2.pre,q∈U)↔∃j,p.1=k+(j+1)/\(a::r)[j+1]?=some p.2/\p.2.eff=true/\p.1∉U/\∀q∈p.2.pre,q∈U:=by
   constructor<;>rintro⟨j,h1,h2⟩<;>exact⟨j,by omega,by grind⟩
  cases hb:(a.eff && !dU U k && rI U a.pre) with
  |true =>
   simp only[cond_true,aR,ih,tail];simp only[aI,bL]at hb;constructor
   .rintro (rfl|⟨j,h⟩)
    .refine ⟨0,rfl,rfl,hb.1.1,?_,oC.1 hb.2⟩
     grind[gA]
    grind
   grind
  |false =>
   simp only[cond_false,ih,tail];constructor
   .grind
   .rintro ⟨j,h1,h2,h3,h4,h5⟩;cases j with
    |zero =>
     simp only[eB,aH]at h2
     grind[oC,gA]
    |succ j=>grind
theorem Nk{i:Nat}:∀{n:Nat},i∈upL n↔i<n:=by
 intro n;induction n with
 |zero=>simp[upL]
 |succ n ih=>grind[upL]
theorem N7{I:List cK}{f:List Nat->Option fW}(hf:∀S t,f S=some t->jV I none S t){S:List Nat}:∀(l:List (Nat×cK)) (es:List Nat) (t:fW),uN f I S l=some t ->
  (∀p∈l,I[p.1]?=some p.2/\p.2.eff=true/\p.1∉S/\∀q∈p.2.pre,q∈S)->(∀e x,I[e]?=some x->x.eff=true->e∉S->(∀p∈x.pre,p∈S)->e∈es\/∃p∈l,p.1=e)->jV I (some es) S t:=by
 intro l;induction l with
 |nil =>
  intro es t h _ h2;simp only[uN,aH]at h;subst h;intro e x h3 h4 h5 h6
  grind
 |cons p r ih =>
  obtain⟨e,x⟩:=p;intro es t h h1 h2;simp only[uN]at h;split at h
  .rename_i sub hs;split at h
   .rename_i alt ha;cases h;obtain⟨g1,g2,g3,g4⟩:=h1 (e,x) (aZ ..);refine⟨⟨x,g1,rfl,g2,g3,g4,(by grind[Px])⟩,hf _ _ hs,ih (e::es) alt ha (λp hp=>h1 p (aW _ hp)) ?_⟩
    grind
   .cases h
  .cases h
theorem B6{I:List cK}:∀(f:Nat) (S:List Nat) (t:fW),wY I f S=some t->jV I none S t:=by
 intro f;induction f with
 |zero=>intro S t h; cases h
 |succ f ih =>
  intro S t h;simp only[wY]at h;cases ha:rI S (upL I.length) with
  |true =>
   simp only[ha,cond_true,aH]at h;subst h;exact λi hi=>oC.1 ha i (Nk.2 hi)
  |false =>
   simp only[ha,cond_false]at h;have left:∃i,i<I.length/\i∉S:=by
    refine dP λhn=>?_;have:rI S (upL I.length)=true:=oC.2 λp hp=>dP (by grind[Nk])
    grind
   split at h
   .rename_i i x hn;split at h
    .rename_i t' ht;cases h;obtain⟨j,e,h1,h2,h3,h4⟩:=J9 hn;rw[aP]at e;subst e;exact⟨⟨x,h1,rfl,h2,h3,h4⟩,ih _ _ ht⟩
    .cases h
   .rename_i hn;have hcl:Closed I S:=λi x h1 h2 h3=>by simpa using J8 hn i x h1 h2 h3
    have hmem:∀p∈tZ S I 0,I[p.1]?=some p.2/\p.2.eff=true/\p.1∉S/\∀q∈p.2.pre,q∈S:=by
     simp_all[Cq,Nat.zero_add]
    have hall:∀e x,I[e]?=some x->x.eff=true->e∉S->(∀p∈x.pre,p∈S)->e∈([]:List Nat)\/∃p∈tZ S I 0,p.1=e:=by
     intro e x h1 h2 h3 h4;exact .inr ⟨(e,x),(by grind[Cq]),rfl⟩
    cases hl:tZ S I 0 with
    |nil =>
     rw[hl]at h hall;simp only[uN,aH]at h;subst h;refine⟨hcl,left,λe x h1 h2 h3 h4=>?_⟩;rcases hall e x h1 h2 h3 h4 with hh|⟨p,hp,_⟩
     .cases hh
     .cases hp
    |cons p r =>
     have hc:=N7 ih (tZ S I 0) [] t h hmem hall;rw[hl]at h;obtain⟨e,x⟩:=p;simp only[uN]at h;split at h
     .split at h
      .cases h;exact⟨hcl,left,hc⟩
      .cases h
     .cases h
end Go.Eng
end
section
namespace Go.Eng
open Go Go.RowKit
def fD(o:Oper):List Nat:=(o.after.toList.filter (Region.binds .any)).map (·.on)
def pU(acc:List cK):List Nat->Nat
 | []=>0
 |p::r=>pU acc r ||| (1 <<< p) ||| (match acc[p]? with|some y=>y.tp|none=>0)
def Rk(hint:List Nat)(o:eJ):Bool :=
 match o.op with
 |.call _ _=>match o.dst with
  |some d=>dU hint d
  |none=>true
 |.buildSl _ _ _ _ _=>match o.dst with
  |some d=>dU hint d
  |none=>false
 |.load _ _ _=>match o.dst with
  |some d=>dU hint d
  |none=>false
 |op=>Wh op
def qP(n:Nat):List Nat->Bool
 | []=>true
 |p::r=>bif Nat.blt p n then qP n r else false
def jS(o:eJ):List Nat:=vA o.op++(match o.guard with|some (d,_)=>[d]|none=>[])
def Cu(o:eJ):Bool:=match o.dst with
 |some d=>!dU (jS o) d
 |none=>true
def mkI(hint:List Nat):List Oper->List eJ->List cK->Option (List cK)
 | [],[],acc=>some acc
 |o::r,s::t,acc=>bif qP acc.length (fD o)then bif (Rk hint s || s.dst.isSome) && Cu s then mkI hint r t (acc++[⟨s,fD o,pU acc (fD o),Rk hint s⟩])else none else none
 |_,_,_=>none
def pV(o:eJ):List Nat :=
 vA o.op++(match o.guard with|some (d,_)=>[d]|none=>[])++(match o.dst with|some d=>[d]|none=>[])
def K8(tp i t:Nat):List cK->Nat->Bool
 | [],_=>true
 |y::r,j=>match y.o.dst with
  |some d=>bif Nat.beq d t && !Nat.beq i j && !tp.testBit j then false else K8 tp i t r (j+1)
  |none=>K8 tp i t r (j+1)
def Ti(I:List cK)(tp i:Nat):List Nat->Bool
 | []=>true
 |t::r=>bif K8 tp i t I 0 then Ti I tp i r else false
def Hw(I:List cK):List cK->Nat->Bool
 | [],_=>true
 |x::r,i=>bif Ti I x.tp i (pV x.o)then Hw I r (i+1)else false
def B7(P:Program)(n:Nat)(hint:List Nat)(ops:List Oper):Option fW :=
 bif P.follows .mixedOrders then
  match lV P n ops ops with
  |some sl=>match mkI hint ops sl [] with
   |some I=>bif Hw I I 0 then wY I (I.length+1) []else none
   |none=>none
  |none=>none
 else none
structure DOk(P:Program)(n:Nat)(ops:Array Oper)(I:List cK):Prop where
 len:I.length<=ops.size
 op:∀(i:Nat) (o:Oper),i<I.length->ops[i]?=some o->∃x:cK,I[i]?=some x/\tU P n ops.toList o=some x.o/\x.pre=fD o
 lt:∀(i:Nat) (x:cK),I[i]?=some x->∀p∈x.pre,p<i
 tp:∀(i:Nat) (x:cK),I[i]?=some x->∀j,x.tp.testBit j=true->j∈x.pre\/∃p∈x.pre,∃y,I[p]?=some y/\y.tp.testBit j=true
 nm:∀(i j:Nat) (x y:cK) (t:Nat),I[i]?=some x->I[j]?=some y->t∈pV x.o->y.o.dst=some t->i≠j->x.tp.testBit j=true
 dst:∀(i:Nat) (x:cK),I[i]?=some x->x.eff=false->∃d,x.o.dst=some d
 own:∀(i:Nat) (x:cK),I[i]?=some x->Cu x.o=true
theorem uH{n:Nat}:∀{l:List Nat},qP n l=true->∀p∈l,p<n:=by
 intro l;induction l with
 |nil=>simp
 |cons a r ih =>
  intro h p hp;simp only[qP]at h;cases hb:Nat.blt a n with
  |false=>grind
  |true =>
   simp only[hb,cond_true]at h;rcases aR.1 hp with rfl|hp
   .simp_all
   simp[*]
theorem At{acc:List cK}{j:Nat}:∀{l:List Nat},(pU acc l).testBit j=true->j∈l\/∃p∈l,∃y,acc[p]?=some y/\y.tp.testBit j=true:=by
 intro l;induction l with
 |nil=>grind[pU]
 |cons p r ih =>
  intro h;simp only[pU,Nat.testBit_or,fN]at h
  grind[Nat.one_shiftLeft]
theorem aCm{P:Program}{n:Nat}{ops:List Oper}{hint:List Nat}:∀(l:List Oper) (sl:List eJ) (acc I:List cK) (done rest:List Oper),ops=done++l++rest->lV P n ops l=some sl->mkI hint l sl acc=some I->acc.length=done.length ->
  (∀(i:Nat) (x:cK),acc[i]?=some x->(∃o,done[i]?=some o/\tU P n ops o=some x.o/\x.pre=fD o)/\(∀p∈x.pre,p<i)/\(∀j,x.tp.testBit j=true->j∈x.pre\/∃p∈x.pre,∃y,acc[p]?=some y/\y.tp.testBit j=true)/\(x.eff=false->∃d,x.o.dst=some d)/\Cu x.o=true) ->
  I.length+rest.length=ops.length/\∀(i:Nat) (x:cK),I[i]?=some x->(∃o,ops[i]?=some o/\tU P n ops o=some x.o/\x.pre=fD o)/\(∀p∈x.pre,p<i)/\(∀j,x.tp.testBit j=true->j∈x.pre\/∃p∈x.pre,∃y,I[p]?=some y/\y.tp.testBit j=true)/\(x.eff=false->∃d,x.o.dst=some d)/\Cu x.o=true:=by
 intro l;induction l with
 |nil =>
  intro sl acc I done rest ho hc hm hl hacc;simp only[lV,aH]at hc
  grind[mkI]
 |cons o r ih =>
  intro sl acc I done rest ho hc hm hl hacc;simp only[lV]at hc;split at hc
  .rename_i so sr h1 h2;cases hc;simp only[mkI]at hm;cases hb1:qP acc.length (fD o) with
   |false=>grind
   |true =>
   cases hb2:((Rk hint so || so.dst.isSome) && Cu so) with
   |false=>grind
   |true =>
   simp only[hb1,hb2,cond_true]at hm;simp only[aI]at hb2;refine ih sr _ I (done++[o]) rest (by grind) h2 hm (by simp[hl]) ?_;intro i x hx;have grow:∀{p:Nat} {y:cK},acc[p]?=some y->(acc++[⟨so,fD o,pU acc (fD o),Rk hint so⟩])[p]?=some y:=by
    grind
   by_cases hi:i<acc.length
   .rw [cH hi]at hx;obtain⟨⟨o',e1,e2⟩,e3,e4,e5⟩:=hacc i x hx;refine⟨⟨o',?_,e2⟩,e3,λj hj=>?_,e5⟩
    .grind
    .rcases e4 j hj with h|⟨p,hp,y,hy,hb⟩
     .exact .inl h
     grind
   .rw [dA (by omega)]at hx;have hi0:i-acc.length=0:=by
     grind
    rw[hi0]at hx;simp only[eB,aH]at hx;subst hx;have hil:i=acc.length:=by omega
    subst hil;refine⟨⟨o,?_,h1,rfl⟩,uH hb1,λj hj=>?_,λhe=>?_,hb2.2⟩
    .simp [*]
    .grind [At]
    .have he':Rk hint so=false:=he;have h1:=hb2.1;rw[he']at h1;simp only[gV]at h1;exact Option.isSome_iff_exists.1 h1
  .cases hc
theorem Vm{tp i t:Nat}:∀{l:List cK} {k:Nat},K8 tp i t l k=true->∀(j:Nat) (y:cK),l[j]?=some y->y.o.dst=some t->i≠k+j->tp.testBit (k+j)=true:=by
 intro l;induction l with
 |nil=>simp
 |cons a r ih =>
  intro k h j y hy hd hne;have key:K8 tp i t r (k+1)=true/\(a.o.dst=some t->i≠k->tp.testBit k=true):=by
   simp only[K8]at h;split at h
   .rename_i d had;cases hb:(Nat.beq d t && !Nat.beq i k && !tp.testBit k) with
    |true=>grind
    |false =>
     simp only[hb,cond_false]at h
     grind[Nat.eq_of_beq_eq_true,Nat.beq_refl]
   simp[*]
  cases j with
  |zero =>
   grind
  |succ j =>
   grind
theorem Tj{I:List cK}{tp i:Nat}:∀{l:List Nat},Ti I tp i l=true->∀t∈l,K8 tp i t I 0=true:=by
 intro l;induction l with
 |nil=>simp
 |cons a r ih =>
  intro h t ht;simp only[Ti]at h
  grind
theorem Ux{I:List cK}:∀{l:List cK} {k:Nat},Hw I l k=true->∀(j:Nat) (x:cK),l[j]?=some x->Ti I x.tp (k+j) (pV x.o)=true:=by
 intro l;induction l with
 |nil=>simp
 |cons a r ih =>
  intro k h j x hx;simp only[Hw]at h
  grind
theorem Rf{P:Program}{n:Nat}{hint:List Nat}{ops:Array Oper}{l rest:List Oper}{sl:List eJ}{I:List cK}(hl:ops.toList=l++rest)(hsl:lV P n ops.toList l=some sl)(hI:mkI hint l sl []=some I)(hs:Hw I I 0=true) :
  DOk P n ops I/\I.length=l.length:=by
 obtain⟨h1,h2⟩:=aCm l sl [] I [] rest (by simp[*]) hsl hI rfl (by simp);have h3:I.length=l.length:=by
  grind
 refine⟨⟨?_,?_,(by grind),(by grind),?_,(by grind),(by grind)⟩,h3⟩
 .grind
 .intro i o hlt ho;obtain⟨⟨o',e1,e2,e3⟩,_⟩:=h2 i I[i] (aM hlt)
  grind
 .intro i j x y t hx hy ht hd hne;have:=Vm (Tj (Ux hs i x hx) t ht) j y hy hd (by omega)
  grind
theorem Qw{P:Program}{n:Nat}{hint:List Nat}{ops:Array Oper}{t:fW}(h:B7 P n hint ops.toList=some t):P.follows .mixedOrders=true/\∃I,DOk P n ops I/\I.length=ops.size/\jV I none [] t:=by
 unfold B7 at h;cases hf:P.follows .mixedOrders with
 |false=>grind
 |true =>
 simp only[hf,cond_true]at h;split at h
 .rename_i sl hsl;split at h
  .rename_i I hI;cases hs:Hw I I 0 with
   |false=>grind
   |true =>
   simp only[hs,cond_true]at h;obtain⟨h1,h2⟩:=Rf (rest:=[]) (by simp) hsl hI hs;exact⟨rfl,I,h1,by omega,B6 _ _ _ h⟩
  .cases h
 .cases h
def zT(m:Nat):Nat->Bool
 |0=>true
 |n+1=>bif m.testBit n then zT m n else false
theorem Ir{m:Nat}:∀{n:Nat},zT m n=true->∀i,i<n->m.testBit i=true:=by
 intro n;induction n with
 |zero=>omega
 |succ n ih =>
  intro h i hi;simp only[zT]at h
  grind
def Bg:Nat->List Oper->Bool
 |_,[]=>true
 |n,o::r=>bif dU (fD o) n && qP (n+1) (fD o)then Bg (n+1) r else false
theorem K3:∀{l:List Oper} {n:Nat},Bg n l=true->∀j o,l[j]?=some o->n+j∈fD o/\∀p∈fD o,p<n+j+1:=by
 intro l;induction l with
 |nil=>simp
 |cons a r ih =>
  intro n h j o ho;simp only[Bg]at h;cases hb:(dU (fD a) n && qP (n+1) (fD a)) with
  |false=>grind
  |true =>
   simp only[hb,cond_true]at h;simp only[aI]at hb;cases j with
   |zero =>
    simp only[eB,aH]at ho;subst ho;exact⟨gA.1 hb.1,uH hb.2⟩
   |succ j =>
    grind
def uJ(P:Program)(n:Nat)(hint:List Nat)(ops:List Oper)(k:Nat):Option (fW×List eJ) :=
 bif P.follows .mixedOrders then
  match ops.drop (ops.length-k) with
  |o::r=>match lV P n ops (ops.take (ops.length-k)),lV P n ops (o::r) with
   |some sl,some so=>match mkI hint (ops.take (ops.length-k)) sl [] with
    |some I=>bif Hw I I 0 && qP I.length (fD o) && zT (pU I (fD o)) I.length && Bg I.length r then
      match wY I (I.length+1) [] with
      |some t=>some (t,so)
      |none=>none
     else none
    |none=>none
   |_,_=>none
  | []=>none
 else none
def wZ(P:Program)(n:Nat)(hint:List Nat)(ops:List Oper):Option (fW×List eJ) :=
 match uJ P n hint ops 1 with
 |some r=>some r
 |none=>match uJ P n hint ops 2 with
  |some r=>some r
  |none=>match uJ P n hint ops 3 with
   |some r=>some r
   |none=>uJ P n hint ops 4
theorem Ny{P:Program}{n:Nat}{hint:List Nat}{ops:Array Oper}{t:fW}{so:List eJ}{k:Nat}(h:uJ P n hint ops.toList k=some (t,so)) :
  P.follows .mixedOrders=true/\∃I o r,DOk P n ops I/\ops.toList.drop I.length=o::r/\jV I none [] t/\lV P n ops.toList (o::r)=some so/\(∀p∈fD o,p<I.length)/\(∀i,i<I.length->(pU I (fD o)).testBit i=true) /\
   ∀j o',r[j]?=some o'->I.length+j∈fD o'/\∀p∈fD o',p<I.length+j+1:=by
 unfold uJ at h;cases hf:P.follows .mixedOrders with
 |false=>grind
 |true =>
 simp only[hf,cond_true]at h;split at h
 .rename_i o r ho;split at h
  .rename_i sl so' hsl hso;split at h
   .rename_i I hI;cases hs:(Hw I I 0 && qP I.length (fD o) && zT (pU I (fD o)) I.length && Bg I.length r) with
    |false=>grind
    |true =>
    simp only[hs,cond_true]at h;simp only[aI]at hs;obtain⟨⟨⟨hs1,hs2⟩,hs3⟩,hs4⟩:=hs;split at h
    .rename_i t' ht;simp only[aH,bX]at h;obtain⟨rfl,rfl⟩:=h;have hl:ops.toList=ops.toList.take (ops.toList.length-k)++(o::r):=by rw[<- ho,List.take_append_drop]
     obtain⟨h1,h2⟩:=Rf (rest:=o::r) hl hsl hI hs1;refine⟨rfl,I,o,r,h1,?_,B6 _ _ _ ht,hso,uH hs2,Ir hs3,K3 hs4⟩
     grind
    .cases h
   .cases h
  .cases h
 .cases h
theorem Nx{P:Program}{n:Nat}{hint:List Nat}{ops:Array Oper}{t:fW}{so:List eJ}(h:wZ P n hint ops.toList=some (t,so)):∃k,uJ P n hint ops.toList k=some (t,so):=by
 grind[wZ]
end Go.Eng
end
section
namespace Go.Eng
open Go Go.RowKit
def iU(I:List cK)(i:Nat):Option Nat:=match I[i]? with
 |some x=>x.o.dst
 |none=>none
def eX(I:List cK)(fr0:List (Nat×SV)):List (Nat×SV)->List (Nat×SV)
 | []=>fr0
 | (i,s)::r=>match iU I i with
  |some d=>(d,s)::eX I fr0 r
  |none=>eX I fr0 r
theorem fZ(I:List cK)(fr0 res:List (Nat×SV))(i:Nat)(s:SV)(t:Nat):look (eX I fr0 ((i,s)::res)) t=if iU I i=some t then s else look (eX I fr0 res) t:=by
 grind[eX,iC]
theorem Oz(I:List cK)(fr0:List (Nat×SV))(keep:Nat->Bool){t:Nat}:∀(res:List (Nat×SV)),(∀p∈res,iU I p.1=some t->keep p.1=true)->look (eX I fr0 (res.filter λp=>keep p.1)) t=look (eX I fr0 res) t:=by
 intro res;induction res with
 |nil=>intro _; rfl
 |cons p r ih =>
  obtain⟨i,s⟩:=p;intro h;have ihr:=ih λp hp=>h p (aW _ hp);rw[gL];by_cases hk:keep i=true
  .simp_all [fZ]
  simp_all[fZ]
theorem S4(I:List cK)(fr0:List (Nat×SV)){t i:Nat}{s:SV}:∀(res:List (Nat×SV)),(i,s)∈res->iU I i=some t->(∀p∈res,iU I p.1=some t->p=(i,s))->look (eX I fr0 res) t=s:=by
 intro res;induction res with
 |nil=>simp
 |cons p r ih =>
  grind[fZ]
theorem tK(I:List cK)(fr0:List (Nat×SV)){t:Nat}:∀(res:List (Nat×SV)),(look (eX I fr0 res) t=look fr0 t)\/∃p∈res,iU I p.1=some t/\look (eX I fr0 res) t=p.2:=by
 intro res;induction res with
 |nil=>exact .inl rfl
 |cons p r ih =>
  obtain⟨i,s⟩:=p;rw[fZ];split
  .simp [*]
  grind
theorem qT{fr fr':List (Nat×SV)}(G:Nat->Prop)(hG:∀t,G t->look fr t=look fr' t/\∀d w x,look fr t=.gd d w x->G d):∀(n d:Nat) (w:Bool),G d->(iX fr n d w↔iX fr' n d w):=by
 intro n;induction n with
 |zero=>intro d w _; exact dF
 |succ n ih =>
  intro d w hd;obtain⟨e,hc⟩:=hG d hd;simp only[iX]
  grind
theorem Ef{fr fr':List (Nat×SV)}(G:Nat->Prop)(hG:∀t,G t->look fr t=look fr' t/\∀d w x,look fr t=.gd d w x->G d):∀(n d:Nat) (w:Bool) (Y N:Prop),G d->nJ fr n d w Y N->nJ fr' n d w Y N:=by
 intro n;induction n with
 |zero=>intro d w Y N _ h; exact h
 |succ n ih =>
  grind[nJ]
theorem aA9{tab:List (Nat×fV)}{g:Option (Nat×Bool)}{fr:List (Nat×SV)}{hp hp':List (Nat×aL)}{nx nx':Nat}{so:SOp}(h:pW so=false):evP tab g ⟨fr,hp,nx⟩ so=evP tab g ⟨fr,hp',nx'⟩ so:=by
 cases so<;>first
  | (simp[pW]at h; done)
  | (simp only[evP]; done)
  |rfl
def PF(tab:List (Nat×fV))(fr:List (Nat×SV))(hp:List (Nat×aL))(nx:Nat)(o:eJ)(s:SV):Prop :=
 match o.guard with
 |none=>(∀d w x,s≠.gd d w x)/\(evP tab none ⟨fr,hp,nx⟩ o.op).holds λv=>v=s
 |some (d0,w)=>∃v,s=.gd d0 w v/\match evP tab (some (d0,w)) ⟨fr,hp,nx⟩ o.op with
  |.ok u=>u=v
  |.side p u=>(iX fr 10 d0 w->p)/\u=v
  |.fail=>v=.junk/\¬iX fr 10 d0 w
theorem Qa{tab:List (Nat×fV)}{fr fr':List (Nat×SV)}{hp hp':List (Nat×aL)}{nx nx':Nat}{o:eJ}{s:SV}(h:PF tab fr hp nx o s)(he:evP tab o.guard ⟨fr,hp,nx⟩ o.op=evP tab o.guard ⟨fr',hp',nx'⟩ o.op)
  (hg:∀d0 w,o.guard=some (d0,w)->(iX fr 10 d0 w↔iX fr' 10 d0 w)):PF tab fr' hp' nx' o s:=by
 unfold PF at *
 split at h
 .grind
 grind
section
variable {P:Program} {C:Ctx} {ro:Option Nat}
theorem Ik{E:Env}{t:Array Value}{d:Nat}{v:Value}{s:SV}{x:Value}(hs:∀d' w y,s=.gd d' w y->d'≠d)(h:fJ E t s x):fJ E (t.setIfInBounds d v) s x:=by
 cases s with
 |gd d' w y =>
  have:d'≠d:=hs _ _ _ rfl
  grind[fJ,eU]
 |_=>exact h
theorem cR.set'{μ:Nat->Option (Nat×Nat)}{fr fr':List (Nat×SV)}{hp:List (Nat×aL)}{nx:Nat}{a:Act}{w:World}(h:cR C μ ⟨fr,hp,nx⟩ a w){d:Nat}(hd:d<C.n)(hl:∀t d' w y,look fr t=.gd d' w y->d'≠d){s:SV}{v:Value}
  (hs:fJ (aG C μ hp w) (a.tmps.setIfInBounds d v) s v) (hfr:∀t,look fr' t=if d=t then s else look fr t):cR C μ ⟨fr',hp,nx⟩ (a.put (some d) v) w where
 size:=by simp[Act.put,h.size]
 defers:=h.defers
 fr:=by
  intro n;simp only[Act.put];rw[hfr];by_cases hn:d=n
  .subst hn;rw[if_pos rfl,pQ _ _ _ (by rw[h.size]; exact hd)];exact hs
  .rw [if_neg hn,eU _ _ _ _ (fR hn)];exact Ik (by grind) (h.fr n)
 hep:=h.hep
 le:=h.le
 kd:=h.kd
structure nR(I:List cK)(T:Tb)(K:St->Prop)(fr0:List (Nat×SV))(C:Ctx)(res:List (Nat×SV))(keep:Nat->Bool)(t:fW)(hp:List (Nat×aL))(nx:Nat)(μ:Nat->Option (Nat×Nat))(a:Act)(w:World):Prop where
 ev:evD T t (eX I fr0 res) hp nx K
 tr:jV I none (res.map (·.1)) t
 nd:(res.map (·.1)).Nodup
 inI:∀p∈res,∃x,I[p.1]?=some x
 dS:∀p∈res,∀x,I[p.1]?=some x->∀q∈x.pre,q∈res.map (·.1)
 kS:∀i,keep i=true->i∈res.map (·.1)
 kE:∀p∈res,∀x,I[p.1]?=some x->x.eff=true->keep p.1=true
 kD:∀i x,keep i=true->I[i]?=some x->∀q∈x.pre,keep q=true
 gd:∀p∈res,∀d w v,p.2=.gd d w v->∃x,I[p.1]?=some x/\x.o.guard=some (d,w)
 pf:∀p∈res,∀x,I[p.1]?=some x->x.eff=false->keep p.1=false->PF T.fs (eX I fr0 res) hp nx x.o p.2
 rep:cR C μ ⟨eX I fr0 (res.filter λp=>keep p.1),hp,nx⟩ a w
theorem Jc{o:eJ}{d:Nat}{w:Bool}(h:o.guard=some (d,w)):d∈pV o:=by simp[pV,h]
theorem Gb{o:eJ}{d:Nat}(h:o.dst=some d):d∈pV o:=by simp[pV,h]
variable {ops:Array Oper} {I:List cK}
theorem DOk.Z7(hI:DOk P C.n ops I):∀(i:Nat) (x:cK) (j:Nat),I[i]?=some x->x.tp.testBit j=true->j<i:=by
 intro i;induction i using Nat.strongRecOn with
 |_ i ih =>
  intro x j hx hb;rcases hI.tp i x hx j hb with h|⟨p,hp,y,hy,hb'⟩
  .exact hI.lt i x hx j h
  .have h1:=hI.lt i x hx p hp
   grind
theorem DOk.Ve(hI:DOk P C.n ops I){S:Nat->Prop}(hS:∀i x,S i->I[i]?=some x->∀q∈x.pre,S q):∀(i:Nat) (x:cK) (j:Nat),I[i]?=some x->(∀q∈x.pre,S q)->x.tp.testBit j=true->S j:=by
 intro i;induction i using Nat.strongRecOn with
 |_ i ih =>
  intro x j hx hp hb;rcases hI.tp i x hx j hb with h|⟨p,hpp,y,hy,hb'⟩
  .exact hp j h
  .exact ih p (hI.lt i x hx p hpp) y j hy (by grind) hb'
theorem DOk.uniq(hI:DOk P C.n ops I){i j:Nat}{t:Nat}(hi:iU I i=some t)(hj:iU I j=some t):i=j:=by
 unfold iU at hi hj;split at hi
 .rename_i x hx;split at hj
  .rename_i y hy;refine dP λhne=>?_;have h1:=hI.Z7 i x j hx (hI.nm i j x y t hx hy (Gb hi) hj hne);have h2:=hI.Z7 j y i hy (hI.nm j i y x t hy hx (Gb hj) hi (fR hne));omega
  .cases hj
 .cases hi
theorem DOk.named(hI:DOk P C.n ops I){S:Nat->Prop}(hS:∀i x,S i->I[i]?=some x->∀q∈x.pre,S q){i:Nat}{x:cK}(hx:I[i]?=some x)(hp:∀q∈x.pre,S q){t j:Nat}(ht:t∈pV x.o)(hj:iU I j=some t):i=j\/S j:=by
 by_cases hij:i=j
 .omega
 .right;unfold iU at hj;split at hj
  .rename_i y hy;exact hI.Ve hS i x j hx hp (hI.nm i j x y t hx hy ht hj hij)
  .cases hj
theorem xT{o:eJ}{t:Nat}(h:t∈jS o):t∈pV o:=by
 grind[jS,pV]
theorem DOk.aC0(hI:DOk P C.n ops I){i:Nat}{x:cK}(hx:I[i]?=some x){t:Nat}(ht:t∈jS x.o):iU I i≠some t:=by
 intro e;unfold iU at e;rw[hx]at e;have:=hI.own i x hx
 grind[Cu,gA]
theorem G3(I:List cK)(fr0:List (Nat×SV))(k1 k2:Nat->Bool){t:Nat}:∀(res:List (Nat×SV)),(∀p∈res,iU I p.1=some t->k1 p.1=k2 p.1)->look (eX I fr0 (res.filter λp=>k1 p.1)) t=look (eX I fr0 (res.filter λp=>k2 p.1)) t:=by
 intro res;induction res with
 |nil=>intro _; rfl
 |cons p r ih =>
  obtain⟨i,s⟩:=p;intro h;have ihr:=ih λp hp=>h p (aW _ hp);rw[gL,gL];by_cases hd:iU I i=some t
  .have:=h (i,s) (aZ ..) hd;simp only at this;simp only;rw[this];split
   .rw [fZ,fZ,ihr]
   .exact ihr
  .have e1:∀(b:Bool) (l:List (Nat×SV)),look (eX I fr0 (if b=true then (i,s)::l else l)) t=look (eX I fr0 l) t:=by
    intro b l;cases b with
    |true=>rw[if_pos rfl,fZ,if_neg hd]
    |false=>rfl
   simp[*]
theorem Xp:∀{res:List (Nat×SV)},(res.map (·.1)).Nodup->∀{i:Nat} {s s':SV},(i,s)∈res->(i,s')∈res->s=s':=by
 intro res;induction res with
 |nil=>simp
 |cons p r ih =>
  grind
section
variable {T:Tb} {K:St->Prop} {fr0:List (Nat×SV)} {res:List (Nat×SV)} {keep:Nat->Bool} {t:fW} {hp:List (Nat×aL)} {nx:Nat} {μ:Nat->Option (Nat×Nat)} {a:Act} {w:World}
theorem nR.M5(hI:DOk P C.n ops I)(h0:gR fr0 [])(h:nR I T K fr0 C res keep t hp nx μ a w){i:Nat}(hi:i∉res.map (·.1)){s:SV}{hp':List (Nat×aL)}{nx':Nat}{p:Nat×SV}(hp1:p∈res){x:cK}(hx:I[p.1]?=some x)(hpf:PF T.fs (eX I fr0 res) hp nx x.o p.2)
  (he:evP T.fs x.o.guard ⟨eX I fr0 res,hp',nx'⟩ x.o.op=evP T.fs x.o.guard ⟨eX I fr0 res,hp,nx⟩ x.o.op):PF T.fs (eX I fr0 ((i,s)::res)) hp' nx' x.o p.2:=by
 have hS:∀j y,j∈res.map (·.1)->I[j]?=some y->∀q∈y.pre,q∈res.map (·.1):=by
  intro j y hj hy;obtain⟨q,hq,rfl⟩:=cD.1 hj;exact h.dS q hq y hy
 have same:∀{j:Nat} {y:cK} {t:Nat},j∈res.map (·.1)->I[j]?=some y->t∈jS y.o->look (eX I fr0 res) t=look (eX I fr0 ((i,s)::res)) t:=by
  intro j y t hj hy ht;rw[fZ,if_neg];intro hd;rcases hI.named (S:=λq=>q∈res.map (·.1)) hS hy (hS j y hj hy) (xT ht) hd with e|e
  .grind
  grind
 have hpm:p.1∈res.map (·.1):=(by grind);refine Qa hpf ?_ ?_
 .rw [<- he];exact xE λq hq=>same hpm hx (by unfold jS; exact dY _ hq)
 .intro d0 wt hg;refine qT (λt=>∃j y,j∈res.map (·.1)/\I[j]?=some y/\t∈jS y.o) ?_ 10 d0 wt ⟨p.1,x,hpm,hx,by grind[jS]⟩;rintro t ⟨j,y,hj,hy,ht⟩;refine⟨same hj hy ht,λd wl v hl=>?_⟩;rcases tK I fr0 (t:=t) res with e|⟨q,hq,hqd,e⟩
  .rw [e]at hl;have:=h0 _ _ _ _ hl;simp_all[dU]
  .rw [e]at hl;obtain⟨z,hz,hzg⟩:=h.gd q hq d wl v hl;exact⟨q.1,z,(by grind),hz,by grind[jS]⟩
theorem nR.adv(hI:DOk P C.n ops I)(h0:gR fr0 []){i:Nat}{o:eJ}{rest:fW}(h:nR I T K fr0 C res keep (.pure i o rest) hp nx μ a w):∃s,nR I T K fr0 C ((i,s)::res) keep rest hp nx μ a w:=by
 obtain⟨⟨x,hx,hxo,hxe,hiS,hpre⟩,htr⟩:=h.tr;have hki:keep i=false:=by
  cases e:keep i with
  |false=>rfl
  |true=>exact absurd (h.kS i e) hiS
 obtain⟨d,hd⟩:=hI.dst i x hx hxe;have hdi:iU I i=some d:=by grind[iU]
 have hown:∀t∈jS x.o,d≠t:=by
  intro t ht e;exact hI.aC0 hx ht (by rw[hdi,e])
 -- whatever is found
 have fin:∀s,evD T rest ((d,s)::eX I fr0 res) hp nx K->(∀d w v,s=.gd d w v->x.o.guard=some (d,w))->PF T.fs (eX I fr0 res) hp nx x.o s->nR I T K fr0 C ((i,s)::res) keep rest hp nx μ a w:=by
  intro s hev hgd hpf;have hfrc:eX I fr0 ((i,s)::res)=(d,s)::eX I fr0 res:=by grind[eX]
  refine⟨by simp[*],htr,?_,?_,?_,?_,?_,h.kD,?_,?_,?_⟩
  .simp only [bK,fQ]; exact⟨hiS,h.nd⟩
  .intro p hp;rcases aR.1 hp with rfl|hp
   .simp [*]
   .exact h.inI p hp
  .intro p hp y hy q hq;rcases aR.1 hp with rfl|hp
   .grind
   .exact aW _ (h.dS p hp y hy q hq)
  .intro j hj; exact aW _ (h.kS j hj)
  .intro p hp y hy he;rcases aR.1 hp with rfl|hp
   .grind
   .exact h.kE p hp y hy he
  .intro p hp d' w' v e;rcases aR.1 hp with rfl|hp
   .grind
   .exact h.gd p hp d' w' v e
  .intro p hp1 y hy he hk;rcases aR.1 hp1 with rfl|hp1
   .rw [hx]at hy;cases hy;refine Qa hpf ?_ ?_
    .exact xE λq hq=>by simp_all[iC,jS]
    .intro d0 wt hg;have hlk:∀t∈jS x.o,look (eX I fr0 res) t=look (eX I fr0 ((i,s)::res)) t:=λt ht=>by simp_all[iC]
     have hS:∀j y,j∈res.map (·.1)->I[j]?=some y->∀q∈y.pre,q∈res.map (·.1):=by
      intro j y hj hy;obtain⟨q,hq,rfl⟩:=cD.1 hj;exact h.dS q hq y hy
     refine qT (λt=>t∈jS x.o\/∃j y,j∈res.map (·.1)/\I[j]?=some y/\t∈jS y.o) ?_ 10 d0 wt (by grind[jS]);intro t ht;refine⟨?_,λd' wl v hl=>?_⟩
     .rcases ht with ht|⟨j,y,hj,hy,ht⟩
      .grind
      .rw [hfrc,iC,if_neg];intro hdt;subst hdt;rcases hI.named (S:=λq=>q∈res.map (·.1)) hS hy (hS j y hj hy) (xT ht) hdi with e|e
       .grind
       grind
     .rcases tK I fr0 (t:=t) res with e|⟨q,hq,hqd,e⟩
      .rw [e]at hl;have:=h0 _ _ _ _ hl;simp_all[dU]
      .rw [e]at hl;obtain⟨z,hz,hzg⟩:=h.gd q hq d' wl v hl;exact .inr ⟨q.1,z,(by grind),hz,by grind[jS]⟩
   .exact h.M5 hI h0 hiS hp1 hy (h.pf p hp1 y hy he hk) rfl
  .rw [gL,if_neg (by simp[hki])];exact h.rep
 have hev:=h.ev;simp only[evD]at hev;rw[<- hxo,hd]at hev;simp only at hev;split at hev
 .rename_i hg;split at hev
  .exact hev.elim
  .rename_i v hv;simp only[kG,fA]at hev;split at hev
   .exact hev.elim
   .rename_i hng;refine⟨v,fin v hev (by grind) ?_⟩;unfold PF;rw[hg];exact⟨hng,by rw[hv]; rfl⟩
  .rename_i p v hv;simp only[kG,fA]at hev;obtain⟨hp1,hev⟩:=hev;split at hev
   .exact hev.elim
   .rename_i hng;refine⟨v,fin v hev (by grind) ?_⟩;unfold PF;rw[hg];exact⟨hng,by rw[hv]; exact⟨hp1,rfl⟩⟩
 .rename_i d0 wt hg;split at hev
  .rename_i hv;obtain⟨hnp,hev⟩:=hev;refine⟨_,fin _ hev (by grind) ?_⟩;unfold PF
   grind
  .rename_i v hv;rw[fA]at hev;refine⟨_,fin _ hev (by grind) ?_⟩;unfold PF
   grind
  .rename_i p v hv;obtain⟨hnp,hev⟩:=hev;rw[fA]at hev;refine⟨_,fin _ hev (by grind) ?_⟩;unfold PF
   grind
end
end
end Go.Eng
end
