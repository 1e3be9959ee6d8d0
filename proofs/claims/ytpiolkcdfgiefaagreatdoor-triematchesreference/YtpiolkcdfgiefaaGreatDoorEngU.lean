/- A part of the proof. -/
import Derived.Test.YtpiolkcdfgiefaaGreatDoorEngZ
import Derived.Sort.LoopGhostIn
import Derived.RangeFuncRecord
section
namespace Go.Eng
open Go Go.RowKit
section
variable {P:Program} {C:Ctx} {ro:Option Nat} {ops:Array Oper} {I:List cK}
variable {T:Tb} {K:St->Prop} {fr0:List (Nat×SV)} {res:List (Nat×SV)} {keep:Nat->Bool} {t:fW} {hp:List (Nat×aL)} {nx:Nat} {μ:Nat->Option (Nat×Nat)} {a:Act} {w:World}
def plus(keep:Nat->Bool)(i:Nat):Nat->Bool:=λj=>j == i || keep j
theorem nR.look(hI:DOk P C.n ops I)(h0:gR fr0 [])(h:nR I T K fr0 C res keep t hp nx μ a w){i:Nat}{x:cK}(hx:I[i]?=some x)(hpre:∀q∈x.pre,keep q=true) :
  (∀t∈jS x.o,Eng.look (eX I fr0 res) t=Eng.look (eX I fr0 (res.filter λp=>keep p.1)) t) /\
  (∀d w,x.o.guard=some (d,w)->∃G:Nat->Prop,G d/\∀t,G t->Eng.look (eX I fr0 res) t=Eng.look (eX I fr0 (res.filter λp=>keep p.1)) t/\∀d' w' v,Eng.look (eX I fr0 res) t=.gd d' w' v->G d'):=by
 have hS:∀j y,keep j=true->I[j]?=some y->∀q∈y.pre,keep q=true:=h.kD;have same:∀{j:Nat} {y:cK} {t:Nat},I[j]?=some y->(∀q∈y.pre,keep q=true)->t∈jS y.o->Eng.look (eX I fr0 res) t=Eng.look (eX I fr0 (res.filter λp=>keep p.1)) t/\∀p∈res,iU I p.1=some t->keep p.1=true:=by
  intro j y t hy hp ht;have hk:∀p∈res,iU I p.1=some t->keep p.1=true:=by
   intro p _ hd;rcases hI.named (S:=λq=>keep q=true) hS hy hp (xT ht) hd with e|e
   .subst e; exact absurd hd (hI.aC0 hy ht)
   .exact e
  exact⟨(Oz I fr0 keep res hk).symm,hk⟩
 refine⟨(by grind),λd wt hg=>⟨λt=>∃j y,I[j]?=some y/\(∀q∈y.pre,keep q=true)/\t∈jS y.o,⟨i,x,hx,hpre,by grind[jS]⟩,?_⟩⟩;rintro t ⟨j,y,hy,hp,ht⟩;obtain⟨e1,e2⟩:=same hy hp ht;refine⟨e1,λd' w' v hl=>?_⟩;rcases tK I fr0 (t:=t) res with e|⟨q,hq,hqd,e⟩
 .rw [e]at hl;have:=h0 _ _ _ _ hl;simp_all[dU]
 .rw [e]at hl;obtain⟨z,hz,hzg⟩:=h.gd q hq d' w' v hl
  grind[jS]
theorem nR.free(hI:DOk P C.n ops I)(h0:gR fr0 [])(h:nR I T K fr0 C res keep t hp nx μ a w){i d:Nat}(hd:iU I i=some d)(hk:keep i=false):∀t d' w' y,Eng.look (eX I fr0 (res.filter λp=>keep p.1)) t=.gd d' w' y->d'≠d:=by
 intro t d' w' y hl e;subst e;rcases tK I fr0 (t:=t) (res.filter λp=>keep p.1)with e|⟨q,hq,hqd,e⟩
 .rw [e]at hl;have:=h0 _ _ _ _ hl;simp_all[dU]
 .rw [e]at hl;obtain⟨hq1,hq2⟩:=fP.1 hq;obtain⟨z,hz,hzg⟩:=h.gd q hq1 d' w' y hl;rcases hI.named (S:=λq=>keep q=true) h.kD hz (h.kD q.1 z hq2 hz) (t:=d') (j:=i) (Jc hzg) hd with e|e
  .grind
  grind
theorem O0(hI:DOk P C.n ops I)(hnd:(res.map (·.1)).Nodup){i d:Nat}{s:SV}(hm:(i,s)∈res)(hd:iU I i=some d):∀t,Eng.look (eX I fr0 (res.filter λp=>plus keep i p.1)) t=if d=t then s else Eng.look (eX I fr0 (res.filter λp=>keep p.1)) t:=by
 intro t;by_cases e:d=t
 .subst e;rw[if_pos rfl];refine S4 I fr0 _ (by grind[plus]) hd ?_;intro p hp hpd;have:=hI.uniq hpd hd
  grind[Xp]
 .rw [if_neg e];refine G3 I fr0 (plus keep i) keep res ?_
  grind[plus]
theorem Ua(a:Act)(v:Value):a.put none v=a:=rfl
theorem Pz(htab:wU P C T)(hI:DOk P C.n ops I)(h0:gR fr0 [])(h:nR I T K fr0 C res keep t hp nx μ a w){i:Nat}{o:Oper}{x:cK}(ho:ops[i]?=some o)(hx:I[i]?=some x)(hco:tU P C.n ops.toList o=some x.o)(hxe:x.eff=false)
  (hm:i∈res.map (·.1)) (hk:keep i=false) (hpre:∀q∈x.pre,keep q=true) {Q:Exit->Act->World->Prop} :
  wpOpIn (WF ro) 0 P ops Q i (λa' w'=>∃μ',nR I T K fr0 C res (plus keep i) t hp nx μ' a' w') a w:=by
 obtain⟨⟨i',s⟩,hp1,rfl⟩:=cD.1 hm;simp only at hx ho hk hpre hm ⊢;have hpf:=h.pf _ hp1 x hx hxe hk;simp only at hpf;obtain⟨d,hd⟩:=hI.dst i' x hx hxe;have hdi:iU I i'=some d:=by grind[iU]
 obtain⟨hlk,hgk⟩:=h.look hI h0 hx hpre
 -- what is known,at the slots that have been written
 have hpf':PF T.fs (eX I fr0 (res.filter λp=>keep p.1)) hp nx x.o s:=by
  refine Qa hpf (xE λq hq=>hlk q (by unfold jS; exact dY _ hq)) ?_;intro d0 wt hg;obtain⟨G,g1,g2⟩:=hgk d0 wt hg;exact qT G g2 10 d0 wt g1
 -- the translation
 unfold tU at hco;split at hco;rotate_left
 .cases hco
 rename_i sop g h3 h4;cases hdst:Lm C.n o.dst with
 |false=>grind
 |true =>
 simp only[hdst,cond_true,aH]at hco;rw[<- hco]at hd hpf';have hodst:o.dst=some d:=hd;have hnd:∀c,o.op≠.defer c:=by
  grind[cOp]
 have hdn:d<C.n:=by
  rw[hodst]at hdst;have h1:Nat.ble (d+1) C.n=true:=hdst;exact aQ h1
 have fin:∀w' v,Below w.heap.size w w'->fJ (aG C μ hp w') (a.tmps.setIfInBounds d v) s v->∃μ',nR I T K fr0 C res (plus keep i') t hp nx μ' (a.put o.dst v) w':=by
  intro w' v hb hs;rw[hodst];refine⟨μ,⟨h.ev,h.tr,h.nd,h.inI,h.dS,?_,?_,?_,h.gd,?_,?_⟩⟩
  .intro j hj;unfold plus at hj;rcases gP.1 hj with e|e
   .grind
   .exact h.kS j e
  .intro p hp2 y hy he;unfold plus;rw[h.kE p hp2 y hy he]; simp
  .intro j y hj hy q hq;unfold plus at hj ⊢;rcases gP.1 hj with e|e
   .grind
   .rw [h.kD j y e hy q hq]; simp
  .intro p hp2 y hy he hkp;unfold plus at hkp;exact h.pf p hp2 y hy he (cZ.1 hkp).2
  .exact (h.rep.below hb).set' hdn (h.free hI h0 hdi hk) hs (O0 hI h.nd hp1 hdi)
 unfold wpOpIn;simp only[ho];unfold PF at hpf';cases g with
 |none =>
  simp only at hpf';have hw:Region.wanted o (yielded ops a.tmps)=true:=(fU h4).2 (λ_ _ e=>by cases e);rw[if_pos hw];refine jQ hnd ?_;obtain⟨s',hs',hdo⟩:=tD htab.fs (htab.g.at h.rep.hep.frm) h.rep (g:=none) (λ_ _ e=>by cases e) h3 hpf'.2;refine hdo.mono ?_;simp_all[qO]
 |some gw =>
  obtain⟨d0,wt⟩:=gw;obtain⟨v0,hs0,hpf'⟩:=hpf';have hne:d0≠d:=by
   rintro rfl;exact hI.aC0 hx (t:=d0) (by grind[jS]) hdi
  by_cases hw:Region.wanted o (yielded ops a.tmps)=true
  .have hg:=(fU h4).1 hw;have hgd:a.tmps.getD d0 undef=.bool wt:=hg d0 wt rfl;have hgp:=qU h.rep.fr 10 d0 wt hgd;rw[if_pos hw];have he':(evP T.fs (some (d0,wt)) ⟨eX I fr0 (res.filter λp=>keep p.1),hp,nx⟩ sop).holds (λu=>u=v0):=by
    simp only at hpf';split at hpf'
    .rename_i u hu; rw[hu]; exact hpf'
    .rename_i p u hu; rw[hu]; exact⟨hpf'.1 hgp,hpf'.2⟩
    grind
   refine jQ hnd ?_;obtain⟨s',hs',hdo⟩:=tD htab.fs (htab.g.at h.rep.hep.frm) h.rep hg h3 he';refine hdo.mono ?_;rintro v w' ⟨hb,hr⟩;subst hs';refine fin w' v hb ?_;rw[hs0];simp only[fJ];rw[eU _ _ _ _ hne,hgd];simp[*]
  .have hg:¬a.tmps.getD d0 undef=.bool wt:=by
    intro e;exact hw ((fU h4).2 (λd' w' e'=>by cases e'; exact e))
   rw[if_neg hw];refine⟨λf _=>yC ro f,fin w undef (Below.refl _ _) ?_⟩;rw[hs0];simp only[fJ];rw[eU _ _ _ _ hne]
   grind
def E2(T:Tb)(o:eJ)(stab:List eJ)(sub:fW)(fr:List (Nat×SV))(hp:List (Nat×aL))(nx:Nat)(k:St->Prop):Prop :=
 match o.guard with
 |none=>evE T none ⟨fr,hp,nx⟩ (λs st'=>stK st' λhp' nx'=>sW T.fs fr hp nx hp' nx' stab/\xV o.dst s fr λfr'=>evD T sub fr' hp' nx' k) o.op
 |some (d0,w)=>nJ fr 10 d0 w (evE T (some (d0,w)) ⟨fr,hp,nx⟩ (λs st'=>stK st' λhp' nx'=>sW T.fs fr hp nx hp' nx' stab/\xV o.dst s fr λfr'=>evD T sub fr' hp' nx' k) o.op)
   (xV o.dst (.tup .nil) fr λfr'=>evD T sub fr' hp nx k)
theorem Iy{S:List Nat}{fr:List (Nat×SV)}{i:Nat}{x:cK}(hx:I[i]?=some x)(hxe:x.eff=true)(hi:i∉S)(hp0:∀p∈x.pre,p∈S):∀(t:fW) (es:List Nat),i∉es->jV I (some es) S t->evD T t fr hp nx K ->
  ∃stab sub,E2 T x.o stab sub fr hp nx K/\(∀j∈S,∀y,I[j]?=some y->y.eff=false->pW y.o.op=true->x.tp.testBit j=false->y.o∈stab)/\jV I none (i::S) sub:=by
 intro t;induction t with
 |done=>intro es _ h; exact h.elim
 |pure=>intro es _ h; exact h.elim
 |none=>intro es he h _; exact absurd (h i x hx hxe hi hp0) he
 |eff e o stab sub alt _ iha =>
  intro es he h hev;obtain⟨⟨y,hy,hyo,hye,hyS,hyp,hst⟩,hsub,halt⟩:=h;obtain⟨hn,hea⟩:=hev;by_cases hei:e=i
  .subst hei;rw[hx]at hy;cases hy;subst hyo;exact⟨stab,sub,hn,hst,hsub⟩
  grind
theorem Py{tab:List (Nat×fV)}{fr:List (Nat×SV)}{hp':List (Nat×aL)}{nx':Nat}:∀{l:List eJ},sW tab fr hp nx hp' nx' l->∀o∈l,evP tab o.guard ⟨fr,hp',nx'⟩ o.op=evP tab o.guard ⟨fr,hp,nx⟩ o.op:=by
 intro l;induction l with
 |nil=>simp
 |cons b r ih =>
  intro h o ho;rcases aR.1 ho with rfl|ho
  .exact h.1
  .exact ih h.2 o ho
theorem U4(htab:wU P C T)(hI:DOk P C.n ops I)(h0:gR fr0 [])(h:nR I T K fr0 C res keep t hp nx μ a w){i:Nat}{o:Oper}{x:cK}(ho:ops[i]?=some o)(hx:I[i]?=some x)(hco:tU P C.n ops.toList o=some x.o)(_hxe:x.eff=true)
  (hm:i∉res.map (·.1)) (hpre:∀q∈x.pre,keep q=true) {stab:List eJ} {sub:fW} (hev:E2 T x.o stab sub (eX I fr0 res) hp nx K)
  (hst:∀j∈res.map (·.1),∀y,I[j]?=some y->y.eff=false->pW y.o.op=true->x.tp.testBit j=false->y.o∈stab) (htr:jV I none (i::res.map (·.1)) sub) {Q:Exit->Act->World->Prop} :
  wpOpIn (WF ro) 0 P ops Q i (λa' w'=>∃res' t' hp' nx' μ',nR I T K fr0 C res' (plus keep i) t' hp' nx' μ' a' w') a w:=by
 have hk:keep i=false:=by
  cases e:keep i with
  |false=>rfl
  |true=>exact absurd (h.kS i e) hm
 obtain⟨hlk,hgk⟩:=h.look hI h0 hx hpre;have hag:Agree (vA x.o.op) (eX I fr0 res) (eX I fr0 (res.filter λp=>keep p.1)):=λq hq=>hlk q (by unfold jS; exact dY _ hq);have hfilt:∀s,((i,s)::res).filter (λp=>plus keep i p.1)=(i,s)::res.filter (λp=>keep p.1):=by
  intro s;rw[gL,if_pos (by simp[plus])];congr 1;refine List.filter_congr λp hp1=>?_;unfold plus
  grind
 -- what follows
 have fin:∀(s:SV) (hp':List (Nat×aL)) (nx':Nat) (μ':Nat->Option (Nat×Nat)) (v:Value) (w':World),(∀p∈res,∀y,I[p.1]?=some y->y.eff=false->keep p.1=false->evP T.fs y.o.guard ⟨eX I fr0 res,hp',nx'⟩ y.o.op=evP T.fs y.o.guard ⟨eX I fr0 res,hp,nx⟩ y.o.op) ->
   cR C μ' ⟨eX I fr0 (res.filter λp=>keep p.1),hp',nx'⟩ a w'->R (aG C μ' hp' w') s [v]->(∀d,x.o.dst=some d->d<C.n) ->
   xV x.o.dst s (eX I fr0 res) (λfr'=>evD T sub fr' hp' nx' K)->∃res' t' hp'' nx'' μ'',nR I T K fr0 C res' (plus keep i) t' hp'' nx'' μ'' (a.put x.o.dst v) w':=by
  intro s hp' nx' μ' v w' hstab hrep hR hdn hsx;have mk:∀(s:SV) (hev':evD T sub (eX I fr0 ((i,s)::res)) hp' nx' K) (hgd:∀d w v,s=.gd d w v->False) (hrep':cR C μ' ⟨eX I fr0 ((i,s)::res.filter λp=>keep p.1),hp',nx'⟩ (a.put x.o.dst v) w'),
    ∃res' t' hp'' nx'' μ'',nR I T K fr0 C res' (plus keep i) t' hp'' nx'' μ'' (a.put x.o.dst v) w':=by
   intro s hev' hgd hrep';refine⟨(i,s)::res,sub,hp',nx',μ',⟨hev',htr,?_,?_,?_,?_,?_,?_,?_,?_,by simp[*]⟩⟩
   .simp only [bK,fQ]; exact⟨hm,h.nd⟩
   .intro p hp2;rcases aR.1 hp2 with rfl|hp2
    .simp [*]
    .exact h.inI p hp2
   .intro p hp2 y hy q hq;rcases aR.1 hp2 with rfl|hp2
    .rw [hx]at hy; cases hy;exact aW _ (h.kS q (hpre q hq))
    .exact aW _ (h.dS p hp2 y hy q hq)
   .intro j hj;unfold plus at hj;rcases gP.1 hj with e|e
    .grind
    .exact aW _ (h.kS j e)
   .intro p hp2 y hy he;unfold plus;rcases aR.1 hp2 with rfl|hp2
    .simp
    .rw [h.kE p hp2 y hy he]; simp
   .intro j y hj hy q hq;unfold plus at hj ⊢;rcases gP.1 hj with e|e
    .grind
    .rw [h.kD j y e hy q hq]; simp
   .intro p hp2 d w v e;rcases aR.1 hp2 with rfl|hp2
    .grind
    .exact h.gd p hp2 d w v e
   .intro p hp2 y hy he hkp;unfold plus at hkp;obtain⟨k1,k2⟩:=cZ.1 hkp;rcases aR.1 hp2 with rfl|hp2
    .simp at k1
    .exact h.M5 hI h0 hm hp2 hy (h.pf p hp2 y hy he k2) (by grind)
  unfold xV at hsx;split at hsx
  .rename_i hd;have hdi:iU I i=none:=by grind[iU]
   have e1:∀r,eX I fr0 ((i,.junk)::r)=eX I fr0 r:=(by grind[eX]);refine mk .junk (by simp[*]) (by grind) ?_
   grind[Ua]
  .rename_i d hd;simp only[kG,fA]at hsx;split at hsx
   .exact hsx.elim
   .rename_i hng;have hdi:iU I i=some d:=by grind[iU]
    have e2:∀r,eX I fr0 ((i,s)::r)=(d,s)::eX I fr0 r:=(by grind[eX]);refine mk _ (by rw[e2]; exact hsx) (λd w v e=>hng d w v e) ?_;rw[hd];refine hrep.set' (hdn d hd) (h.free hI h0 hdi hk) (qO hR hng) ?_
    grind[iC]
 -- the translation
 have hco0:=hco;unfold tU at hco;split at hco;rotate_left
 .cases hco
 rename_i sop g h3 h4;cases hdst:Lm C.n o.dst with
 |false=>grind
 |true =>
 simp only[hdst,cond_true,aH]at hco;have hxd:x.o.dst=o.dst:=by rw[<- hco]
 have hxg:x.o.guard=g:=by rw[<- hco]
 have hxop:x.o.op=sop:=by rw[<- hco]
 have hnd:∀c,o.op≠.defer c:=by
  grind[cOp]
 have hdn:∀d,x.o.dst=some d->d<C.n:=by
  intro d e;rw[hxd]at e;rw[e]at hdst;have h1:Nat.ble (d+1) C.n=true:=hdst;exact aQ h1
 have stab_ok:∀(hp':List (Nat×aL)) (nx':Nat),sW T.fs (eX I fr0 res) hp nx hp' nx' stab->∀p∈res,∀y,I[p.1]?=some y->y.eff=false->keep p.1=false->evP T.fs y.o.guard ⟨eX I fr0 res,hp',nx'⟩ y.o.op=evP T.fs y.o.guard ⟨eX I fr0 res,hp,nx⟩ y.o.op:=by
  intro hp' nx' hs p hp2 y hy he hkp;cases hr:pW y.o.op with
  |false=>exact aA9 hr
  |true =>
   refine Py hs _ (hst p.1 (by grind) y hy he hr ?_);cases hb:x.tp.testBit p.1 with
   |false=>rfl
   |true =>
    have:=hI.Ve (S:=λq=>keep q=true) h.kD i x p.1 hx hpre hb
    grind
 unfold wpOpIn;simp only[ho];unfold E2 at hev;simp only[aDm]at hev;rw[hxg]at hev;cases g with
 |none =>
  simp only at hev;have hw:Region.wanted o (yielded ops a.tmps)=true:=(fU h4).2 (λ_ _ e=>by cases e);rw[if_pos hw];refine jQ hnd ?_;have hev':=Ca (K:=λs hp' nx'=>sW T.fs (eX I fr0 res) hp nx hp' nx' stab/\xV x.o.dst s (eX I fr0 res) λfr'=>evD T sub fr' hp' nx' K) hag hev;rw[hxop]at hev';refine(tC htab h.rep (g:=none) (λ_ _ e=>by cases e) h3 hev').mono ?_;rintro v w' ⟨s,st',μ',⟨k1,k2⟩,hfr,hE,hh,hR⟩;rw[<- hxd];have hrep:=h.rep.Fi hfr hE hh;obtain⟨fr1,hp1,nx1⟩:=st'
  grind
 |some gw =>
  obtain⟨d0,wt⟩:=gw;simp only at hev;obtain⟨G,g1,g2⟩:=hgk d0 wt hxg;have hev2:=Ef G g2 10 d0 wt _ _ g1 hev;rcases vV h.rep.fr 10 d0 wt _ _ hev2 with⟨hgd,hy⟩|⟨hgd,hn⟩
  .have hg:GOk (some (d0,wt)) a.tmps:=by intro d w e; grind
   have hw:Region.wanted o (yielded ops a.tmps)=true:=(fU h4).2 hg;rw[if_pos hw];refine jQ hnd ?_;have hev':=Ca (K:=λs hp' nx'=>sW T.fs (eX I fr0 res) hp nx hp' nx' stab/\xV x.o.dst s (eX I fr0 res) λfr'=>evD T sub fr' hp' nx' K) hag hy;rw[hxop]at hev';refine(tC htab h.rep hg h3 hev').mono ?_;rintro v w' ⟨s,st',μ',⟨k1,k2⟩,hfr,hE,hh,hR⟩;rw[<- hxd];have hrep:=h.rep.Fi hfr hE hh;obtain⟨fr1,hp1,nx1⟩:=st'
   grind
  .have hw:¬Region.wanted o (yielded ops a.tmps)=true:=by
    intro e;exact hgd ((fU h4).1 e d0 wt rfl)
   rw[if_neg hw];refine⟨λf _=>yC ro f,?_⟩;rw[<- hxd];exact fin (.tup .nil) hp nx μ undef w (by grind) h.rep ⟨[],rfl,rfl⟩ hdn hn
def Jm:fW->Bool
 |.pure ..=>true
 |_=>false
theorem nR.norm(hI:DOk P C.n ops I)(h0:gR fr0 []):∀(t:fW) (res:List (Nat×SV)),nR I T K fr0 C res keep t hp nx μ a w->∃res' t',Jm t'=false/\nR I T K fr0 C res' keep t' hp nx μ a w:=by
 intro t;induction t with
 |pure i o rest ih =>
  intro res h;obtain⟨s,h'⟩:=h.adv hI h0
  grind
 |done=>intro res h; exact⟨res,_,rfl,h⟩
 |none=>intro res h; exact⟨res,_,rfl,h⟩
 |eff=>intro res h; exact⟨res,_,rfl,h⟩
theorem H9{S:List Nat}{t:fW}(h:jV I none S t)(hp:Jm t=false)(hlen:∀i x,I[i]?=some x->i<I.length):Closed I S:=by
 cases t with
 |done=>intro i x hx _ _; exact h i (hlen i x hx)
 |none=>exact h.1
 |pure=>cases hp
 |eff=>exact h.1
theorem P3{S:List Nat}{fr:List (Nat×SV)}{hp':List (Nat×aL)}{t:fW}{i:Nat}{x:cK}(hx:I[i]?=some x)(hxe:x.eff=true)(hi:i∉S)(hp0:∀p∈x.pre,p∈S)(h:jV I none S t)(hp:Jm t=false)(hlen:∀i x,I[i]?=some x->i<I.length)(hev:evD T t fr hp' nx K) :
  ∃stab sub,E2 T x.o stab sub fr hp' nx K/\(∀j∈S,∀y,I[j]?=some y->y.eff=false->pW y.o.op=true->x.tp.testBit j=false->y.o∈stab)/\jV I none (i::S) sub:=by
 cases t with
 |done=>exact absurd (h i (hlen i x hx)) hi
 |none=>exact(h.2.2 i x hx hxe hi hp0).elim
 |pure=>cases hp
 |eff e o stab sub alt =>
  obtain⟨hcl,_,⟨y,hy,hyo,hye,hyS,hyp,hst⟩,hsub,halt⟩:=h;obtain⟨hn,hea⟩:=hev;by_cases hei:e=i
  .subst hei;rw[hx]at hy;cases hy;subst hyo;exact⟨stab,sub,hn,hst,hsub⟩
  .exact Iy hx hxe hi hp0 alt [e] (by grind) halt hea
def cP(l:Array Bool):Nat->Bool:=λj=>l.getD j false
theorem wpAny_all{listed:Array Bool}(hall:∀i,i<ops.size->cP listed i=true)(hsz:listed.size=ops.size){Q:Exit->Act->World->Prop}(fuel:Nat){a:Act}{w:World}(h:Q .normal a w):wpAnyIn (WF ro) 0 P .any ops Q fuel listed a w:=by
 have hr:Region.ready .any ops listed=[]:=by
  refine List.eq_nil_iff_forall_not_mem.2 λi hi=>?_;unfold Region.ready at hi;obtain⟨h1,h2⟩:=fP.1 hi;have hlt:=eP.1 h1;simp only[aI,bL]at h2
  grind[cP]
 cases fuel with
 |zero=>exact⟨hr,h⟩
 |succ fuel=>exact⟨λ_=>h,(by grind)⟩
def P9(P:Program)(ro:Option Nat)(C:Ctx)(ops:Array Oper)(I:List cK)(K:St->Prop)(Q:Exit->Act->World->Prop):Prop :=
 (I.length=ops.size/\∀st μ a w,K st->cR C μ st a w->Q .normal a w) \/
 (∃o r,ops.toList.drop I.length=o::r/\(∀p∈fD o,p<I.length)/\(∀i,i<I.length->(pU I (fD o)).testBit i=true) /\
  (∀j o',r[j]?=some o'->I.length+j∈fD o'/\∀p∈fD o',p<I.length+j+1) /\
  ∀st μ a w,K st->cR C μ st a w->wpListIn (WF ro) 0 P ops Q (o::r) a w)
theorem Sj{listed:Array Bool}{i:Nat}(hil:i<listed.size):cP (listed.setIfInBounds i true)=plus (cP listed) i:=by
 funext j;unfold plus cP;by_cases hj:j=i
 .simp [*]
 simp_all[Array.getD_eq_getD_getElem?,Array.getElem?_setIfInBounds_ne,Ne.symm]
theorem count_set{listed:Array Bool}{i fuel:Nat}(hil:i<listed.size)(hk:cP listed i=false)(hc:listed.count false=fuel+1):(listed.setIfInBounds i true).count false=fuel:=by
 have hki':listed[i]=false:=by
  simp_all[cP,Array.getD_eq_getD_getElem?]
 grind
theorem Ue{listed:Array Bool}{i:Nat}{o:Oper}(hsz:listed.size=ops.size)(ho:ops[i]?=some o)(hkf:cP listed i=false)(hpre:∀q∈fD o,cP listed q=true):i∈Region.ready .any ops listed:=by
 have hi:i<ops.size:=(aU.1 ho).1;have hlt:i<listed.size:=by omega
 unfold Region.ready;refine fP.2 ⟨eP.2 hi,?_⟩;rw[ho];simp only[cU,dR,aI,bL];refine⟨?_,?_⟩
 .grind [cP]
 .rw [gS];intro e he;cases hbd:Region.binds .any e with
  |false=>rfl
  |true =>
   have hq:e.on∈fD o:=by
    unfold fD
    grind
   grind[cP]
theorem Uf{listed:Array Bool}{i:Nat}(hsz:listed.size=ops.size)(hi:i∈Region.ready .any ops listed):∃o,ops[i]?=some o/\i<listed.size/\cP listed i=false/\∀q∈fD o,cP listed q=true:=by
 unfold Region.ready at hi;obtain⟨h1,h2⟩:=fP.1 hi;have hlt:=eP.1 h1;simp only[aI,bL]at h2;obtain⟨h2,h3⟩:=h2;have ho:ops[i]?=some ops[i]:=bU hlt;refine⟨_,ho,by omega,?_,?_⟩
 .grind [cP]
 .intro q hq;unfold fD at hq;obtain⟨e,he,rfl⟩:=cD.1 hq
  grind[Array.all_eq_true_iff_forall_mem,cP]
theorem K6{Q:Exit->Act->World->Prop}:∀(l:List Oper) (m fuel:Nat) (listed:Array Bool) (a:Act) (w:World),listed.size=ops.size->ops.toList.drop m=l->(∀j,j<m->cP listed j=true)->(∀j,m<=j->cP listed j=false)->listed.count false=fuel ->
  (∀j o',l[j]?=some o'->(∀p∈fD o',p<m+j)/\(0<j->m+j-1∈fD o'))->wpListIn (WF ro) 0 P ops Q l a w->wpAnyIn (WF ro) 0 P .any ops Q fuel listed a w:=by
 intro l;induction l with
 |nil =>
  intro m fuel listed a w hsz hd hlo hhi hc _ hw;have hm:ops.size<=m:=by simp_all
  exact wpAny_all (by grind) hsz fuel hw
 |cons o l ih =>
  intro m fuel listed a w hsz hd hlo hhi hc hp hw;have hm:ops[m]?=some o:=by
   have:(ops.toList.drop m)[0]?=some o:=by rw[hd]; rfl
   grind
  have hml:=(aU.1 hm).1;have hil:m<listed.size:=by omega
  have hkm:=hhi m (aN _);have hrd:m∈Region.ready .any ops listed:=Ue hsz hm hkm λq hq=>hlo q (by have:=(hp 0 o rfl).1 q hq; omega);cases fuel with
  |zero =>
   exfalso;have:false∈listed:=by
    have hki':listed[m]=false:=by
     simp_all[cP,Array.getD_eq_getD_getElem?]
    grind
   grind
  |succ fuel =>
   refine aA (by grind) (λi hi=>?_);obtain⟨o',ho',_,hki,hpre⟩:=Uf hsz hi;have hge:m<=i:=by
    grind
   have him:i=m:=by
    rcases Nat.eq_or_lt_of_le hge with h|h
    .exact h.symm
    .exfalso;have hg:(o::l)[i-m]?=some o':=by
      grind
     grind
   subst him;have hkeep:=Sj (listed:=listed) hil;have hdone:∀a' w',wpListIn (WF ro) 0 P ops Q l a' w'->wpAnyIn (WF ro) 0 P .any ops Q fuel (listed.setIfInBounds i true) a' w':=by
    intro a' w' hq;refine ih (i+1) fuel _ a' w' (by simp[hsz]) ?_ ?_ ?_ (count_set hil hkm hc) ?_ hq
    .rw [<- List.drop_drop,List.drop_one.symm.symm,hd];rfl
    .intro j hj;rw[hkeep]
     grind[plus]
    .intro j hj;rw[hkeep]
     grind[plus]
    .intro j o2 h2;have:=hp (j+1) o2 (by simp[*])
     grind
   unfold wpOpIn;simp only[hm];simp only[wpListIn]at hw;split at hw
   .rename_i hwant;rw[if_pos hwant];exact Oper.wpIn_mono hdone hw
   grind
theorem Ob(htab:wU P C T)(hI:DOk P C.n ops I)(h0:gR fr0 []){Q:Exit->Act->World->Prop}(hL:P9 P ro C ops I K Q) :
  ∀(fuel:Nat) (listed:Array Bool) (a:Act) (w:World),listed.size=ops.size->listed.count false=fuel->(∀j,I.length<=j->cP listed j=false)->(∃res t hp nx μ,nR I T K fr0 C res (cP listed) t hp nx μ a w) ->
   wpAnyIn (WF ro) 0 P .any ops Q fuel listed a w:=by
 have hlen:∀i x,I[i]?=some x->i<I.length:=(by grind);have hle:=hI.len
 -- the end
 have fin0:∀(listed:Array Bool) (a:Act) (w:World),(∃res t hp nx μ,nR I T K fr0 C res (cP listed) t hp nx μ a w)->(∀i,i<I.length->cP listed i=true)->∃st μ,K st/\cR C μ st a w:=by
  rintro listed a w ⟨res,t,hp,nx,μ,h⟩ hall;obtain⟨res,t,hpu,h⟩:=h.norm hI h0 t res;have hin:∀i,i<I.length->i∈res.map (·.1):=λi hi=>h.kS i (hall i hi);have htr:=h.tr;have hev:=h.ev;cases t with
  |pure=>cases hpu
  |none=>obtain⟨_,⟨i,h1,h2⟩,_⟩:=htr; grind
  |eff=>obtain⟨_,⟨i,h1,h2⟩,_⟩:=htr; grind
  |done =>
   refine⟨_,μ,hev,?_⟩;have hr:=h.rep;have:res.filter (λp=>cP listed p.1)=res:=by
    refine List.filter_eq_self.2 λp hp=>?_;obtain⟨x,hx⟩:=h.inI p hp;simp[*]
   grind
 have fin:∀(listed:Array Bool) (a:Act) (w:World),listed.size=ops.size->(∀j,I.length<=j->cP listed j=false)->(∃res t hp nx μ,nR I T K fr0 C res (cP listed) t hp nx μ a w)->(∀i,i<ops.size->cP listed i=true)->Q .normal a w:=by
  intro listed a w hsz hlast hex hall;obtain⟨st,μ,h1,h2⟩:=fin0 listed a w hex (by grind);rcases hL with⟨_,hK⟩|⟨o,r,hd,_⟩
  .grind
  .have hlt:I.length<ops.size:=by
    grind[List.drop_eq_nil_iff]
   grind
 have ready_low:∀(listed:Array Bool) (i:Nat),listed.size=ops.size->i∈Region.ready .any ops listed->∃o,ops[i]?=some o/\i<listed.size/\cP listed i=false/\∀q∈fD o,cP listed q=true:=by
  intro listed i hsz hi;unfold Region.ready at hi;obtain⟨h1,h2⟩:=fP.1 hi;have hlt:=eP.1 h1;simp only[aI,bL]at h2;obtain⟨h2,h3⟩:=h2;have ho:ops[i]?=some ops[i]:=bU hlt;refine⟨_,ho,by omega,?_,?_⟩
  .grind [cP]
  .intro q hq;unfold fD at hq;obtain⟨e,he,rfl⟩:=cD.1 hq
   grind[Array.all_eq_true_iff_forall_mem,cP]
 have ready_iff:∀(listed:Array Bool) (i:Nat),listed.size=ops.size->i<I.length->i∈Region.ready .any ops listed->∃o x,ops[i]?=some o/\I[i]?=some x/\tU P C.n ops.toList o=some x.o/\i<listed.size/\cP listed i=false/\∀q∈x.pre,cP listed q=true:=by
  intro listed i hsz hlt hi;obtain⟨o,ho,h1,h2,h3⟩:=ready_low listed i hsz hi;obtain⟨x,hx,hc,hp⟩:=hI.op i _ hlt ho
  grind
 -- what could be run
 have is_ready:∀(listed:Array Bool) (i:Nat) (o:Oper),listed.size=ops.size->ops[i]?=some o->cP listed i=false->(∀q∈fD o,cP listed q=true)->i∈Region.ready .any ops listed:=by
  intro listed i o hsz ho hkf hpre;have hi:i<ops.size:=(aU.1 ho).1;have hlt:i<listed.size:=by omega
  unfold Region.ready;refine fP.2 ⟨eP.2 hi,?_⟩;rw[ho];simp only[cU,dR,aI,bL];refine⟨?_,?_⟩
  .grind [cP]
  .rw [gS];intro e he;cases hbd:Region.binds .any e with
   |false=>rfl
   |true =>
    have hq:e.on∈fD o:=by
     unfold fD
     grind
    grind[cP]
 intro fuel;induction fuel with
 |zero =>
  intro listed a w hsz hc hlast hex;have hall:∀i,i<ops.size->cP listed i=true:=by
   intro i hi;have hlt:i<listed.size:=by omega
   unfold cP;rw[dK,bU hlt]
   grind[Array.count_pos_iff]
  refine⟨?_,(by grind)⟩;refine List.eq_nil_iff_forall_not_mem.2 λi hi=>?_
  grind
 |succ fuel ih =>
  intro listed a w hsz hc hlast hex;refine⟨λhr=>fin listed a w hsz hlast hex ?_,?_⟩
  · -- whatever is left could be run
   intro i;induction i using Nat.strongRecOn with
   |_ i ihi =>
    intro hi;refine dP λhk=>?_;have hkf:cP listed i=false:=by simp[*]
    have ho:ops[i]?=some ops[i]:=bU hi;have hpre:∀q∈fD ops[i],q<i:=by
     by_cases hlow:i<I.length
     .obtain ⟨x,hx,_,hp⟩:=hI.op i _ hlow ho;intro q hq;exact hI.lt i x hx q (by simp[*])
     .rcases hL with⟨he,_⟩|⟨o,r,hd,hp,_,ht,_⟩
      .omega
      grind[List.getElem?_cons_zero]
    grind
  .intro i hi;obtain⟨o0,ho0,hil,hki,hpre0⟩:=ready_low listed i hsz hi;have hio:=(aU.1 ho0).1;have hkeep:cP (listed.setIfInBounds i true)=plus (cP listed) i:=by
    funext j;unfold plus cP;by_cases hj:j=i
    .simp [*]
    simp_all[Array.getD_eq_getD_getElem?,Array.getElem?_setIfInBounds_ne,Ne.symm]
   by_cases hlow:i<I.length
   .obtain ⟨o,x,ho,hx,hco,hil,hki,hpre⟩:=ready_iff listed i hsz hlow hi;obtain⟨res,t,hp,nx,μ,h⟩:=hex;obtain⟨res,t,hpu,h⟩:=h.norm hI h0 t res;have hcnt:(listed.setIfInBounds i true).count false=fuel:=by
     have hki':listed[i]=false:=by
      simp_all[cP,Array.getD_eq_getD_getElem?]
     grind
    have go:∀a' w',(∃res' t' hp' nx' μ',nR I T K fr0 C res' (plus (cP listed) i) t' hp' nx' μ' a' w')->wpAnyIn (WF ro) 0 P .any ops Q fuel (listed.setIfInBounds i true) a' w':=by
     intro a' w' hx;refine ih _ a' w' (by simp[hsz]) hcnt (λj hj=>?_) (by simp[*]);rw[hkeep]
     grind[plus]
    have hpS:∀q∈x.pre,q∈res.map (·.1):=λq hq=>h.kS q (hpre q hq);cases hxe:x.eff with
    |false =>
     have hm:=H9 h.tr hpu hlen i x hx hxe hpS
     grind[wpOpIn_mono,Pz]
    |true =>
     have hm:i∉res.map (·.1):=by
      intro hmem;obtain⟨p,hp1,rfl⟩:=cD.1 hmem;rw[h.kE p hp1 x hx hxe]at hki;cases hki
     obtain⟨stab,sub,hn,hst,htr⟩:=P3 hx hxe hm hpS h.tr hpu hlen h.ev
     grind[wpOpIn_mono,U4]
   .rcases hL with⟨he,_⟩|⟨o,r,hd,hp,hbits,ht,hK⟩
    .omega
    .have hg:(o::r)[i-I.length]?=some o0:=by
      grind
     have hie:i=I.length:=by
      grind
     subst hie;have hoo:o=o0:=by
      grind
     subst hoo;have hkd:∀j x,cP listed j=true->I[j]?=some x->∀q∈x.pre,cP listed q=true:=by
      obtain⟨res,t,hp,nx,μ,h⟩:=hex;exact h.kD
     have hall:∀j,j<I.length->cP listed j=true:=by
      intro j hj;rcases At (hbits j hj)with h|⟨p,hp1,y,hy,hb⟩
      .simp [*]
      .exact hI.Ve (S:=λq=>cP listed q=true) hkd p y j hy (by grind) hb
     obtain⟨st,μ,h1,h2⟩:=fin0 listed a w hex hall;have hw:=hK st μ a w h1 h2;refine(K6 (o::r) I.length (fuel+1) listed a w hsz hd hall hlast hc ?_ hw).2 _ hi;intro j o' hj;cases j with
     |zero =>
      grind
     |succ j =>
      grind
theorem yF{_hint:List Nat}{id:Nat}{t:fW}(htab:wU P C T)(hf:P.follows .mixedOrders=true)(hI:DOk P C.n ops I)(htr:jV I none [] t){st:St}(h0:gR st.fr []){Q:Exit->Act->World->Prop}{K:St->Prop}(hL:P9 P ro C ops I K Q)
  (h:cR C μ st a w) (hev:evD T t st.fr st.hp st.nx K):(Code.region id ops true).wpIn (WF ro) 0 P Q a w:=by
 refine wpIn_region_any hf ?_;obtain⟨fr,hp,nx⟩:=st;have hkf:∀j,cP (Array.replicate ops.size false) j=false:=by
  intro j;unfold cP;rw[dK,Array.getElem?_replicate]
  grind
 refine Ob htab hI h0 hL ops.size _ _ _ (by simp) (by simp) (λ_ _=>hkf _) ⟨[],t,hp,nx,μ,?_⟩;refine⟨hev,htr,.nil,(by grind),(by grind),?_,(by grind),?_,(by grind),(by grind),?_⟩
 .simp [*]
 .simp [*]
 .exact h.below ((Below.refl _ _).drew)
theorem Ga(htab:wU P C T){hint:List Nat}{id:Nat}{t:fW}(hd:B7 P C.n hint ops.toList=some t){st:St}(h0:gR st.fr []){Q:Exit->Act->World->Prop}{K:St->Prop}(hK:∀st μ a w,K st->cR C μ st a w->Q .normal a w)
  (h:cR C μ st a w) (hev:evD T t st.fr st.hp st.nx K):(Code.region id ops true).wpIn (WF ro) 0 P Q a w:=by
 obtain⟨hf,I,hI,he,htr⟩:=Qw hd;exact yF (_hint:=hint) htab hf hI htr h0 (.inl ⟨he,hK⟩) h hev
theorem Dq(htab:wU P C T){hint:List Nat}{id:Nat}{t:fW}{so:List eJ}(hd:wZ P C.n hint ops.toList=some (t,so)){st:St}(h0:gR st.fr []){Q:Exit->Act->World->Prop}{K0 K:St->Prop}(hK:∀st μ a w,K st->cR C μ st a w->Q .normal a w)
  (hK0:∀st μ a w,K0 st->cR C μ st a w->∃st',gR st'.fr []/\cR C μ st' a w/\uP T so [] st' K)
  (h:cR C μ st a w) (hev:evD T t st.fr st.hp st.nx K0):(Code.region id ops true).wpIn (WF ro) 0 P Q a w:=by
 obtain⟨k,hd⟩:=Nx hd;obtain⟨hf,I,o,r,hI,hdr,htr,hco,hp,hb,ht⟩:=Ny hd;refine yF (_hint:=hint) htab hf hI htr h0 (.inr ⟨o,r,hdr,hp,hb,ht,?_⟩) h hev
 grind[Aa]
end
end Go.Eng
end
section
namespace Go.Eng
open Go Go.RowKit
inductive aY where
 |skip
 |region (keep:List Nat) (ops:List eJ)
 |drawn (keep:List Nat) (t:fW)
 |seq (a b:aY)
 |cond (c:SX) (a b:aY)
 |block (id:Nat) (a:aY)
 |loop (i:Nat) (asg:List Nat) (a:aY)
 |exit (id:Nat)
 |ret
 |join (i:Nat) (asg:List Nat) (a:aY)
 |range (i:Nat) (f:SX) (gid:Nat) (g:aY) (gn:Nat) (ps:List Nat) (asgn body:aY)
 |rangeY (f:SX) (ps:List Nat) (asgn body:aY)
 deriving Repr
inductive vF where
 |normal
 |exit (id:Nat)
 |ret
structure Inv where
 X:Type
 I:X->Prop
 fr:X->List (Nat×SV)
 hp:X->List (Nat×aL):=λ_=>[]
 meas:X->Nat:=λ_=>0
def vU:List (Nat×SV)->(List (Nat×SV)->Prop)->Prop
 | [],k=>k []
 | (n,s)::r,k=>kG s λs=>vU r λl=>k ((n,s)::l)
def Jd{α:Type}:List (Nat×α)->Nat->Bool
 | [],_=>false
 | (k,_)::r,n=>bif Nat.beq k n then true else Jd r n
def pT(asg:List Nat)(new:List (Nat×SV)):List (Nat×SV)->(List (Nat×SV)->Prop)->Prop
 | [],k=>k new
 | (n,s)::r,k=>bif dU asg n then pT asg new r k else bif Jd new n then pT asg new r k else pT asg new r λl=>k ((n,s)::l)
def vX:SV->List Nat->List Nat
 |.own h _,l=>h::l
 |.osl h _ _ _,l=>h::l
 |.lsl h _ _,l=>h::l
 |.oel h _ _ _,l=>h::l
 |.mref h,l=>h::l
 |.fown h _ _,l=>h::l
 |.fmref h _,l=>h::l
 |.flsl h _ _ _,l=>h::l
 |.foel h _ _ _ _,l=>h::l
 |.csl h _,l=>h::l
 |.yield h,l=>h::l
 |.cons a b,l=>vX b (vX a l)
 |.ints _ _ _ a,l=>vX a l
 |.agg a,l=>vX a l
 |.tup a,l=>vX a l
 |.fn _ a,l=>vX a l
 |_,l=>l
def sE:List (Nat×SV)->List Nat->List Nat
 | [],l=>l
 | (_,s)::r,l=>sE r (vX s l)
def oK(hp:List (Nat×aL)):List Nat->List Nat->List Nat
 | [],l=>l
 |i::r,l=>match get? hp i with
  |some (.cells _ a)=>oK hp r (vX a l)
  |some (.iter a _ _ _)=>oK hp r (vX a l)
  |_=>oK hp r l
def Zi:aL->Bool
 |.map _ _ _ _ _ _=>true
 |.fam _=>true
 |.hid _ _=>true
 |_=>false
def qX(ids:List Nat)(bnd:Nat)(new:List (Nat×aL)):List (Nat×aL)->(List (Nat×aL)->Prop)->Prop
 | [],k=>k []
 | (n,o)::r,k=>bif dU ids n || Zi o || Nat.blt n bnd then
   match get? new n with
   |some .gone=>qX ids bnd new r k
   |some o'=>qX ids bnd new r λl=>k ((n,o')::l)
   |none=>qX ids bnd new r λl=>k ((n,o)::l)
  else qX ids bnd new r k
def yM(hp0:List (Nat×aL)):List (Nat×aL)->List (Nat×aL)->Nat->(List (Nat×aL)->Nat->Prop)->Prop
 | [],l,nx,k=>k l nx
 | (n,o)::r,l,nx,k=>match get? hp0 n with
  |some _=>yM hp0 r l nx k
  |none=>match o with
   |.gone=>yM hp0 r l nx k
   |o=>bif Nat.blt n nx then yM hp0 r ((n,o)::l) nx k else yM hp0 r ((n,o)::l) (n+1) k
def nM(bnd:Nat):List (Nat×aL)->List Nat
 | []=>[]
 | (n,_)::r=>bif Nat.blt n bnd then n::nM bnd r else nM bnd r
def kP:List Nat->List Nat->List Nat
 | [],acc=>acc
 |a::r,acc=>bif dU acc a then kP r acc else kP r (a::acc)
def uS:List Nat->List Nat->(List Nat->Prop)->Prop
 | [],acc,k=>k acc
 |a::r,acc,k=>gN a λa=>bif dU acc a then uS r acc k else uS r (a::acc) k
theorem Oh:∀(l acc:List Nat) (k:List Nat->Prop),uS l acc k=k (kP l acc):=by
 intro l;induction l with
 |nil=>intro acc k; rfl
 |cons a r ih =>
  grind[uS,kP,iW]
def mP(bnd:Nat)(asg:List Nat)(st:St)(fr:List (Nat×SV))(hp:List (Nat×aL))(k:St->Prop):Prop :=
 match st with
 | ⟨fr0,hp0,nx⟩=>vU fr λfr=>iF hp λhp=>pT asg fr fr0 λfr' =>
  uS (sE fr' (nM bnd hp0)) [] λi0=>uS (oK hp0 i0 (oK hp i0 i0)) [] λi1=>uS (oK hp0 i1 (oK hp i1 i1)) [] λi2 =>
  qX i2 bnd hp hp0 λhp' =>
   yM hp0 hp hp' nx λhp'' nx'=>k ⟨fr',hp'',nx'⟩
def nN:SV->Nat->List (Nat×SV)
 |.cons h t,n=>(n,unlab none h)::nN t (n+1)
 |_,_=>[]
def nH:SV->Nat->Prop
 |.nil,_=>True
 |.cons _ t,n+1=>nH t n
 |_,_=>False
def wN:List Nat->SV->List (Nat×SV)->(List (Nat×SV)->Prop)->Prop
 | [],.nil,fr,k=>k fr
 |p::r,.cons h t,fr,k=>kG h λs=>wN r t ((p,s)::fr) k
 |_,_,_,_=>False
def nP(d:Nat):List (Nat×aL)->Bool
 | []=>true
 | (_,.hid l _)::r=>bif Nat.blt l d then nP d r else false
 |_::r=>nP d r
def E8:vF->Nat
 |.normal=>0
 |.ret=>2
 |.exit id=>id+3
def uU:vF->Bool
 |.normal=>true
 |_=>false
def evC:aY->Tb->St->(vF->St->Prop)->Prop
 |.skip,_,st,k=>k .normal st
 |.region keep ops,T,st,k=>uP T ops [] st λst'=>match st' with
  | ⟨fr0,hp,nx⟩=>pK fr0 keep λfr=>k .normal ⟨fr,hp,nx⟩
 |.drawn keep t,T,st,k=>match st with
  | ⟨fr,hp,nx⟩=>evD T t fr hp nx λst'=>match st' with
   | ⟨fr0,hp,nx⟩=>pK fr0 keep λfr=>k .normal ⟨fr,hp,nx⟩
 |.seq a b,T,st,k=>evC a T st λe st' =>
  match e with
  |.normal=>evC b T st' k
  |.exit id=>k (.exit id) st'
  |.ret=>k .ret st'
 |.cond c a b,T,st,k =>
  match c with
  |.c (.bool true)=>evC a T st k
  |.c (.bool false)=>evC b T st k
  |.c _=>False
  |.s n=>match look st.fr n with
   |.bool p=>(p=true->evC a T st k)/\(p=false->evC b T st k)
   |_=>False
 |.block id a,T,st,k=>evC a T st λe st' =>
  match e with
  |.normal=>k .normal st'
  |.exit j=>bif Nat.beq j id then k .normal st' else k (.exit j) st'
  |.ret=>k .ret st'
 |.loop _i asg a,T,st,k =>
  ∃V:Inv,∃x:V.X,V.I x/\mP T.bnd asg st (V.fr x) (V.hp x) (λh=>lI T.np T.bnd st h) /\
   ∀x,V.I x->mP T.bnd asg st (V.fr x) (V.hp x) λh=>stF h λh=>evC a T h λe st' =>
    match e with
    |.normal=>∃x',V.I x'/\mP T.bnd asg st (V.fr x') (V.hp x') (λh'=>lI T.np T.bnd st' h')/\V.meas x' < V.meas x
    |.exit id=>k (.exit id) st'
    |.ret=>k .ret st'
 |.exit id,_,st,k=>k (.exit id) st
 |.ret,_,st,k=>k .ret st
 |.join _i asg a,T,st,k =>
  ∃V:Inv,(evC a T st λe st' =>
   match e with
   |.normal=>∃x,V.I x/\mP T.bnd asg st (V.fr x) (V.hp x) (λh=>lI T.np T.bnd st' h)
   |.exit id=>k (.exit id) st'
   |.ret=>k .ret st') /\
  ∀x,V.I x->mP T.bnd asg st (V.fr x) (V.hp x) λh=>stF h λh=>k .normal h
 |.range _i f gid g gn ps asgn body,T,st,k =>
  match gx none st.fr f with
  |.fn kf caps=>bif Nat.beq kf gid && Nat.blt kf FM then bif Nat.blt st.nx FB then
    match st with
    | ⟨fr,hp,nx⟩=>nH (.cons (.yield nx) caps) gn /\
     evC g
      ⟨T.fs,(T.dep,λid np bnd dep args hp' nx' K =>
       match get? hp' id with
       |some (.hid l 0)=>bif Nat.beq l T.dep then
         wN ps args fr λfr1=>evC asgn ⟨T.fs,T.ys,np,bnd,dep⟩ ⟨fr1,hp',nx'⟩ λe st1 =>
          match e with
          |.normal=>match st1 with
           | ⟨fr2,hp2,nx2⟩=>match get? hp2 id with
            |some (.hid l 0)=>bif Nat.beq l T.dep then
              oP hp2 id (.hid T.dep 1) λhp3=>evC body ⟨T.fs,T.ys,np,bnd,dep⟩ ⟨fr2,hp3,nx2⟩ λe st2 =>
               match st2 with
               | ⟨_,hp4,nx4⟩=>match get? hp4 id with
                |some (.hid l 1)=>bif Nat.beq l T.dep then oP hp4 id (.hid T.dep (E8 e)) λhp5=>K (uU e) hp5 nx4 else False
                |_=>False
             else False
            |_=>False
          |_=>False
        else False
       |_=>False)::T.ys,eT hp,nx+1,T.dep+1⟩
      ⟨nN (.cons (.yield nx) caps) 0,(nx,.hid T.dep 0)::hp,nx+1⟩ λe st' =>
       match e with
       |.exit _=>False
       |_=>match st' with
        | ⟨_,hp',nx'⟩=>bif nP T.dep (drop? hp' nx) then
         match get? hp' nx with
         |some (.hid l pd)=>bif Nat.beq l T.dep then
           match pd with
           |0=>k .normal ⟨fr,drop? hp' nx,nx'⟩
           |1=>False
           |2=>k .ret ⟨fr,drop? hp' nx,nx'⟩
           |n+3=>k (.exit n) ⟨fr,drop? hp' nx,nx'⟩
          else False
         |_=>False
        else False
   else False else False
  |_=>False
 |.rangeY f ps asgn body,T,st,k =>
  match gx none st.fr f with
  |.fn kf caps=>bif Nat.blt kf FM && Nat.blt st.nx FB then
    match get? T.fs kf with
    |some (.y S)=>match st with
     | ⟨fr,hp,nx⟩=>bif hid0s hp then
       ∃x:S.X,∃V:Nr,Jk hp (S.F0 x)/\S.pre x/\sub .y ((nx,.hid T.dep 0)::hp) 200 caps (S.args x)/\qM (S.F0 x)/\(∀z,S.post x z->qM (S.F1 x z)) /\
        (∀v,(pR hp (V.hp v) && pR (V.hp v) hp && nP T.dep (V.hp v) && Cs nx (V.hp v))=true) /\
        (∀g,∃v,V.I 0 v/\iF (fL ((nx,.hid T.dep 0)::hp) 0 (.fam (cJ g))) λh0=>iF ((0,.fam (cJ g))::(nx,.hid T.dep 0)::V.hp v) λh1 =>
         lI (eT hp) (nx+1) ⟨[],h0,nx+1⟩ ⟨[],h1,V.nx⟩) /\
        (∀i v g item,V.I i v->(S.items x)[i]?=some item->isL item=true/\iF ((0,.fam (cJ g))::(nx,.hid T.dep 0)::V.hp v) λh0 =>
         (λ(id:Nat) (np:List Nat) (bnd dep:Nat) (args:SV) (hp':List (Nat×aL)) (nx':Nat) (K:Bool->List (Nat×aL)->Nat->Prop) =>
          match get? hp' id with
          |some (.hid l 0)=>bif Nat.beq l T.dep then
            wN ps args fr λfr1=>evC asgn ⟨T.fs,T.ys,np,bnd,dep⟩ ⟨fr1,hp',nx'⟩ λe st1 =>
             match e with
             |.normal=>match st1 with
              | ⟨fr2,hp2,nx2⟩=>match get? hp2 id with
               |some (.hid l 0)=>bif Nat.beq l T.dep then
                 oP hp2 id (.hid T.dep 1) λhp3=>evC body ⟨T.fs,T.ys,np,bnd,dep⟩ ⟨fr2,hp3,nx2⟩ λe st2 =>
                  match st2 with
                  | ⟨_,hp4,nx4⟩=>match get? hp4 id with
                   |some (.hid l 1)=>bif Nat.beq l T.dep then oP hp4 id (.hid T.dep (E8 e)) λhp5=>K (uU e) hp5 nx4 else False
                   |_=>False
                else False
               |_=>False
             |_=>False
           else False
          |_=>False) nx (eT h0) V.nx (T.dep+1) item h0 V.nx λgo hp' nx'=>go=true/\∃v',V.I (i+1) v'/\iF ((0,.fam (cJ g))::(nx,.hid T.dep 0)::V.hp v') λh1 =>
           lI (eT hp) (nx+1) ⟨[],hp',nx'⟩ ⟨[],h1,V.nx⟩) /\
        ∀z v,S.post x z->V.I (S.items x).length v->iF ((0,.fam (S.F1 x z))::V.hp v) λh1=>k .normal ⟨fr,h1,V.nx⟩
      else False
    |_=>False
   else False
  |_=>False
def dsts:List Oper->List Nat
 | []=>[]
 |o::r=>match o.dst with
  |some d=>d::dsts r
  |none=>dsts r
def asgs:Code->List Nat
 |.region _ ops _=>dsts ops.toList
 |.seq a b=>asgs a++asgs b
 |.cond _ a b=>asgs a++asgs b
 |.block _ a=>asgs a
 |.loop a=>asgs a
 |.scope a=>asgs a
 |_=>[]
def dedup:List Nat->List Nat
 | []=>[]
 |x::r=>let l:=dedup r; bif dU l x then l else x::l
def mW:aY->Nat
 |.seq a b=>mW a+mW b
 |.cond _ a b=>mW a+mW b
 |.block _ a=>mW a
 |.loop _ _ a=>mW a+1
 |.join _ _ a=>mW a+1
 |.range _ _ _ g _ _ a b=>mW g+mW a+mW b+1
 |.rangeY _ _ a b=>mW a+mW b+1
 |_=>0
def pY(n:Nat):List Nat->Bool
 | []=>true
 |p::r=>bif Nat.blt p n then pY n r else false
def jK(P:Program)(n:Nat)(G:List Nat)(joins:List Nat)(hint:List Nat)(rg:List (Nat×Nat×aY×Nat)):Code->Nat×Nat->Option (aY×Nat×Nat)
 |.skip,c=>some (.skip,c)
 |.region _ ops false,c=>match lV P n ops.toList ops.toList with
  |some l=>some (.region G l,c)
  |none=>none
 |.region id ops true,c=>match B7 P n hint ops.toList with
  |some t=>bif dU joins (1000000+id)then some (.join c.1 (dedup (dsts ops.toList)) (.drawn G t),(c.1+1,c.2))else some (.drawn G t,c)
  |none=>match wZ P n hint ops.toList with
   |some (t,so)=>some (.seq (.drawn (dedup (G++so.flatMap jS)) t) (.region G so),c)
   |none=>none
 |.seq a b,c=>match jK P n G joins hint rg a c with
  |some (a',c)=>match jK P n G joins hint rg b c with
   |some (b',c)=>some (.seq a' b',c)
   |none=>none
  |none=>none
 |.cond x a b,(i,j)=>match cX x with
  |some x'=>match jK P n G joins hint rg a (bif dU joins j then i+1 else i,j+1) with
   |some (a',c)=>match jK P n G joins hint rg b c with
    |some (b',c)=>some (bif dU joins j then .join i (dedup (asgs a++asgs b)) (.cond x' a' b')else .cond x' a' b',c)
    |none=>none
   |none=>none
  |none=>none
 |.block id a,c=>match jK P n G joins hint rg a c with
  |some (a',c)=>some (.block id a',c)
  |none=>none
 |.loop a,(i,j)=>match jK P n G joins hint rg a (i+1,j) with
  |some (a',c)=>some (.loop i (dedup (asgs a)) a',c)
  |none=>none
 |.scope a,c=>jK P n G joins hint rg a c
 |.label _,c=>some (.skip,c)
 |.exit id,c=>some (.exit id,c)
 |.ret,c=>some (.ret,c)
 |.rangeFunc f ps a b,(i,j)=>match cX f with
  |some f'=>match get? rg i with
   |some (gid,g,gn)=>match jK P n G joins hint rg a (i+1+mW g,j) with
    |some (a',c)=>match jK P n G joins hint rg b c with
     |some (b',c)=>bif pY n ps.toList then some (.range i f' gid g gn ps.toList a' b',c)else none
     |none=>none
    |none=>none
   |none=>match jK P n G joins hint rg a (i+1,j) with
    |some (a',c)=>match jK P n G joins hint rg b c with
     |some (b',c)=>bif pY n ps.toList then some (.rangeY f' ps.toList a' b',c)else none
     |none=>none
    |none=>none
  |none=>none
 |_,_=>none
inductive Tr(P:Program):Nat->Code->aY->Prop where
 |skip {n}:Tr P n .skip .skip
 |region {n G id ops l}:lV P n ops.toList ops.toList=some l->Tr P n (.region id ops false) (.region G l)
 |drawn {n G id hint ops t}:B7 P n hint ops.toList=some t->Tr P n (.region id ops true) (.drawn G t)
 |drawnL {n G G' id hint ops t so}:wZ P n hint ops.toList=some (t,so)->Tr P n (.region id ops true) (.seq (.drawn G' t) (.region G so))
 |seq {n a b a' b'}:Tr P n a a'->Tr P n b b'->Tr P n (.seq a b) (.seq a' b')
 |cond {n x a b x' a' b'}:cX x=some x'->Tr P n a a'->Tr P n b b'->Tr P n (.cond x a b) (.cond x' a' b')
 |join {n c i asg a}:Tr P n c a->Tr P n c (.join i asg a)
 |block {n id a a'}:Tr P n a a'->Tr P n (.block id a) (.block id a')
 |loop {n i asg a a'}:Tr P n a a'->Tr P n (.loop a) (.loop i asg a')
 |scope {n a a'}:Tr P n a a'->Tr P n (.scope a) a'
 |label {n l}:Tr P n (.label l) .skip
 |exit {n id}:Tr P n (.exit id) (.exit id)
 |ret {n}:Tr P n .ret .ret
 | range {n i f f' gid g gn ps a b a' b' fn cg} : cX f = some f' -> P.funcs[gid]? = some fn -> (fn.name == "runtime.NumGoroutine") = false -> fn.body = some cg -> fn.ntmps = gn -> fn.results.toList = [] -> Tr P gn cg g ->
   pY n ps.toList=true->Tr P n a a'->Tr P n b b'->Tr P n (.rangeFunc f ps a b) (.range i f' gid g gn ps.toList a' b')
 |rangeY {n f f' ps a b a' b'}:cX f=some f'->pY n ps.toList=true->Tr P n a a'->Tr P n b b'->Tr P n (.rangeFunc f ps a b) (.rangeY f' ps.toList a' b')
def lT(P:Program)(rg:List (Nat×Nat×aY×Nat)):Prop :=
 ∀ i gid g gn, get? rg i = some (gid, g, gn) -> ∃ fn cg, P.funcs[gid]? = some fn /\ (fn.name == "runtime.NumGoroutine") = false /\ fn.body = some cg /\ fn.ntmps = gn /\ fn.results.toList = [] /\ Tr P gn cg g
theorem Fy{P:Program}{n:Nat}{G joins hint:List Nat}{rg:List (Nat×Nat×aY×Nat)}(hrg:lT P rg):∀(c:Code) (sc:aY) (p q:Nat×Nat),jK P n G joins hint rg c p=some (sc,q)->Tr P n c sc:=by
 intro c;induction c with
 |skip=>intro sc p q h; simp only[jK,aH,bX]at h; rw[<- h.1]; exact .skip
 |exit id=>intro sc p q h; simp only[jK,aH,bX]at h; rw[<- h.1]; exact .exit
 |label l=>intro sc p q h; simp only[jK,aH,bX]at h; rw[<- h.1]; exact .label
 |scope a ih=>intro sc p q h; exact .scope (ih sc p q h)
 |ret=>intro sc p q h; simp only[jK,aH,bX]at h; rw[<- h.1]; exact .ret
 |region id ops draws =>
  intro sc p q h;cases draws with
  |true =>
   simp only[jK]at h;split at h
   .rename_i t ht;cases hj:dU joins (1000000+id) with
    |true =>
     simp only[hj,cond_true,aH,bX]at h;rw[<- h.1];exact .join (.drawn ht)
    |false =>
     simp only[hj,cond_false,aH,bX]at h;rw[<- h.1];exact .drawn ht
   .split at h
    .rename_i t so ht;simp only[aH,bX]at h;rw[<- h.1];exact .drawnL ht
    .cases h
  |false =>
   simp only[jK]at h;split at h
   .rename_i l hl;simp only[aH,bX]at h;rw[<- h.1];exact .region hl
   .cases h
 |seq x y ihx ihy =>
  intro sc p q h;simp only[jK]at h;split at h
  .rename_i x' c1 hx;split at h
   .rename_i y' c2 hy;simp only[aH,bX]at h;rw[<- h.1];exact .seq (ihx _ _ _ hx) (ihy _ _ _ hy)
   .cases h
  .cases h
 |cond x y z ihy ihz =>
  intro sc p q h;obtain⟨i,j⟩:=p;simp only[jK]at h;split at h
  .rename_i x' hx;split at h
   .rename_i y' c1 hy;split at h
    .rename_i z' c2 hz;simp only[aH,bX]at h;obtain⟨h,_⟩:=h;have ht:=Tr.cond hx (ihy _ _ _ hy) (ihz _ _ _ hz);cases hj:dU joins j with
     |false=>grind
     |true=>simp only[hj,cond_true]at h; rw[<- h]; exact .join ht
    .cases h
   .cases h
  .cases h
 |block id x ih =>
  intro sc p q h;simp only[jK]at h;split at h
  .rename_i x' c1 hx;simp only[aH,bX]at h;rw[<- h.1];exact .block (ih _ _ _ hx)
  .cases h
 |loop x ih =>
  intro sc p q h;obtain⟨i,j⟩:=p;simp only[jK]at h;split at h
  .rename_i x' c1 hx;simp only[aH,bX]at h;rw[<- h.1];exact .loop (ih _ _ _ hx)
  .cases h
 |rangeFunc f ps a b iha ihb =>
  intro sc p q h;obtain⟨i,j⟩:=p;simp only[jK]at h;split at h
  .rename_i f' hf;split at h
   .rename_i gid g gn hg;split at h
    .rename_i a' c1 ha;split at h
     .rename_i b' c2 hb;cases hl:pY n ps.toList with
      |false=>grind
      |true =>
       simp only[hl,cond_true,aH,bX]at h;rw[<- h.1];obtain⟨fn,cg,h1,h2,h3,h4,h5,h6⟩:=hrg _ _ _ _ hg;exact .range hf h1 h2 h3 h4 h5 h6 hl (iha _ _ _ ha) (ihb _ _ _ hb)
     .cases h
    .cases h
   .split at h
    .rename_i a' c1 ha;split at h
     .rename_i b' c2 hb;cases hl:pY n ps.toList with
      |false=>grind
      |true =>
       simp only[hl,cond_true,aH,bX]at h;rw[<- h.1];exact .rangeY hf hl (iha _ _ _ ha) (ihb _ _ _ hb)
     .cases h
    .cases h
  .cases h
 |_=>grind[jK]
section
variable {P:Program} {C:Ctx} {ro:Option Nat}
def Stands(C:Ctx)(st:St)(a:Act)(w:World):Prop:=(∃μ,cR C μ st a w)/\gR st.fr []
def Dz:vF->Exit
 |.normal=>.normal
 |.exit id=>.exit id
 |.ret=>.ret
universe u v
def Det{α:Type u}(F:(α->Prop)->Prop):Prop:=(∃x,∀k,F k↔k x)\/∀k,¬F k
theorem Det.comp{α:Type u}{β:Type v}{F:(α->Prop)->Prop}{G:α->(β->Prop)->Prop}(hF:Det F)(hG:∀x,Det (G x)):Det λk=>F λx=>G x k:=by
 rcases hF with⟨x,hx⟩|hx
 .simp [*]
 .exact .inr λk h=>hx _ h
theorem Det.map{α:Type u}{β:Type v}{F:(α->Prop)->Prop}(hF:Det F)(g:α->β):Det λk=>F λx=>k (g x) :=
 hF.comp (G:=λx k=>k (g x)) λx=>.inl ⟨g x,λ_=>dF⟩
theorem Det.pure{α:Type u}(x:α):Det λk=>k x:=.inl ⟨x,λ_=>dF⟩
theorem F8(s:SV):Det (kG s):=by
 unfold kG;simp only[fA];cases s<;>first
  |exact .inl ⟨_,λ_=>dF⟩
  |exact .inr λ_ h=>h
theorem F7:∀l,Det (vU l):=by
 intro l;induction l with
 |nil=>exact .pure _
 |cons p r ih =>
  obtain⟨n,s⟩:=p;exact Det.comp (F:=kG s) (F8 s) λs=>Det.map ih λl=>(n,s)::l
theorem I1(asg:List Nat)(new:List (Nat×SV)):∀l,Det (pT asg new l):=by
 intro l;induction l with
 |nil=>exact .pure _
 |cons p r ih =>
  obtain⟨n,s⟩:=p;cases h1:dU asg n with
  |true=>simp only[funext (λk=>pT.eq_2 asg new k n s r),h1,cond_true]; exact ih
  |false =>
   cases h2:Jd new n with
   |true=>simp only[funext (λk=>pT.eq_2 asg new k n s r),h1,h2,cond_true,cond_false]; exact ih
   |false=>simp only[funext (λk=>pT.eq_2 asg new k n s r),h1,h2,cond_false]; exact Det.map ih λl=>(n,s)::l
theorem I2(ids:List Nat)(bnd:Nat)(new:List (Nat×aL)):∀l,Det (qX ids bnd new l):=by
 intro l;induction l with
 |nil=>exact .pure _
 |cons p r ih =>
  obtain⟨n,s⟩:=p;have e:=funext (λk=>qX.eq_2 ids bnd new k n s r);cases h1:dU ids n || Zi s || Nat.blt n bnd with
  |false=>rw[e]; simp only[h1,cond_false]; exact ih
  |true =>
   rw[e]; simp only[h1,cond_true];split
   .exact ih
   .simp_all [Det.map]
   simp_all[Det.map]
theorem Oa(hp0:List (Nat×aL)):∀(new l:List (Nat×aL)) (nx:Nat),Det (α:=List (Nat×aL)×Nat) λk=>yM hp0 new l nx λa b=>k (a,b):=by
 intro new;induction new with
 |nil=>intro l nx; exact .inl ⟨(l,nx),λ_=>dF⟩
 |cons p r ih =>
  intro l nx;obtain⟨n,o⟩:=p;simp only[yM];split
  .exact ih _ _
  .split
   .exact ih _ _
   .cases Nat.blt n nx with
    |true=>simp[*]
    |false=>simp[*]
theorem xB(bnd:Nat)(asg:List Nat)(st:St)(fr:List (Nat×SV))(hp:List (Nat×aL)):Det (mP bnd asg st fr hp):=by
 obtain⟨fr0,hp0,nx0⟩:=st;have e:mP bnd asg ⟨fr0,hp0,nx0⟩ fr hp=λk=>vU fr λfr=>pT asg fr fr0 λfr' =>
   qX (kP (oK hp0 (kP (oK hp0 (kP (sE fr' (nM bnd hp0)) []) (oK hp (kP (sE fr' (nM bnd hp0)) []) (kP (sE fr' (nM bnd hp0)) []))) []) (oK hp (kP (oK hp0 (kP (sE fr' (nM bnd hp0)) []) (oK hp (kP (sE fr' (nM bnd hp0)) []) (kP (sE fr' (nM bnd hp0)) []))) []) (kP (oK hp0 (kP (sE fr' (nM bnd hp0)) []) (oK hp (kP (sE fr' (nM bnd hp0)) []) (kP (sE fr' (nM bnd hp0)) []))) []))) []) bnd hp hp0 λhp'=>yM hp0 hp hp' nx0 λhp'' nx'=>k ⟨fr',hp'',nx'⟩:=by
  grind[mP,oI,Oh]
 rw[e];refine Det.comp (F:=vU fr) (F7 fr) λfr=>?_;refine Det.comp (F:=pT asg fr fr0) (I1 _ _ _) λfr'=>?_;refine Det.comp (F:=qX _ bnd hp hp0) (I2 _ _ _ _) λhp'=>?_;exact Det.map (Oa hp0 hp hp' nx0) λx=>(⟨fr',x.1,x.2⟩:St)
theorem Je{bnd:Nat}{asg:List Nat}{st:St}{fr:List (Nat×SV)}{hp:List (Nat×aL)}{k1 k2:St->Prop}(h1:mP bnd asg st fr hp k1)(h2:mP bnd asg st fr hp k2):∃st',k1 st'/\k2 st':=by
 rcases xB bnd asg st fr hp with⟨x,hx⟩|hx
 .grind
 grind
end
end Go.Eng
end
section
namespace Go.Eng
open Go Go.RowKit
variable {P:Program}
theorem uR{f:Nat->aL}{h:Nat}:∀{hp:List (Nat×aL)},get? hp h=some (.fam f)->h∈eT hp:=by
 intro hp;induction hp with
 |nil=>intro e; cases e
 |cons p r ih =>
  obtain⟨n,o⟩:=p;intro e;rw[get?_cons]at e;by_cases hn:n=h
  .simp_all [eT]
  .rw [if_neg hn]at e;have:=ih e;cases o<;>simp[eT,this]
theorem bD.to{C C':Ctx}{μ:Nat->Option (Nat×Nat)}{hp:List (Nat×aL)}{nx:Nat}{w:World}(h:bD C μ hp nx w)(h1:C'.w0=C.w0)(h2:C'.T=C.T)(h3:C'.U0=C.U0)(hH:∀l p o,C.H l p o->C'.H l p o)
  (hp':∀id p,C'.pin id=some p->μ id=some p):bD C' μ hp nx w/\(aG C μ hp w).Le (aG C' μ hp w):=by
 have hU:∀b,Ufor C μ hp w b->Ufor C' μ hp w b:=by
  rintro b ⟨a1,a2,a3,a4⟩;exact⟨a1,by grind[Ctx.B],a3,a4⟩
 have hE:(aG C μ hp w).Le (aG C' μ hp w):=⟨⟨⟨hU,λ_ _=>rfl⟩,λ_ _ e=>e⟩,Kd.refl _,hH⟩;refine⟨⟨⟨h.obj.keys,?_⟩,h.inj,?_,h.keys,h.nx,h.fam,hp',?_,h.pos⟩,hE⟩
 .intro id o ho;obtain⟨b,c,x,e1,e2,e3⟩:=h.obj.obj id o ho;exact⟨b,c,x,e1,e2,e3.mono hE⟩
 .intro id o b c g e;rw[h1,h2];exact h.mine id o b c g e
 .rw [h1,h2]; exact h.frm
structure Shut(base w w':World):Prop where
 os:w'.os=w.os
 tape:w'.tape=w.tape
 output:w'.output=w.output
 size:w'.heap.size=w.heap.size
 block:∀b,b<base.heap.size->w'.heap[b]?=w.heap[b]?
 plain:∀b,Ih w b->w'.heap[b]?=w.heap[b]?
 drawn:DLe w w'
theorem Shut.refl(base w:World):Shut base w w:=⟨rfl,rfl,rfl,rfl,λ_ _=>rfl,λ_ _=>rfl,DLe.of_le (aN _)⟩
theorem Shut.trans{base a b c:World}(h:Shut base a b)(k:Shut base b c):Shut base a c :=
 ⟨k.os.trans h.os,k.tape.trans h.tape,k.output.trans h.output,k.size.trans h.size,λi hi=>(k.block i hi).trans (h.block i hi),
  λi hi=>(k.plain i (λds e=>hi ds ((h.plain i hi).symm.trans e))).trans (h.plain i hi),h.drawn.trans k.drawn⟩
theorem Mp{fn:Func}{tmps:Array Value}{R:Ending->World->Prop}{base:World}:∀(ds:List Deferred) (w:World),rS base w ds ->
  (∀w',Shut base w w'->∃v,(results fn tmps).run P w'=.ok v w'/\R (.returned v) w')->LeavesInM Fence.wide 0 P fn tmps R ds .returning w:=by
 intro ds;induction ds with
 |nil=>intro w _ h; exact h w (.refl _ _)
 |cons d ds ih =>
  intro w hd h;obtain⟨D,rfl,hD,hk⟩:=hd.2 d (aZ ..);refine⟨by simp,.inl ⟨D,_,rfl,run_takeDeferred hk,?_⟩⟩;have hsh:Shut base w (w.putObj D (.deferred none)):=by
   refine⟨rfl,rfl,rfl,by simp,λb hb=>World.putObj_heap_other (by omega),λb hb=>World.putObj_heap_other ?_,DLe.of_le (aN _)⟩;rintro rfl;exact hb _ hk
  refine ih _ ⟨(aT.1 hd.1).2,?_⟩ λw' hw'=>h w' (hsh.trans hw');intro d' hd';obtain⟨D',e1,e2,e3⟩:=hd.2 d' (aW _ hd');refine⟨D',e1,e2,(World.putObj_heap_other ?_).trans e3⟩;rintro rfl;have:=(aT.1 hd.1).1 d' hd'
  grind
theorem Kd.shut{base w w':World}(h:Kd base w)(hs:Shut base w w'):Kd base w':=by
 have lt:∀{b:Nat} {o:Obj},base.heap[b]?=some o->b<base.heap.size:=(by grind);refine⟨by rw[hs.size]; exact h.size,λb r e=>?_,λb ds e=>?_,λb hb hp=>(h.plain b hb hp).same (hs.block b hb)⟩
 .obtain ⟨r',e'⟩:=h.loop b r e;exact⟨r',(hs.block b (lt e)).trans e'⟩
 .exact (hs.block b (lt e)).trans (h.dfr b ds e)
theorem bD.shut{C:Ctx}{μ:Nat->Option (Nat×Nat)}{hp:List (Nat×aL)}{nx:Nat}{base w w':World}(h:bD C μ hp nx w)(hs:Shut base w w')(hb:C.w0.heap.size<=base.heap.size) :
  bD C μ hp nx w'/\(aG C μ hp w).LeR (aG C μ hp w'):=by
 have hE:(aG C μ hp w).LeR (aG C μ hp w'):=by
  refine⟨⟨?_,λb hb=>hs.plain b hb.2.2.2.d⟩,λ_ _ e=>e⟩;rintro b ⟨a1,a2,a3,a4⟩;exact⟨by rw[hs.size]; exact a1,a2,a3,λds e=>a4 ds ((hs.plain b a4.d).symm.trans e)⟩
 have mono:∀{o:aL} {c:Nat} {x:Obj},HR (aG C μ hp w) o c x->HR (aG C μ hp w') o c x:=by
  intro o c x k;cases o with
  |cells T l=>obtain⟨cs,h1,h2⟩:=k; exact⟨cs,h1,eW hE h2⟩
  |arr T sz len enc =>
   obtain⟨cs,h1,h2,h3,h4⟩:=k;refine⟨cs,h1,h2,h3,λi hi=>?_⟩
   grind[eW]
  |obj o'=>exact k
  |snap o'=>exact k
  |hid lab pd=>exact k
  |map V kk l clock ev iv =>
   obtain⟨h0,es,h1,h2⟩:=k;refine⟨h0,es,h1,?_⟩;clear h0 h1;induction l generalizing es with
   |nil=>exact h2
   |cons x r ih =>
    obtain⟨e,t,h1,h2,h3,h4,h5⟩:=h2;exact⟨e,t,h1,h2,eW hE h3,h4,ih t h5⟩
  |iter src since seen last=>obtain⟨r,h1,h2⟩:=k; exact⟨r,eW hE h1,h2⟩
  |fam f=>exact k
  |gone=>exact k
 refine⟨⟨⟨h.obj.keys,?_⟩,h.inj,h.mine,h.keys,h.nx,h.fam,h.pin,?_,h.pos⟩,hE⟩
 .intro id o ho;obtain⟨b,c,x,e1,e2,e3⟩:=h.obj.obj id o ho;exact⟨b,c,x,e1,(hs.plain b (h.obj.rC ho e1)).trans e2,mono e3⟩
 .exact ⟨hs.os.trans h.frm.os,hs.tape.trans h.frm.tape,hs.output.trans h.frm.output,by rw[hs.size]; exact h.frm.size,
   λb hb' ht=>(hs.block b (bM hb' hb)).trans (h.frm.block b hb' ht),h.frm.drawn.trans hs.drawn⟩
theorem yE{f:FuncId}{fn:Func}{cg:Code}{args:Array Value}{w:World}{RR:Ending->World->Prop}{Q:Exit->Act->World->Prop}(hf:P.funcs[f]?=some fn)(hb:fn.body=some cg)
  (hwp:cg.wpIn (WF none) 0 P Q { tmps:=args++Array.replicate (fn.ntmps-args.size) undef,defers:=[] } w)
  (hQ:∀e a' w',Q e a' w'->(e=.normal\/e=.ret)/\∃base,rS base w' a'.defers/\∀w'',Shut base w' w''->∃v,(results fn a'.tmps).run P w''=.ok v w''/\RR (.returned v) w'') :
  Calls P f args w RR:=by
 refine callsIn_wide.1 (callsIn_of_wp_marks (n:=0) hf hb trivial (wpIn_mono hwp ?_));intro e a' w' hq;obtain⟨he,base,h1,h2⟩:=hQ e a' w' hq;rcases he with rfl|rfl
 .exact Mp _ _ h1 h2
 .exact Mp _ _ h1 h2
theorem O8{d:Nat}:∀{hp:List (Nat×aL)},nP d hp=true->∀n l p,get? hp n=some (.hid l p)->l<d:=by
 intro hp;induction hp with
 |nil=>intro _ n l p e; cases e
 |cons q r ih =>
  obtain⟨m,o⟩:=q;intro h n l p e;rw[get?_cons]at e;by_cases hm:m=n
  .rw [if_pos hm]at e;cases e;simp only[nP]at h;simp_all
  .rw [if_neg hm]at e;refine ih ?_ n l p e;cases o<;>first
    |exact h
    |grind[nP]
    |grind[nP]
theorem qB{hp:List (Nat×aL)}{n l p:Nat}(h:hget hp n=some (.hid l p)):n<FB/\get? hp n=some (.hid l p):=by
 by_cases hn:n<FB
 .grind [fF,Option.bind_eq_some_iff,solid?_self]
 .simp only [hget,hn,if_false]at h;split at h
  .rename_i f hf;have h1:=solid?_self (dX?_solid h);rw[<- h1]at h;cases h
  .cases h
theorem bD.Ll{C C':Ctx}{μ:Nat->Option (Nat×Nat)}{hp:List (Nat×aL)}{nx k:Nat}{w:World}(h:bD C' μ hp nx w)(h1:C'.w0=C.w0)(h2:C'.T=C.T)(h3:C'.U0=C.U0)
  (hH:∀l p o,l<C.dep->C'.H l p o->C.H l p o) (hp':∀id p,C.pin id=some p->μ id=some p) {l0 p0:Nat} (hg:get? hp k=some (.hid l0 p0)) (hn:nP C.dep (drop? hp k)=true) :
  bD C μ (drop? hp k) nx w/\(aG C' μ hp w).LeR (aG C μ (drop? hp k) w):=by
 have hk:=h.obj.keys _ _ hg;have hd:=oE hk (λf e=>by rw[hg]at e; cases e);have hB:∀b,C'.B b->C.B b:=(by grind[Ctx.B]);have hE:(aG C' μ hp w).LeR (aG C μ (drop? hp k) w):=by
  refine⟨⟨?_,λ_ _=>rfl⟩,λ_ _ e=>e⟩;rintro b ⟨a1,a2,a3,a4⟩;refine⟨a1,hB b a2,?_,a4⟩;intro id o c ho;rw[hd]at ho;split at ho
  .cases ho
  .exact a3 id o c ho
 have old:∀{id:Nat} {o:aL},hget (drop? hp k) id=some o->id≠k/\hget hp id=some o:=by
  simp[*]
 have kold:∀{id:Nat} {o:aL},get? (drop? hp k) id=some o->get? hp id=some o:=by
  grind[get?_drop]
 have mono:∀{o:aL} {c:Nat} {x:Obj},(∀l p,o=.hid l p->l<C.dep)->HR (aG C' μ hp w) o c x->HR (aG C μ (drop? hp k) w) o c x:=by
  intro o c x hl k;cases o with
  |cells T l=>obtain⟨cs,h1,h2⟩:=k; exact⟨cs,h1,eW hE h2⟩
  |arr T sz len enc =>
   obtain⟨cs,h1,h2,h3,h4⟩:=k;refine⟨cs,h1,h2,h3,λi hi=>?_⟩
   grind[eW]
  |obj o'=>exact k
  |snap o'=>exact k
  |hid lab pd=>exact hH _ _ _ (hl _ _ rfl) k
  |map V kk l clock ev iv =>
   obtain⟨h0,es,h1,h2⟩:=k;refine⟨h0,es,h1,?_⟩;clear h0 h1;clear hl;induction l generalizing es with
   |nil=>exact h2
   |cons x r ih =>
    obtain⟨e,t,h1,h2,h3,h4,h5⟩:=h2;exact⟨e,t,h1,h2,eW hE h3,h4,ih t h5⟩
  |iter src since seen last=>obtain⟨r,h1,h2⟩:=k; exact⟨r,eW hE h1,h2⟩
  |fam f=>exact k
  |gone=>exact k
 refine⟨⟨⟨λid o e=>h.obj.keys _ _ (kold e),?_⟩,?_,?_,λid o e=>h.keys _ _ (kold e),h.nx,?_,hp',?_,λid p q e hge g=>h.pos id p q e hge (old g).2⟩,hE⟩
 .intro id o ho;obtain⟨b,c,x,e1,e2,e3⟩:=h.obj.obj id o (old ho).2;refine⟨b,c,x,e1,e2,mono ?_ e3⟩;rintro l p rfl;exact O8 hn id l p (qB ho).2
 .intro id id' o o' b c c' g g' e e';exact h.inj _ _ _ _ _ _ _ (old g).2 (old g').2 e e'
 .intro id o b c g e;rw[<- h1,<- h2];exact h.mine _ _ _ _ (old g).2 e
 .intro id p e hge;obtain⟨o,ho⟩:=h.fam id p e hge;refine⟨o,?_⟩;rw[hd,if_neg (by omega)];exact ho
 .rw [<- h1,<- h2]; exact h.frm
theorem lS{E:Env}{h t:SV}{vs:List Value}(hr:R E (.cons h t) vs):∃v r,vs=v::r/\R E h [v]/\R E t r:=by grind[R]
theorem Hv{E:Env}{n:Nat}{k:List (Nat×SV)->Prop}:∀(ps:List Nat) (args:SV) (fr:List (Nat×SV)) (vs:List Value) (t:Array Value),t.size=n->pY n ps=true->R E args vs->gR fr [] ->
  (∀s,fJ E t (look fr s) (t.getD s undef))->wN ps args fr k ->
  ∃fr1,k fr1/\gR fr1 []/\vs.length=ps.length/\((ps.zip vs).foldl (λt p=>t.setIfInBounds p.1 p.2) t).size=n /\
   ∀s,fJ E ((ps.zip vs).foldl (λt p=>t.setIfInBounds p.1 p.2) t) (look fr1 s) (((ps.zip vs).foldl (λt p=>t.setIfInBounds p.1 p.2) t).getD s undef):=by
 intro ps;induction ps with
 |nil =>
  intro args fr vs t hs _ hr hl hf h;cases args<;>simp only[wN]at h<;>try exact h.elim
  simp only[R]at hr;subst hr;exact⟨fr,h,hl,rfl,hs,hf⟩
 |cons p r ih =>
  intro args fr vs t hs hp hr hl hf h;cases args<;>simp only[wN,kG,fA]at h<;>try exact h.elim
  rename_i x y;obtain⟨v,vr,rfl,r1,r2⟩:=lS hr;have hpn:p<n/\pY n r=true:=by
   simp only[pY]at hp;simp_all
  split at h
  .exact h.elim
  .rename_i hng;have hl':gR ((p,x)::fr) []:=hl.cons (by grind);obtain⟨fr1,k1,k2,k3,k4,k5⟩:=ih y ((p,x)::fr) vr (t.setIfInBounds p v) (by simp[*]) hpn.2 r2 hl' (by
    intro s;rw[iC];by_cases hn:p=s
    .subst hn;rw[if_pos rfl,pQ _ _ _ (by omega)];exact qO r1 hng
    .rw [if_neg hn,eU _ _ _ _ (fR hn)];exact Bz (lab:=[]) rfl (λd' w y e=>hl s d' w y e) (hf s)) h
   exact⟨fr1,k1,k2,by simp[k3],k4,k5⟩
end Go.Eng
end
