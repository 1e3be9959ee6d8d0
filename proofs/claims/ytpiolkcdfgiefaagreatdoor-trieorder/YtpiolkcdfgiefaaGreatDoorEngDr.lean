/- A part of the proof. -/
import Derived.Test.YtpiolkcdfgiefaaGreatDoorEngY
section
namespace Go.Eng
open Go Go.RowKit
def kC (I:List dK) (i:Nat):Option Nat:=match I[i]? with
 | some x=>x.o.dst
 | none=>none
def fS (I:List dK) (fr0:List (Nat×SV)):List (Nat×SV)->List (Nat×SV)
 | []=>fr0
 | (i,s)::r=>match kC I i with
  | some d=>(d,s)::fS I fr0 r
  | none=>fS I fr0 r
theorem gH (I:List dK) (fr0 res:List (Nat×SV)) (i:Nat) (s:SV) (t:Nat):look (fS I fr0 ((i,s)::res)) t=if kC I i=some t then s else look (fS I fr0 res) t:=by
 simp only [fS];split
 ·rename_i d hd;rw [jM,hd];simp
 ·rename_i hd;rw [hd];simp
theorem Oi (I:List dK) (fr0:List (Nat×SV)) (keep:Nat->Bool) {t:Nat}:∀ (res:List (Nat×SV)),(∀ p∈res,kC I p.1=some t->keep p.1=true)->look (fS I fr0 (res.filter fun p=>keep p.1)) t=look (fS I fr0 res) t:=by
 intro res;induction res with
 | nil=>intro _; rfl
 | cons p r ih =>
  obtain ⟨i,s⟩:=p;intro h;have ihr:=ih fun p hp=>h p (aK _ hp);rw [iN];by_cases hk:keep i=true
  ·rw [if_pos hk,gH,gH,ihr]
  ·rw [if_neg hk,gH,ihr,if_neg];intro hd;exact hk (h (i,s) (aQ ..) hd)
theorem Rm (I:List dK) (fr0:List (Nat×SV)) {t i:Nat} {s:SV}:∀ (res:List (Nat×SV)),(i,s)∈res->kC I i=some t->(∀ p∈res,kC I p.1=some t->p=(i,s))->look (fS I fr0 res) t=s:=by
 intro res;induction res with
 | nil=>intro h; cases h
 | cons p r ih =>
  intro h hd hu;obtain ⟨j,u⟩:=p;rw [gH];split
  ·rename_i hj;have:=hu (j,u) (aQ ..) hj;cases this;rfl
  ·rename_i hj;rcases aI.1 h with e|h
   ·cases e; exact absurd hd hj
   ·exact ih h hd fun p hp=>hu p (aK _ hp)
theorem tZ (I:List dK) (fr0:List (Nat×SV)) {t:Nat}:∀ (res:List (Nat×SV)),(look (fS I fr0 res) t=look fr0 t)\/∃ p∈res,kC I p.1=some t/\look (fS I fr0 res) t=p.2:=by
 intro res;induction res with
 | nil=>exact .inl rfl
 | cons p r ih =>
  obtain ⟨i,s⟩:=p;rw [gH];split
  ·rename_i h; exact .inr ⟨(i,s),aQ ..,h,rfl⟩
  ·rcases ih with h|⟨p,hp,h⟩
   ·exact .inl h
   ·exact .inr ⟨p,aK _ hp,h⟩
theorem rN {fr fr':List (Nat×SV)} (G:Nat->Prop) (hG:∀ t,G t->look fr t=look fr' t/\∀ d w x,look fr t=.gd d w x->G d):∀ (n d:Nat) (w:Bool),G d->(kG fr n d w ↔ kG fr' n d w):=by
 intro n;induction n with
 | zero=>intro d w _; exact dP
 | succ n ih =>
  intro d w hd;obtain ⟨e,hc⟩:=hG d hd;simp only [kG];rw [<- e];split
  ·exact dP
  ·rename_i d' w' b hb;rw [ih d' w' (hc _ _ _ hb)]
  ·exact dP
theorem Ef {fr fr':List (Nat×SV)} (G:Nat->Prop) (hG:∀ t,G t->look fr t=look fr' t/\∀ d w x,look fr t=.gd d w x->G d):∀ (n d:Nat) (w:Bool) (Y N:Prop),G d->oH fr n d w Y N->oH fr' n d w Y N:=by
 intro n;induction n with
 | zero=>intro d w Y N _ h; exact h
 | succ n ih =>
  intro d w Y N hd h;obtain ⟨e,hc⟩:=hG d hd;simp only [oH] at h ⊢;rw [<- e];split at h
  ·exact h
  ·rename_i d' w' b hb;exact ih d' w' _ _ (hc _ _ _ hb) h
  ·rename_i d' w' hb;exact ih d' w' _ _ (hc _ _ _ hb) h
  ·exact h
  ·exact h.elim
theorem X4 {tab:List (Nat×iA)} {g:Option (Nat×Bool)} {fr:List (Nat×SV)} {hp hp':List (Nat×aT)} {nx nx':Nat} {so:SOp} (h:pV so=false):evP tab g ⟨fr,hp,nx⟩ so=evP tab g ⟨fr,hp',nx'⟩ so:=by
 cases so <;> first
  | (simp [pV] at h; done)
  | (simp only [evP]; done)
  | rfl
def PF (tab:List (Nat×iA)) (fr:List (Nat×SV)) (hp:List (Nat×aT)) (nx:Nat) (o:fF) (s:SV):Prop :=
 match o.guard with
 | none=>(∀ d w x,s≠.gd d w x)/\(evP tab none ⟨fr,hp,nx⟩ o.op).holds fun v=>v=s
 | some (d0,w)=>∃ v,s=.gd d0 w v/\match evP tab (some (d0,w)) ⟨fr,hp,nx⟩ o.op with
  | .ok u=>u=v
  | .side p u=>(kG fr 10 d0 w->p)/\u=v
  | .fail=>v=.junk/\¬ kG fr 10 d0 w
theorem Pn {tab:List (Nat×iA)} {fr fr':List (Nat×SV)} {hp hp':List (Nat×aT)} {nx nx':Nat} {o:fF} {s:SV} (h:PF tab fr hp nx o s) (he:evP tab o.guard ⟨fr,hp,nx⟩ o.op=evP tab o.guard ⟨fr',hp',nx'⟩ o.op)
  (hg:∀ d0 w,o.guard=some (d0,w)->(kG fr 10 d0 w ↔ kG fr' 10 d0 w)):PF tab fr' hp' nx' o s:=by
 unfold PF at *
 split at h
 ·rename_i hgd;rw [hgd] at he;rw [<- he];exact h
 ·rename_i d0 w hgd;rw [hgd] at he;obtain ⟨v,rfl,h⟩:=h;have hiff:=hg d0 w hgd;refine ⟨v,rfl,?_⟩;rw [<- he];split at h
  ·exact h
  ·exact ⟨fun k=>h.1 (hiff.2 k),h.2⟩
  ·exact ⟨h.1,fun k=>h.2 (hiff.2 k)⟩
section
variable {P:Program} {C:Ctx} {ro:Option Nat}
theorem Il {E:Env} {t:Array Value} {d:Nat} {v:Value} {s:SV} {x:Value} (hs:∀ d' w y,s=.gd d' w y->d'≠d) (h:gN E t s x):gN E (t.setIfInBounds d v) s x:=by
 cases s with
 | gd d' w y =>
  have:d'≠d:=hs _ _ _ rfl;simp only [gN] at *
  rw [fO _ _ _ _ this];exact h
 | _=>exact h
theorem dR.set' {μ:Nat->Option (Nat×Nat)} {fr fr':List (Nat×SV)} {hp:List (Nat×aT)} {nx:Nat} {a:Act} {w:World} (h:dR C μ ⟨fr,hp,nx⟩ a w) {d:Nat} (hd:d < C.n) (hl:∀ t d' w y,look fr t=.gd d' w y->d'≠d) {s:SV} {v:Value}
  (hs:gN (aN C μ hp w) (a.tmps.setIfInBounds d v) s v) (hfr:∀ t,look fr' t=if d=t then s else look fr t):dR C μ ⟨fr',hp,nx⟩ (a.put (some d) v) w where
 size:=by simp [Act.put,h.size]
 defers:=h.defers
 fr:=by
  intro n;simp only [Act.put];rw [hfr];by_cases hn:d=n
  ·subst hn;rw [if_pos rfl,qO _ _ _ (by rw [h.size]; exact hd)];exact hs
  ·rw [if_neg hn,fO _ _ _ _ (dY hn)];exact Il (fun d' w y e=>hl n d' w y e) (h.fr n)
 hep:=h.hep
 le:=h.le
 kd:=h.kd
structure oO (I:List dK) (T:Tb) (K:St->Prop) (fr0:List (Nat×SV)) (C:Ctx) (res:List (Nat×SV)) (keep:Nat->Bool) (t:hZ) (hp:List (Nat×aT)) (nx:Nat) (μ:Nat->Option (Nat×Nat)) (a:Act) (w:World):Prop where
 ev:evD T t (fS I fr0 res) hp nx K
 tr:lD I none (res.map (·.1)) t
 nd:(res.map (·.1)).Nodup
 inI:∀ p∈res,∃ x,I[p.1]?=some x
 dS:∀ p∈res,∀ x,I[p.1]?=some x->∀ q∈x.pre,q∈res.map (·.1)
 kS:∀ i,keep i=true->i∈res.map (·.1)
 kE:∀ p∈res,∀ x,I[p.1]?=some x->x.eff=true->keep p.1=true
 kD:∀ i x,keep i=true->I[i]?=some x->∀ q∈x.pre,keep q=true
 gd:∀ p∈res,∀ d w v,p.2=.gd d w v->∃ x,I[p.1]?=some x/\x.o.guard=some (d,w)
 pf:∀ p∈res,∀ x,I[p.1]?=some x->x.eff=false->keep p.1=false->PF T.fs (fS I fr0 res) hp nx x.o p.2
 rep:dR C μ ⟨fS I fr0 (res.filter fun p=>keep p.1),hp,nx⟩ a w
theorem Jb {o:fF} {d:Nat} {w:Bool} (h:o.guard=some (d,w)):d∈pS o:=by simp [pS,h]
theorem F9 {o:fF} {d:Nat} (h:o.dst=some d):d∈pS o:=by simp [pS,h]
variable {ops:Array Oper} {I:List dK}
theorem DOk.Wx (hI:DOk P C.n ops I):∀ (i:Nat) (x:dK) (j:Nat),I[i]?=some x->x.tp.testBit j=true->j < i:=by
 intro i;induction i using Nat.strongRecOn with
 | _ i ih =>
  intro x j hx hb;rcases hI.tp i x hx j hb with h|⟨p,hp,y,hy,hb'⟩
  ·exact hI.lt i x hx j h
  ·have h1:=hI.lt i x hx p hp;have:=ih p h1 y j hy hb';omega
theorem DOk.S1 (hI:DOk P C.n ops I) {S:Nat->Prop} (hS:∀ i x,S i->I[i]?=some x->∀ q∈x.pre,S q):∀ (i:Nat) (x:dK) (j:Nat),I[i]?=some x->(∀ q∈x.pre,S q)->x.tp.testBit j=true->S j:=by
 intro i;induction i using Nat.strongRecOn with
 | _ i ih =>
  intro x j hx hp hb;rcases hI.tp i x hx j hb with h|⟨p,hpp,y,hy,hb'⟩
  ·exact hp j h
  ·exact ih p (hI.lt i x hx p hpp) y j hy (hS p y (hp p hpp) hy) hb'
theorem DOk.uniq (hI:DOk P C.n ops I) {i j:Nat} {t:Nat} (hi:kC I i=some t) (hj:kC I j=some t):i=j:=by
 unfold kC at hi hj;split at hi
 ·rename_i x hx;split at hj
  ·rename_i y hy;refine bR fun hne=>?_;have h1:=hI.Wx i x j hx (hI.nm i j x y t hx hy (F9 hi) hj hne);have h2:=hI.Wx j y i hy (hI.nm j i y x t hy hx (F9 hj) hi (dY hne));omega
  ·cases hj
 ·cases hi
theorem DOk.named (hI:DOk P C.n ops I) {S:Nat->Prop} (hS:∀ i x,S i->I[i]?=some x->∀ q∈x.pre,S q) {i:Nat} {x:dK} (hx:I[i]?=some x) (hp:∀ q∈x.pre,S q) {t j:Nat} (ht:t∈pS x.o) (hj:kC I j=some t):i=j\/S j:=by
 by_cases hij:i=j
 ·exact .inl hij
 ·right;unfold kC at hj;split at hj
  ·rename_i y hy;exact hI.S1 hS i x j hx hp (hI.nm i j x y t hx hy ht hj hij)
  ·cases hj
theorem yG {o:fF} {t:Nat} (h:t∈kZ o):t∈pS o:=by
 unfold kZ at h;unfold pS;simp only [bM] at h ⊢;exact .inl h
theorem DOk.Za (hI:DOk P C.n ops I) {i:Nat} {x:dK} (hx:I[i]?=some x) {t:Nat} (ht:t∈kZ x.o):kC I i≠some t:=by
 intro e;unfold kC at e;rw [hx] at e;have:=hI.own i x hx;unfold Cv at this;simp only at e;rw [e] at this;simp only [bV] at this;rw [iD.2 ht] at this;cases this
theorem G0 (I:List dK) (fr0:List (Nat×SV)) (k1 k2:Nat->Bool) {t:Nat}:∀ (res:List (Nat×SV)),(∀ p∈res,kC I p.1=some t->k1 p.1=k2 p.1)->look (fS I fr0 (res.filter fun p=>k1 p.1)) t=look (fS I fr0 (res.filter fun p=>k2 p.1)) t:=by
 intro res;induction res with
 | nil=>intro _; rfl
 | cons p r ih =>
  obtain ⟨i,s⟩:=p;intro h;have ihr:=ih fun p hp=>h p (aK _ hp);rw [iN,iN];by_cases hd:kC I i=some t
  ·have:=h (i,s) (aQ ..) hd;simp only at this;simp only;rw [this];split
   ·rw [gH,gH,ihr]
   ·exact ihr
  ·have e1:∀ (b:Bool) (l:List (Nat×SV)),look (fS I fr0 (if b=true then (i,s)::l else l)) t=look (fS I fr0 l) t:=by
    intro b l;cases b with
    | true=>rw [if_pos rfl,gH,if_neg hd]
    | false=>rfl
   rw [e1,e1,ihr]
theorem U3:∀ {res:List (Nat×SV)},(res.map (·.1)).Nodup->∀ {i:Nat} {s s':SV},(i,s)∈res->(i,s')∈res->s=s':=by
 intro res;induction res with
 | nil=>intro _ i s s' h; cases h
 | cons p r ih =>
  intro hn i s s' h h';simp only [bL,dX] at hn;rcases aI.1 h with e|h1 <;> rcases aI.1 h' with e'|h2
  ·rw [<- e] at e'; cases e'; rfl
  ·rw [<- e] at hn;exact absurd (bF.2 ⟨(i,s'),h2,rfl⟩) hn.1
  ·rw [<- e'] at hn;exact absurd (bF.2 ⟨(i,s),h1,rfl⟩) hn.1
  ·exact ih hn.2 h1 h2
section
variable {T:Tb} {K:St->Prop} {fr0:List (Nat×SV)} {res:List (Nat×SV)} {keep:Nat->Bool} {t:hZ} {hp:List (Nat×aT)} {nx:Nat} {μ:Nat->Option (Nat×Nat)} {a:Act} {w:World}
theorem oO.Mt (hI:DOk P C.n ops I) (h0:iU fr0 []) (h:oO I T K fr0 C res keep t hp nx μ a w) {i:Nat} (hi:i ∉ res.map (·.1)) {s:SV} {hp':List (Nat×aT)} {nx':Nat} {p:Nat×SV} (hp1:p∈res) {x:dK} (hx:I[p.1]?=some x) (hpf:PF T.fs (fS I fr0 res) hp nx x.o p.2)
  (he:evP T.fs x.o.guard ⟨fS I fr0 res,hp',nx'⟩ x.o.op=evP T.fs x.o.guard ⟨fS I fr0 res,hp,nx⟩ x.o.op):PF T.fs (fS I fr0 ((i,s)::res)) hp' nx' x.o p.2:=by
 have hS:∀ j y,j∈res.map (·.1)->I[j]?=some y->∀ q∈y.pre,q∈res.map (·.1):=by
  intro j y hj hy;obtain ⟨q,hq,rfl⟩:=bF.1 hj;exact h.dS q hq y hy
 have same:∀ {j:Nat} {y:dK} {t:Nat},j∈res.map (·.1)->I[j]?=some y->t∈kZ y.o->look (fS I fr0 res) t=look (fS I fr0 ((i,s)::res)) t:=by
  intro j y t hj hy ht;rw [gH,if_neg];intro hd;rcases hI.named (S:=fun q=>q∈res.map (·.1)) hS hy (hS j y hj hy) (yG ht) hd with e|e
  ·subst e; exact hi hj
  ·exact hi e
 have hpm:p.1∈res.map (·.1):=bF.2 ⟨p,hp1,rfl⟩;refine Pn hpf ?_ ?_
 ·rw [<- he];exact xR fun q hq=>same hpm hx (by unfold kZ; exact eU _ hq)
 ·intro d0 wt hg;refine rN (fun t=>∃ j y,j∈res.map (·.1)/\I[j]?=some y/\t∈kZ y.o) ?_ 10 d0 wt ⟨p.1,x,hpm,hx,by unfold kZ; rw [hg]; simp⟩;rintro t ⟨j,y,hj,hy,ht⟩;refine ⟨same hj hy ht,fun d wl v hl=>?_⟩;rcases tZ I fr0 (t:=t) res with e|⟨q,hq,hqd,e⟩
  ·rw [e] at hl;have:=h0 _ _ _ _ hl;simp [eE] at this
  ·rw [e] at hl;obtain ⟨z,hz,hzg⟩:=h.gd q hq d wl v hl;exact ⟨q.1,z,bF.2 ⟨q,hq,rfl⟩,hz,by unfold kZ; rw [hzg]; simp⟩
theorem oO.adv (hI:DOk P C.n ops I) (h0:iU fr0 []) {i:Nat} {o:fF} {rest:hZ} (h:oO I T K fr0 C res keep (.pure i o rest) hp nx μ a w):∃ s,oO I T K fr0 C ((i,s)::res) keep rest hp nx μ a w:=by
 obtain ⟨⟨x,hx,hxo,hxe,hiS,hpre⟩,htr⟩:=h.tr;have hki:keep i=false:=by
  cases e:keep i with
  | false=>rfl
  | true=>exact absurd (h.kS i e) hiS
 obtain ⟨d,hd⟩:=hI.dst i x hx hxe;have hdi:kC I i=some d:=by unfold kC; rw [hx]; exact hd
 have hown:∀ t∈kZ x.o,d≠t:=by
  intro t ht e;exact hI.Za hx ht (by rw [hdi,e])
 -- whatever is found
 have fin:∀ s,evD T rest ((d,s)::fS I fr0 res) hp nx K->(∀ d w v,s=.gd d w v->x.o.guard=some (d,w))->PF T.fs (fS I fr0 res) hp nx x.o s->oO I T K fr0 C ((i,s)::res) keep rest hp nx μ a w:=by
  intro s hev hgd hpf;have hfrc:fS I fr0 ((i,s)::res)=(d,s)::fS I fr0 res:=by simp only [fS,hdi]
  refine ⟨by rw [hfrc]; exact hev,htr,?_,?_,?_,?_,?_,h.kD,?_,?_,?_⟩
  ·simp only [bL,dX]; exact ⟨hiS,h.nd⟩
  ·intro p hp;rcases aI.1 hp with rfl|hp
   ·exact ⟨x,hx⟩
   ·exact h.inI p hp
  ·intro p hp y hy q hq;rcases aI.1 hp with rfl|hp
   ·rw [hx] at hy; cases hy;exact aK _ (hpre q hq)
   ·exact aK _ (h.dS p hp y hy q hq)
  ·intro j hj; exact aK _ (h.kS j hj)
  ·intro p hp y hy he;rcases aI.1 hp with rfl|hp
   ·rw [hx] at hy; cases hy; rw [hxe] at he; cases he
   ·exact h.kE p hp y hy he
  ·intro p hp d' w' v e;rcases aI.1 hp with rfl|hp
   ·exact ⟨x,hx,hgd d' w' v e⟩
   ·exact h.gd p hp d' w' v e
  ·intro p hp1 y hy he hk;rcases aI.1 hp1 with rfl|hp1
   ·rw [hx] at hy;cases hy;refine Pn hpf ?_ ?_
    ·exact xR fun q hq=>by rw [hfrc,jM,if_neg (hown q (by unfold kZ; exact eU _ hq))]
    ·intro d0 wt hg;have hlk:∀ t∈kZ x.o,look (fS I fr0 res) t=look (fS I fr0 ((i,s)::res)) t:=fun t ht=>by rw [hfrc,jM,if_neg (hown t ht)]
     have hS:∀ j y,j∈res.map (·.1)->I[j]?=some y->∀ q∈y.pre,q∈res.map (·.1):=by
      intro j y hj hy;obtain ⟨q,hq,rfl⟩:=bF.1 hj;exact h.dS q hq y hy
     refine rN (fun t=>t∈kZ x.o\/∃ j y,j∈res.map (·.1)/\I[j]?=some y/\t∈kZ y.o) ?_ 10 d0 wt (.inl (by unfold kZ; rw [hg]; simp));intro t ht;refine ⟨?_,fun d' wl v hl=>?_⟩
     ·rcases ht with ht|⟨j,y,hj,hy,ht⟩
      ·exact hlk t ht
      ·rw [hfrc,jM,if_neg];intro hdt;subst hdt;rcases hI.named (S:=fun q=>q∈res.map (·.1)) hS hy (hS j y hj hy) (yG ht) hdi with e|e
       ·subst e; exact hiS hj
       ·exact hiS e
     ·rcases tZ I fr0 (t:=t) res with e|⟨q,hq,hqd,e⟩
      ·rw [e] at hl;have:=h0 _ _ _ _ hl;simp [eE] at this
      ·rw [e] at hl;obtain ⟨z,hz,hzg⟩:=h.gd q hq d' wl v hl;exact .inr ⟨q.1,z,bF.2 ⟨q,hq,rfl⟩,hz,by unfold kZ; rw [hzg]; simp⟩
   ·exact h.Mt hI h0 hiS hp1 hy (h.pf p hp1 y hy he hk) rfl
  ·rw [iN,if_neg (by simp [hki])];exact h.rep
 have hev:=h.ev;simp only [evD] at hev;rw [<- hxo,hd] at hev;simp only at hev;split at hev
 ·rename_i hg;split at hev
  ·exact hev.elim
  ·rename_i v hv;simp only [lH,gA] at hev;split at hev
   ·exact hev.elim
   ·rename_i hng;refine ⟨v,fin v hev (fun d w u e=>absurd e (hng d w u)) ?_⟩;unfold PF;rw [hg];exact ⟨hng,by rw [hv]; rfl⟩
  ·rename_i p v hv;simp only [lH,gA] at hev;obtain ⟨hp1,hev⟩:=hev;split at hev
   ·exact hev.elim
   ·rename_i hng;refine ⟨v,fin v hev (fun d w u e=>absurd e (hng d w u)) ?_⟩;unfold PF;rw [hg];exact ⟨hng,by rw [hv]; exact ⟨hp1,rfl⟩⟩
 ·rename_i d0 wt hg;split at hev
  ·rename_i hv;obtain ⟨hnp,hev⟩:=hev;refine ⟨_,fin _ hev (fun d w u e=>by cases e; exact hg) ?_⟩;unfold PF;rw [hg];refine ⟨_,rfl,?_⟩;rw [hv];exact ⟨rfl,hnp⟩
  ·rename_i v hv;rw [gA] at hev;refine ⟨_,fin _ hev (fun d w u e=>by cases e; exact hg) ?_⟩;unfold PF;rw [hg];refine ⟨_,rfl,?_⟩;rw [hv]
  ·rename_i p v hv;obtain ⟨hnp,hev⟩:=hev;rw [gA] at hev;refine ⟨_,fin _ hev (fun d w u e=>by cases e; exact hg) ?_⟩;unfold PF;rw [hg];refine ⟨_,rfl,?_⟩;rw [hv];exact ⟨hnp,rfl⟩
end
end
end Go.Eng
end
section
namespace Go.Eng
open Go Go.RowKit
section
variable {P:Program} {C:Ctx} {ro:Option Nat} {ops:Array Oper} {I:List dK}
variable {T:Tb} {K:St->Prop} {fr0:List (Nat×SV)} {res:List (Nat×SV)} {keep:Nat->Bool} {t:hZ} {hp:List (Nat×aT)} {nx:Nat} {μ:Nat->Option (Nat×Nat)} {a:Act} {w:World}
def plus (keep:Nat->Bool) (i:Nat):Nat->Bool:=fun j=>j == i || keep j
theorem oO.look (hI:DOk P C.n ops I) (h0:iU fr0 []) (h:oO I T K fr0 C res keep t hp nx μ a w) {i:Nat} {x:dK} (hx:I[i]?=some x) (hpre:∀ q∈x.pre,keep q=true) :
  (∀ t∈kZ x.o,Eng.look (fS I fr0 res) t=Eng.look (fS I fr0 (res.filter fun p=>keep p.1)) t) /\
  (∀ d w,x.o.guard=some (d,w)->∃ G:Nat->Prop,G d/\∀ t,G t->Eng.look (fS I fr0 res) t=Eng.look (fS I fr0 (res.filter fun p=>keep p.1)) t/\∀ d' w' v,Eng.look (fS I fr0 res) t=.gd d' w' v->G d'):=by
 have hS:∀ j y,keep j=true->I[j]?=some y->∀ q∈y.pre,keep q=true:=h.kD;have same:∀ {j:Nat} {y:dK} {t:Nat},I[j]?=some y->(∀ q∈y.pre,keep q=true)->t∈kZ y.o->Eng.look (fS I fr0 res) t=Eng.look (fS I fr0 (res.filter fun p=>keep p.1)) t/\∀ p∈res,kC I p.1=some t->keep p.1=true:=by
  intro j y t hy hp ht;have hk:∀ p∈res,kC I p.1=some t->keep p.1=true:=by
   intro p _ hd;rcases hI.named (S:=fun q=>keep q=true) hS hy hp (yG ht) hd with e|e
   ·subst e; exact absurd hd (hI.Za hy ht)
   ·exact e
  exact ⟨(Oi I fr0 keep res hk).symm,hk⟩
 refine ⟨fun t ht=>(same hx hpre ht).1,fun d wt hg=>⟨fun t=>∃ j y,I[j]?=some y/\(∀ q∈y.pre,keep q=true)/\t∈kZ y.o,⟨i,x,hx,hpre,by unfold kZ; rw [hg]; simp⟩,?_⟩⟩;rintro t ⟨j,y,hy,hp,ht⟩;obtain ⟨e1,e2⟩:=same hy hp ht;refine ⟨e1,fun d' w' v hl=>?_⟩;rcases tZ I fr0 (t:=t) res with e|⟨q,hq,hqd,e⟩
 ·rw [e] at hl;have:=h0 _ _ _ _ hl;simp [eE] at this
 ·rw [e] at hl;obtain ⟨z,hz,hzg⟩:=h.gd q hq d' w' v hl;exact ⟨q.1,z,hz,hS q.1 z (e2 q hq hqd) hz,by unfold kZ; rw [hzg]; simp⟩
theorem oO.free (hI:DOk P C.n ops I) (h0:iU fr0 []) (h:oO I T K fr0 C res keep t hp nx μ a w) {i d:Nat} (hd:kC I i=some d) (hk:keep i=false):∀ t d' w' y,Eng.look (fS I fr0 (res.filter fun p=>keep p.1)) t=.gd d' w' y->d'≠d:=by
 intro t d' w' y hl e;subst e;rcases tZ I fr0 (t:=t) (res.filter fun p=>keep p.1) with e|⟨q,hq,hqd,e⟩
 ·rw [e] at hl;have:=h0 _ _ _ _ hl;simp [eE] at this
 ·rw [e] at hl;obtain ⟨hq1,hq2⟩:=dI.1 hq;obtain ⟨z,hz,hzg⟩:=h.gd q hq1 d' w' y hl;rcases hI.named (S:=fun q=>keep q=true) h.kD hz (h.kD q.1 z hq2 hz) (t:=d') (j:=i) (Jb hzg) hd with e|e
  ·subst e;rw [hq2] at hk; cases hk
  ·rw [e] at hk; cases hk
theorem Oj (hI:DOk P C.n ops I) (hnd:(res.map (·.1)).Nodup) {i d:Nat} {s:SV} (hm:(i,s)∈res) (hd:kC I i=some d):∀ t,Eng.look (fS I fr0 (res.filter fun p=>plus keep i p.1)) t=if d=t then s else Eng.look (fS I fr0 (res.filter fun p=>keep p.1)) t:=by
 intro t;by_cases e:d=t
 ·subst e;rw [if_pos rfl];refine Rm I fr0 _ (dI.2 ⟨hm,by simp [plus]⟩) hd ?_;intro p hp hpd;have:=hI.uniq hpd hd;obtain ⟨p1,p2⟩:=p;simp only at this;subst this;rw [U3 hnd (dI.1 hp).1 hm]
 ·rw [if_neg e];refine G0 I fr0 (plus keep i) keep res ?_;intro p _ hpd;unfold plus;have:(p.1 == i)=false:=by
   rw [beq_eq_false_iff_ne];rintro e';rw [e',hd] at hpd;exact e (bK hpd)
  rw [this]; rfl
theorem R8 (a:Act) (v:Value):a.put none v=a:=rfl
theorem Pd (htab:xI P C T) (hI:DOk P C.n ops I) (h0:iU fr0 []) (h:oO I T K fr0 C res keep t hp nx μ a w) {i:Nat} {o:Oper} {x:dK} (ho:ops[i]?=some o) (hx:I[i]?=some x) (hco:uL P C.n ops.toList o=some x.o) (hxe:x.eff=false)
  (hm:i∈res.map (·.1)) (hk:keep i=false) (hpre:∀ q∈x.pre,keep q=true) {Q:Exit->Act->World->Prop} :
  wpOpIn (WF ro) 0 P ops Q i (fun a' w'=>∃ μ',oO I T K fr0 C res (plus keep i) t hp nx μ' a' w') a w:=by
 obtain ⟨⟨i',s⟩,hp1,rfl⟩:=bF.1 hm;simp only at hx ho hk hpre hm ⊢;have hpf:=h.pf _ hp1 x hx hxe hk;simp only at hpf;obtain ⟨d,hd⟩:=hI.dst i' x hx hxe;have hdi:kC I i'=some d:=by unfold kC; rw [hx]; exact hd
 obtain ⟨hlk,hgk⟩:=h.look hI h0 hx hpre
 -- what is known,at the slots that have been written
 have hpf':PF T.fs (fS I fr0 (res.filter fun p=>keep p.1)) hp nx x.o s:=by
  refine Pn hpf (xR fun q hq=>hlk q (by unfold kZ; exact eU _ hq)) ?_;intro d0 wt hg;obtain ⟨G,g1,g2⟩:=hgk d0 wt hg;exact rN G g2 10 d0 wt g1
 -- the translation
 unfold uL at hco;split at hco;rotate_left
 ·cases hco
 rename_i sop g h3 h4;cases hdst:Lq C.n o.dst with
 | false=>simp [hdst] at hco
 | true =>
 simp only [hdst,cond_true,aJ] at hco;rw [<- hco] at hd hpf';have hodst:o.dst=some d:=hd;have hnd:∀ c,o.op≠.defer c:=by
  rintro c e;rw [e] at h3;simp [cOp] at h3
 have hdn:d < C.n:=by
  rw [hodst] at hdst;have h1:Nat.ble (d+1) C.n=true:=hdst;exact aM h1
 have fin:∀ w' v,Below w.heap.size w w'->gN (aN C μ hp w') (a.tmps.setIfInBounds d v) s v->∃ μ',oO I T K fr0 C res (plus keep i') t hp nx μ' (a.put o.dst v) w':=by
  intro w' v hb hs;rw [hodst];refine ⟨μ,⟨h.ev,h.tr,h.nd,h.inI,h.dS,?_,?_,?_,h.gd,?_,?_⟩⟩
  ·intro j hj;unfold plus at hj;rcases iR.1 hj with e|e
   ·rw [beq_iff_eq.1 e]; exact hm
   ·exact h.kS j e
  ·intro p hp2 y hy he;unfold plus;rw [h.kE p hp2 y hy he]; simp
  ·intro j y hj hy q hq;unfold plus at hj ⊢;rcases iR.1 hj with e|e
   ·rw [beq_iff_eq.1 e,hx] at hy;cases hy;rw [hpre q hq]; simp
   ·rw [h.kD j y e hy q hq]; simp
  ·intro p hp2 y hy he hkp;unfold plus at hkp;exact h.pf p hp2 y hy he (eD.1 hkp).2
  ·exact (h.rep.below hb).set' hdn (h.free hI h0 hdi hk) hs (Oj hI h.nd hp1 hdi)
 unfold wpOpIn;simp only [ho];unfold PF at hpf';cases g with
 | none =>
  simp only at hpf';have hw:Region.wanted o (yielded ops a.tmps)=true:=(gV h4).2 (fun _ _ e=>by cases e);rw [if_pos hw];refine kX hnd ?_;obtain ⟨s',hs',hdo⟩:=tU htab.fs (htab.g.at h.rep.hep.frm) h.rep (g:=none) (fun _ _ e=>by cases e) h3 hpf'.2;refine hdo.mono ?_;rintro v w' ⟨hb,hr⟩;subst hs';exact fin w' v hb (rJ hr hpf'.1)
 | some gw =>
  obtain ⟨d0,wt⟩:=gw;obtain ⟨v0,hs0,hpf'⟩:=hpf';have hne:d0≠d:=by
   rintro rfl;exact hI.Za hx (t:=d0) (by rw [<- hco]; unfold kZ; simp) hdi
  by_cases hw:Region.wanted o (yielded ops a.tmps)=true
  ·have hg:=(gV h4).1 hw;have hgd:a.tmps.getD d0 undef=.bool wt:=hg d0 wt rfl;have hgp:=rO h.rep.fr 10 d0 wt hgd;rw [if_pos hw];have he':(evP T.fs (some (d0,wt)) ⟨fS I fr0 (res.filter fun p=>keep p.1),hp,nx⟩ sop).holds (fun u=>u=v0):=by
    simp only at hpf';split at hpf'
    ·rename_i u hu; rw [hu]; exact hpf'
    ·rename_i p u hu; rw [hu]; exact ⟨hpf'.1 hgp,hpf'.2⟩
    ·exact absurd hgp hpf'.2
   refine kX hnd ?_;obtain ⟨s',hs',hdo⟩:=tU htab.fs (htab.g.at h.rep.hep.frm) h.rep hg h3 he';refine hdo.mono ?_;rintro v w' ⟨hb,hr⟩;subst hs';refine fin w' v hb ?_;rw [hs0];simp only [gN];rw [fO _ _ _ _ hne,hgd];exact ⟨fun _=>hr,fun e=>absurd rfl e⟩
  ·have hg:¬ a.tmps.getD d0 undef=.bool wt:=by
    intro e;exact hw ((gV h4).2 (fun d' w' e'=>by cases e'; exact e))
   rw [if_neg hw];refine ⟨fun f _=>yS ro f,fin w undef (Below.refl _ _) ?_⟩;rw [hs0];simp only [gN];rw [fO _ _ _ _ hne];exact ⟨fun e=>absurd e hg,fun _=>trivial⟩
def Ey (T:Tb) (o:fF) (stab:List fF) (sub:hZ) (fr:List (Nat×SV)) (hp:List (Nat×aT)) (nx:Nat) (k:St->Prop):Prop :=
 match o.guard with
 | none=>evE T none ⟨fr,hp,nx⟩ (fun s st'=>stK st' fun hp' nx'=>tN T.fs fr hp nx hp' nx' stab/\yJ o.dst s fr fun fr'=>evD T sub fr' hp' nx' k) o.op
 | some (d0,w)=>oH fr 10 d0 w (evE T (some (d0,w)) ⟨fr,hp,nx⟩ (fun s st'=>stK st' fun hp' nx'=>tN T.fs fr hp nx hp' nx' stab/\yJ o.dst s fr fun fr'=>evD T sub fr' hp' nx' k) o.op)
   (yJ o.dst (.tup .nil) fr fun fr'=>evD T sub fr' hp nx k)
theorem Ix {S:List Nat} {fr:List (Nat×SV)} {i:Nat} {x:dK} (hx:I[i]?=some x) (hxe:x.eff=true) (hi:i ∉ S) (hp0:∀ p∈x.pre,p∈S):∀ (t:hZ) (es:List Nat),i ∉ es->lD I (some es) S t->evD T t fr hp nx K ->
  ∃ stab sub,Ey T x.o stab sub fr hp nx K/\(∀ j∈S,∀ y,I[j]?=some y->y.eff=false->pV y.o.op=true->x.tp.testBit j=false->y.o∈stab)/\lD I none (i::S) sub:=by
 intro t;induction t with
 | done=>intro es _ h; exact h.elim
 | pure=>intro es _ h; exact h.elim
 | none=>intro es he h _; exact absurd (h i x hx hxe hi hp0) he
 | eff e o stab sub alt _ iha =>
  intro es he h hev;obtain ⟨⟨y,hy,hyo,hye,hyS,hyp,hst⟩,hsub,halt⟩:=h;obtain ⟨hn,hea⟩:=hev;by_cases hei:e=i
  ·subst hei;rw [hx] at hy;cases hy;subst hyo;exact ⟨stab,sub,hn,hst,hsub⟩
  ·exact iha (e::es) (by simp [he,Ne.symm hei]) halt hea
theorem Pc {tab:List (Nat×iA)} {fr:List (Nat×SV)} {hp':List (Nat×aT)} {nx':Nat}:∀ {l:List fF},tN tab fr hp nx hp' nx' l->∀ o∈l,evP tab o.guard ⟨fr,hp',nx'⟩ o.op=evP tab o.guard ⟨fr,hp,nx⟩ o.op:=by
 intro l;induction l with
 | nil=>intro _ o h; cases h
 | cons b r ih =>
  intro h o ho;rcases aI.1 ho with rfl|ho
  ·exact h.1
  ·exact ih h.2 o ho
theorem Su (htab:xI P C T) (hI:DOk P C.n ops I) (h0:iU fr0 []) (h:oO I T K fr0 C res keep t hp nx μ a w) {i:Nat} {o:Oper} {x:dK} (ho:ops[i]?=some o) (hx:I[i]?=some x) (hco:uL P C.n ops.toList o=some x.o) (_hxe:x.eff=true)
  (hm:i ∉ res.map (·.1)) (hpre:∀ q∈x.pre,keep q=true) {stab:List fF} {sub:hZ} (hev:Ey T x.o stab sub (fS I fr0 res) hp nx K)
  (hst:∀ j∈res.map (·.1),∀ y,I[j]?=some y->y.eff=false->pV y.o.op=true->x.tp.testBit j=false->y.o∈stab) (htr:lD I none (i::res.map (·.1)) sub) {Q:Exit->Act->World->Prop} :
  wpOpIn (WF ro) 0 P ops Q i (fun a' w'=>∃ res' t' hp' nx' μ',oO I T K fr0 C res' (plus keep i) t' hp' nx' μ' a' w') a w:=by
 have hk:keep i=false:=by
  cases e:keep i with
  | false=>rfl
  | true=>exact absurd (h.kS i e) hm
 obtain ⟨hlk,hgk⟩:=h.look hI h0 hx hpre;have hag:Agree (vR x.o.op) (fS I fr0 res) (fS I fr0 (res.filter fun p=>keep p.1)):=fun q hq=>hlk q (by unfold kZ; exact eU _ hq);have hfilt:∀ s,((i,s)::res).filter (fun p=>plus keep i p.1)=(i,s)::res.filter (fun p=>keep p.1):=by
  intro s;rw [iN,if_pos (by simp [plus])];congr 1;refine List.filter_congr fun p hp1=>?_;unfold plus;have:(p.1 == i)=false:=by
   rw [beq_eq_false_iff_ne];rintro e;exact hm (e ▸ bF.2 ⟨p,hp1,rfl⟩)
  rw [this]; rfl
 -- what follows
 have fin:∀ (s:SV) (hp':List (Nat×aT)) (nx':Nat) (μ':Nat->Option (Nat×Nat)) (v:Value) (w':World),(∀ p∈res,∀ y,I[p.1]?=some y->y.eff=false->keep p.1=false->evP T.fs y.o.guard ⟨fS I fr0 res,hp',nx'⟩ y.o.op=evP T.fs y.o.guard ⟨fS I fr0 res,hp,nx⟩ y.o.op) ->
   dR C μ' ⟨fS I fr0 (res.filter fun p=>keep p.1),hp',nx'⟩ a w'->R (aN C μ' hp' w') s [v]->(∀ d,x.o.dst=some d->d < C.n) ->
   yJ x.o.dst s (fS I fr0 res) (fun fr'=>evD T sub fr' hp' nx' K)->∃ res' t' hp'' nx'' μ'',oO I T K fr0 C res' (plus keep i) t' hp'' nx'' μ'' (a.put x.o.dst v) w':=by
  intro s hp' nx' μ' v w' hstab hrep hR hdn hsx;have mk:∀ (s:SV) (hev':evD T sub (fS I fr0 ((i,s)::res)) hp' nx' K) (hgd:∀ d w v,s=.gd d w v->False) (hrep':dR C μ' ⟨fS I fr0 ((i,s)::res.filter fun p=>keep p.1),hp',nx'⟩ (a.put x.o.dst v) w'),
    ∃ res' t' hp'' nx'' μ'',oO I T K fr0 C res' (plus keep i) t' hp'' nx'' μ'' (a.put x.o.dst v) w':=by
   intro s hev' hgd hrep';refine ⟨(i,s)::res,sub,hp',nx',μ',⟨hev',htr,?_,?_,?_,?_,?_,?_,?_,?_,by rw [hfilt]; exact hrep'⟩⟩
   ·simp only [bL,dX]; exact ⟨hm,h.nd⟩
   ·intro p hp2;rcases aI.1 hp2 with rfl|hp2
    ·exact ⟨x,hx⟩
    ·exact h.inI p hp2
   ·intro p hp2 y hy q hq;rcases aI.1 hp2 with rfl|hp2
    ·rw [hx] at hy; cases hy;exact aK _ (h.kS q (hpre q hq))
    ·exact aK _ (h.dS p hp2 y hy q hq)
   ·intro j hj;unfold plus at hj;rcases iR.1 hj with e|e
    ·rw [beq_iff_eq.1 e]; exact aQ ..
    ·exact aK _ (h.kS j e)
   ·intro p hp2 y hy he;unfold plus;rcases aI.1 hp2 with rfl|hp2
    ·simp
    ·rw [h.kE p hp2 y hy he]; simp
   ·intro j y hj hy q hq;unfold plus at hj ⊢;rcases iR.1 hj with e|e
    ·rw [beq_iff_eq.1 e,hx] at hy;cases hy;rw [hpre q hq]; simp
    ·rw [h.kD j y e hy q hq]; simp
   ·intro p hp2 d w v e;rcases aI.1 hp2 with rfl|hp2
    ·exact (hgd d w v e).elim
    ·exact h.gd p hp2 d w v e
   ·intro p hp2 y hy he hkp;unfold plus at hkp;obtain ⟨k1,k2⟩:=eD.1 hkp;rcases aI.1 hp2 with rfl|hp2
    ·simp at k1
    ·exact h.Mt hI h0 hm hp2 hy (h.pf p hp2 y hy he k2) (hstab p hp2 y hy he k2)
  unfold yJ at hsx;split at hsx
  ·rename_i hd;have hdi:kC I i=none:=by unfold kC; rw [hx]; exact hd
   have e1:∀ r,fS I fr0 ((i,.junk)::r)=fS I fr0 r:=fun r=>by simp only [fS,hdi]
   refine mk .junk (by rw [e1]; exact hsx) (fun _ _ _ e=>by cases e) ?_;rw [e1,hd,R8];exact hrep
  ·rename_i d hd;simp only [lH,gA] at hsx;split at hsx
   ·exact hsx.elim
   ·rename_i hng;have hdi:kC I i=some d:=by unfold kC; rw [hx]; exact hd
    have e2:∀ r,fS I fr0 ((i,s)::r)=(d,s)::fS I fr0 r:=fun r=>by simp only [fS,hdi]
    refine mk _ (by rw [e2]; exact hsx) (fun d w v e=>hng d w v e) ?_;rw [hd];refine hrep.set' (hdn d hd) (h.free hI h0 hdi hk) (rJ hR hng) ?_;intro t;rw [e2,jM]
 -- the translation
 have hco0:=hco;unfold uL at hco;split at hco;rotate_left
 ·cases hco
 rename_i sop g h3 h4;cases hdst:Lq C.n o.dst with
 | false=>simp [hdst] at hco
 | true =>
 simp only [hdst,cond_true,aJ] at hco;have hxd:x.o.dst=o.dst:=by rw [<- hco]
 have hxg:x.o.guard=g:=by rw [<- hco]
 have hxop:x.o.op=sop:=by rw [<- hco]
 have hnd:∀ c,o.op≠.defer c:=by
  rintro c e;rw [e] at h3;simp [cOp] at h3
 have hdn:∀ d,x.o.dst=some d->d < C.n:=by
  intro d e;rw [hxd] at e;rw [e] at hdst;have h1:Nat.ble (d+1) C.n=true:=hdst;exact aM h1
 have stab_ok:∀ (hp':List (Nat×aT)) (nx':Nat),tN T.fs (fS I fr0 res) hp nx hp' nx' stab->∀ p∈res,∀ y,I[p.1]?=some y->y.eff=false->keep p.1=false->evP T.fs y.o.guard ⟨fS I fr0 res,hp',nx'⟩ y.o.op=evP T.fs y.o.guard ⟨fS I fr0 res,hp,nx⟩ y.o.op:=by
  intro hp' nx' hs p hp2 y hy he hkp;cases hr:pV y.o.op with
  | false=>exact X4 hr
  | true =>
   refine Pc hs _ (hst p.1 (bF.2 ⟨p,hp2,rfl⟩) y hy he hr ?_);cases hb:x.tp.testBit p.1 with
   | false=>rfl
   | true =>
    have:=hI.S1 (S:=fun q=>keep q=true) h.kD i x p.1 hx hpre hb;rw [this] at hkp; cases hkp
 unfold wpOpIn;simp only [ho];unfold Ey at hev;simp only [Zn] at hev;rw [hxg] at hev;cases g with
 | none =>
  simp only at hev;have hw:Region.wanted o (yielded ops a.tmps)=true:=(gV h4).2 (fun _ _ e=>by cases e);rw [if_pos hw];refine kX hnd ?_;have hev':=Cc (K:=fun s hp' nx'=>tN T.fs (fS I fr0 res) hp nx hp' nx' stab/\yJ x.o.dst s (fS I fr0 res) fun fr'=>evD T sub fr' hp' nx' K) hag hev;rw [hxop] at hev';refine (tT htab h.rep (g:=none) (fun _ _ e=>by cases e) h3 hev').mono ?_;rintro v w' ⟨s,st',μ',⟨k1,k2⟩,hfr,hE,hh,hR⟩;rw [<- hxd];have hrep:=h.rep.Fe hfr hE hh;obtain ⟨fr1,hp1,nx1⟩:=st';simp only at hfr;subst hfr;exact fin s hp1 nx1 μ' v w' (stab_ok hp1 nx1 k1) hrep hR hdn k2
 | some gw =>
  obtain ⟨d0,wt⟩:=gw;simp only at hev;obtain ⟨G,g1,g2⟩:=hgk d0 wt hxg;have hev2:=Ef G g2 10 d0 wt _ _ g1 hev;rcases wK h.rep.fr 10 d0 wt _ _ hev2 with ⟨hgd,hy⟩|⟨hgd,hn⟩
  ·have hg:GOk (some (d0,wt)) a.tmps:=by intro d w e; cases e; exact hgd
   have hw:Region.wanted o (yielded ops a.tmps)=true:=(gV h4).2 hg;rw [if_pos hw];refine kX hnd ?_;have hev':=Cc (K:=fun s hp' nx'=>tN T.fs (fS I fr0 res) hp nx hp' nx' stab/\yJ x.o.dst s (fS I fr0 res) fun fr'=>evD T sub fr' hp' nx' K) hag hy;rw [hxop] at hev';refine (tT htab h.rep hg h3 hev').mono ?_;rintro v w' ⟨s,st',μ',⟨k1,k2⟩,hfr,hE,hh,hR⟩;rw [<- hxd];have hrep:=h.rep.Fe hfr hE hh;obtain ⟨fr1,hp1,nx1⟩:=st';simp only at hfr;subst hfr;exact fin s hp1 nx1 μ' v w' (stab_ok hp1 nx1 k1) hrep hR hdn k2
  ·have hw:¬ Region.wanted o (yielded ops a.tmps)=true:=by
    intro e;exact hgd ((gV h4).1 e d0 wt rfl)
   rw [if_neg hw];refine ⟨fun f _=>yS ro f,?_⟩;rw [<- hxd];exact fin (.tup .nil) hp nx μ undef w (fun _ _ _ _ _ _=>rfl) h.rep ⟨[],rfl,rfl⟩ hdn hn
def Jl:hZ->Bool
 | .pure ..=>true
 | _=>false
theorem oO.norm (hI:DOk P C.n ops I) (h0:iU fr0 []):∀ (t:hZ) (res:List (Nat×SV)),oO I T K fr0 C res keep t hp nx μ a w->∃ res' t',Jl t'=false/\oO I T K fr0 C res' keep t' hp nx μ a w:=by
 intro t;induction t with
 | pure i o rest ih =>
  intro res h;obtain ⟨s,h'⟩:=h.adv hI h0;exact ih _ h'
 | done=>intro res h; exact ⟨res,_,rfl,h⟩
 | none=>intro res h; exact ⟨res,_,rfl,h⟩
 | eff=>intro res h; exact ⟨res,_,rfl,h⟩
theorem H9 {S:List Nat} {t:hZ} (h:lD I none S t) (hp:Jl t=false) (hlen:∀ i x,I[i]?=some x->i < I.length):Closed I S:=by
 cases t with
 | done=>intro i x hx _ _; exact h i (hlen i x hx)
 | none=>exact h.1
 | pure=>cases hp
 | eff=>exact h.1
theorem Ph {S:List Nat} {fr:List (Nat×SV)} {hp':List (Nat×aT)} {t:hZ} {i:Nat} {x:dK} (hx:I[i]?=some x) (hxe:x.eff=true) (hi:i ∉ S) (hp0:∀ p∈x.pre,p∈S) (h:lD I none S t) (hp:Jl t=false) (hlen:∀ i x,I[i]?=some x->i < I.length) (hev:evD T t fr hp' nx K) :
  ∃ stab sub,Ey T x.o stab sub fr hp' nx K/\(∀ j∈S,∀ y,I[j]?=some y->y.eff=false->pV y.o.op=true->x.tp.testBit j=false->y.o∈stab)/\lD I none (i::S) sub:=by
 cases t with
 | done=>exact absurd (h i (hlen i x hx)) hi
 | none=>exact (h.2.2 i x hx hxe hi hp0).elim
 | pure=>cases hp
 | eff e o stab sub alt =>
  obtain ⟨hcl,_,⟨y,hy,hyo,hye,hyS,hyp,hst⟩,hsub,halt⟩:=h;obtain ⟨hn,hea⟩:=hev;by_cases hei:e=i
  ·subst hei;rw [hx] at hy;cases hy;subst hyo;exact ⟨stab,sub,hn,hst,hsub⟩
  ·exact Ix hx hxe hi hp0 alt [e] (by simp [Ne.symm hei]) halt hea
def dM (l:Array Bool):Nat->Bool:=fun j=>l.getD j false
theorem wpAny_all {listed:Array Bool} (hall:∀ i,i < ops.size->dM listed i=true) (hsz:listed.size=ops.size) {Q:Exit->Act->World->Prop} (fuel:Nat) {a:Act} {w:World} (h:Q .normal a w):wpAnyIn (WF ro) 0 P .any ops Q fuel listed a w:=by
 have hr:Region.ready .any ops listed=[]:=by
  refine List.eq_nil_iff_forall_not_mem.2 fun i hi=>?_;unfold Region.ready at hi;obtain ⟨h1,h2⟩:=dI.1 hi;have hlt:=iI.1 h1;simp only [aO,bV] at h2;have h3:=hall i hlt;unfold dM at h3;have h4:=h2.1;rw [bN] at h3 h4;rw [bA (show i < listed.size by omega)] at h3 h4;simp only [bZ] at h3 h4;rw [h3] at h4;cases h4
 cases fuel with
 | zero=>exact ⟨hr,h⟩
 | succ fuel=>exact ⟨fun _=>h,fun i hi=>by rw [hr] at hi; cases hi⟩
def Pm (P:Program) (ro:Option Nat) (C:Ctx) (ops:Array Oper) (I:List dK) (K:St->Prop) (Q:Exit->Act->World->Prop):Prop :=
 (I.length=ops.size/\∀ st μ a w,K st->dR C μ st a w->Q .normal a w) \/
 (∃ o r,ops.toList.drop I.length=o::r/\(∀ p∈gF o,p < I.length)/\(∀ i,i < I.length->(qS I (gF o)).testBit i=true) /\
  (∀ j o',r[j]?=some o'->I.length+j∈gF o'/\∀ p∈gF o',p < I.length+j+1) /\
  ∀ st μ a w,K st->dR C μ st a w->wpListIn (WF ro) 0 P ops Q (o::r) a w)
theorem Q8 {listed:Array Bool} {i:Nat} (hil:i < listed.size):dM (listed.setIfInBounds i true)=plus (dM listed) i:=by
 funext j;unfold plus dM;by_cases hj:j=i
 ·subst hj;simp [hil,Array.getD_eq_getD_getElem?]
 ·have:(j == i)=false:=beq_eq_false_iff_ne.2 hj;simp [this,Array.getD_eq_getD_getElem?,Array.getElem?_setIfInBounds_ne (Ne.symm hj)]
theorem count_set {listed:Array Bool} {i fuel:Nat} (hil:i < listed.size) (hk:dM listed i=false) (hc:listed.count false=fuel+1):(listed.setIfInBounds i true).count false=fuel:=by
 have hki':listed[i]=false:=by
  unfold dM at hk;rw [bN,bA hil] at hk;exact hk
 rw [Array.setIfInBounds_def,dif_pos hil,Array.count_set hil,hki'];simp;omega
theorem R9 {listed:Array Bool} {i:Nat} {o:Oper} (hsz:listed.size=ops.size) (ho:ops[i]?=some o) (hkf:dM listed i=false) (hpre:∀ q∈gF o,dM listed q=true):i∈Region.ready .any ops listed:=by
 have hi:i < ops.size:=(aS.1 ho).1;have hlt:i < listed.size:=by omega
 unfold Region.ready;refine dI.2 ⟨iI.2 hi,?_⟩;rw [ho];simp only [cL,bZ,aO,bV];refine ⟨?_,?_⟩
 ·unfold dM at hkf;rw [bN,bA hlt] at hkf ⊢;exact hkf
 ·rw [eF];intro e he;cases hbd:Region.binds .any e with
  | false=>rfl
  | true =>
   have hq:e.on∈gF o:=by
    unfold gF;exact bF.2 ⟨e,dI.2 ⟨by simpa using he,hbd⟩,rfl⟩
   have:=hpre e.on hq;simpa [dM] using this
theorem Sa {listed:Array Bool} {i:Nat} (hsz:listed.size=ops.size) (hi:i∈Region.ready .any ops listed):∃ o,ops[i]?=some o/\i < listed.size/\dM listed i=false/\∀ q∈gF o,dM listed q=true:=by
 unfold Region.ready at hi;obtain ⟨h1,h2⟩:=dI.1 hi;have hlt:=iI.1 h1;simp only [aO,bV] at h2;obtain ⟨h2,h3⟩:=h2;have ho:ops[i]?=some ops[i]:=bA hlt;refine ⟨_,ho,by omega,?_,?_⟩
 ·unfold dM;rw [bN] at h2 ⊢;rw [bA (show i < listed.size by omega)] at h2 ⊢;exact h2
 ·intro q hq;unfold gF at hq;obtain ⟨e,he,rfl⟩:=bF.1 hq;obtain ⟨he1,he2⟩:=dI.1 he;rw [ho] at h3;simp only [cL,bZ,eF] at h3;have:=h3 e (by simpa using he1);rw [he2] at this;simpa [dM] using this
theorem K8 {Q:Exit->Act->World->Prop}:∀ (l:List Oper) (m fuel:Nat) (listed:Array Bool) (a:Act) (w:World),listed.size=ops.size->ops.toList.drop m=l->(∀ j,j < m->dM listed j=true)->(∀ j,m<=j->dM listed j=false)->listed.count false=fuel ->
  (∀ j o',l[j]?=some o'->(∀ p∈gF o',p < m+j)/\(0 < j->m+j - 1∈gF o'))->wpListIn (WF ro) 0 P ops Q l a w->wpAnyIn (WF ro) 0 P .any ops Q fuel listed a w:=by
 intro l;induction l with
 | nil =>
  intro m fuel listed a w hsz hd hlo hhi hc _ hw;have hm:ops.size<=m:=by simpa using List.drop_eq_nil_iff.1 hd
  exact wpAny_all (fun i hi=>hlo i (by omega)) hsz fuel hw
 | cons o l ih =>
  intro m fuel listed a w hsz hd hlo hhi hc hp hw;have hm:ops[m]?=some o:=by
   have:(ops.toList.drop m)[0]?=some o:=by rw [hd]; rfl
   simpa using this
  have hml:=(aS.1 hm).1;have hil:m < listed.size:=by omega
  have hkm:=hhi m (aL _);have hrd:m∈Region.ready .any ops listed:=R9 hsz hm hkm fun q hq=>hlo q (by have:=(hp 0 o rfl).1 q hq; omega);cases fuel with
  | zero =>
   exfalso;have:false∈listed:=by
    have hki':listed[m]=false:=by
     unfold dM at hkm;rw [bN,bA hil] at hkm;exact hkm
    rw [<- hki']; exact lW hil
   exact absurd hc (Nat.ne_of_gt (Array.count_pos_iff.2 this))
  | succ fuel =>
   refine aA (fun hr=>by (rw [hr] at hrd; cases hrd)) (fun i hi=>?_);obtain ⟨o',ho',_,hki,hpre⟩:=Sa hsz hi;have hge:m<=i:=by
    rcases jO i m with h|h
    ·rw [hlo i h] at hki; cases hki
    ·exact h
   have him:i=m:=by
    rcases Nat.eq_or_lt_of_le hge with h|h
    ·exact h.symm
    ·exfalso;have hg:(o::l)[i - m]?=some o':=by
      rw [<- hd,bQ,show m+(i - m)=i by omega];simpa using ho'
     have:=(hp (i - m) o' hg).2 (by omega);have h2:=hpre _ this;rw [hhi _ (by omega)] at h2;cases h2
   subst him;have hkeep:=Q8 (listed:=listed) hil;have hdone:∀ a' w',wpListIn (WF ro) 0 P ops Q l a' w'->wpAnyIn (WF ro) 0 P .any ops Q fuel (listed.setIfInBounds i true) a' w':=by
    intro a' w' hq;refine ih (i+1) fuel _ a' w' (by simp [hsz]) ?_ ?_ ?_ (count_set hil hkm hc) ?_ hq
    ·rw [<- lK,List.drop_one.symm.symm,hd];rfl
    ·intro j hj;rw [hkeep];unfold plus;by_cases e:j=i
     ·simp [e]
     ·rw [hlo j (by omega)]; simp
    ·intro j hj;rw [hkeep];unfold plus;rw [hhi j (by omega),beq_eq_false_iff_ne.2 (by omega)];rfl
    ·intro j o2 h2;have:=hp (j+1) o2 (by simpa using h2);exact ⟨fun p hp'=>by have:=this.1 p hp'; omega,fun _=>by have:=this.2 (by omega); rw [show i+1+j - 1=i+(j+1) - 1 by omega]; exact this⟩
   unfold wpOpIn;simp only [hm];simp only [wpListIn] at hw;split at hw
   ·rename_i hwant;rw [if_pos hwant];exact Oper.wpIn_mono hdone hw
   ·rename_i hwant;rw [if_neg hwant];exact ⟨hw.1,hdone _ _ hw.2⟩
theorem No (htab:xI P C T) (hI:DOk P C.n ops I) (h0:iU fr0 []) {Q:Exit->Act->World->Prop} (hL:Pm P ro C ops I K Q) :
  ∀ (fuel:Nat) (listed:Array Bool) (a:Act) (w:World),listed.size=ops.size->listed.count false=fuel->(∀ j,I.length<=j->dM listed j=false)->(∃ res t hp nx μ,oO I T K fr0 C res (dM listed) t hp nx μ a w) ->
   wpAnyIn (WF ro) 0 P .any ops Q fuel listed a w:=by
 have hlen:∀ i x,I[i]?=some x->i < I.length:=fun i x e=>(aR.1 e).1;have hle:=hI.len
 -- the end
 have fin0:∀ (listed:Array Bool) (a:Act) (w:World),(∃ res t hp nx μ,oO I T K fr0 C res (dM listed) t hp nx μ a w)->(∀ i,i < I.length->dM listed i=true)->∃ st μ,K st/\dR C μ st a w:=by
  rintro listed a w ⟨res,t,hp,nx,μ,h⟩ hall;obtain ⟨res,t,hpu,h⟩:=h.norm hI h0 t res;have hin:∀ i,i < I.length->i∈res.map (·.1):=fun i hi=>h.kS i (hall i hi);have htr:=h.tr;have hev:=h.ev;cases t with
  | pure=>cases hpu
  | none=>obtain ⟨_,⟨i,h1,h2⟩,_⟩:=htr; exact absurd (hin i h1) h2
  | eff=>obtain ⟨_,⟨i,h1,h2⟩,_⟩:=htr; exact absurd (hin i h1) h2
  | done =>
   refine ⟨_,μ,hev,?_⟩;have hr:=h.rep;have:res.filter (fun p=>dM listed p.1)=res:=by
    refine List.filter_eq_self.2 fun p hp=>?_;obtain ⟨x,hx⟩:=h.inI p hp;exact hall p.1 (hlen _ _ hx)
   rw [this] at hr;exact hr
 have fin:∀ (listed:Array Bool) (a:Act) (w:World),listed.size=ops.size->(∀ j,I.length<=j->dM listed j=false)->(∃ res t hp nx μ,oO I T K fr0 C res (dM listed) t hp nx μ a w)->(∀ i,i < ops.size->dM listed i=true)->Q .normal a w:=by
  intro listed a w hsz hlast hex hall;obtain ⟨st,μ,h1,h2⟩:=fin0 listed a w hex (fun i hi=>hall i (by omega));rcases hL with ⟨_,hK⟩|⟨o,r,hd,_⟩
  ·exact hK st μ a w h1 h2
  ·have hlt:I.length < ops.size:=by
    rcases jO I.length ops.size with h|h
    ·exact h
    ·rw [List.drop_eq_nil_iff.2 (by simpa using h)] at hd; cases hd
   have:=hlast I.length (aL _);rw [hall _ hlt] at this;cases this
 have ready_low:∀ (listed:Array Bool) (i:Nat),listed.size=ops.size->i∈Region.ready .any ops listed->∃ o,ops[i]?=some o/\i < listed.size/\dM listed i=false/\∀ q∈gF o,dM listed q=true:=by
  intro listed i hsz hi;unfold Region.ready at hi;obtain ⟨h1,h2⟩:=dI.1 hi;have hlt:=iI.1 h1;simp only [aO,bV] at h2;obtain ⟨h2,h3⟩:=h2;have ho:ops[i]?=some ops[i]:=bA hlt;refine ⟨_,ho,by omega,?_,?_⟩
  ·unfold dM;rw [bN] at h2 ⊢;rw [bA (show i < listed.size by omega)] at h2 ⊢;exact h2
  ·intro q hq;unfold gF at hq;obtain ⟨e,he,rfl⟩:=bF.1 hq;obtain ⟨he1,he2⟩:=dI.1 he;rw [ho] at h3;simp only [cL,bZ,eF] at h3;have:=h3 e (by simpa using he1);rw [he2] at this;simpa [dM] using this
 have ready_iff:∀ (listed:Array Bool) (i:Nat),listed.size=ops.size->i < I.length->i∈Region.ready .any ops listed->∃ o x,ops[i]?=some o/\I[i]?=some x/\uL P C.n ops.toList o=some x.o/\i < listed.size/\dM listed i=false/\∀ q∈x.pre,dM listed q=true:=by
  intro listed i hsz hlt hi;obtain ⟨o,ho,h1,h2,h3⟩:=ready_low listed i hsz hi;obtain ⟨x,hx,hc,hp⟩:=hI.op i _ hlt ho;exact ⟨o,x,ho,hx,hc,h1,h2,by rw [hp]; exact h3⟩
 -- what could be run
 have is_ready:∀ (listed:Array Bool) (i:Nat) (o:Oper),listed.size=ops.size->ops[i]?=some o->dM listed i=false->(∀ q∈gF o,dM listed q=true)->i∈Region.ready .any ops listed:=by
  intro listed i o hsz ho hkf hpre;have hi:i < ops.size:=(aS.1 ho).1;have hlt:i < listed.size:=by omega
  unfold Region.ready;refine dI.2 ⟨iI.2 hi,?_⟩;rw [ho];simp only [cL,bZ,aO,bV];refine ⟨?_,?_⟩
  ·unfold dM at hkf;rw [bN,bA hlt] at hkf ⊢;exact hkf
  ·rw [eF];intro e he;cases hbd:Region.binds .any e with
   | false=>rfl
   | true =>
    have hq:e.on∈gF o:=by
     unfold gF;exact bF.2 ⟨e,dI.2 ⟨by simpa using he,hbd⟩,rfl⟩
    have:=hpre e.on hq;simpa [dM] using this
 intro fuel;induction fuel with
 | zero =>
  intro listed a w hsz hc hlast hex;have hall:∀ i,i < ops.size->dM listed i=true:=by
   intro i hi;have hlt:i < listed.size:=by omega
   unfold dM;rw [bN,bA hlt];cases e:listed[i] with
   | true=>rfl
   | false =>
    exfalso;have:false∈listed:=by rw [<- e]; exact lW hlt
    exact absurd hc (Nat.ne_of_gt (Array.count_pos_iff.2 this))
  refine ⟨?_,fin listed a w hsz hlast hex hall⟩;refine List.eq_nil_iff_forall_not_mem.2 fun i hi=>?_;obtain ⟨o,ho,_,hk,_⟩:=ready_low listed i hsz hi;rw [hall i (aS.1 ho).1] at hk;cases hk
 | succ fuel ih =>
  intro listed a w hsz hc hlast hex;refine ⟨fun hr=>fin listed a w hsz hlast hex ?_,?_⟩
  · -- whatever is left could be run
   intro i;induction i using Nat.strongRecOn with
   | _ i ihi =>
    intro hi;refine bR fun hk=>?_;have hkf:dM listed i=false:=by cases e:dM listed i with|false=>rfl|true=>exact absurd e hk
    have ho:ops[i]?=some ops[i]:=bA hi;have hpre:∀ q∈gF ops[i],q < i:=by
     by_cases hlow:i < I.length
     ·obtain ⟨x,hx,_,hp⟩:=hI.op i _ hlow ho;intro q hq;exact hI.lt i x hx q (by rw [hp]; exact hq)
     ·rcases hL with ⟨he,_⟩|⟨o,r,hd,hp,_,ht,_⟩
      ·omega
      ·have hg:(o::r)[i - I.length]?=some ops[i]:=by
        rw [<- hd,bQ,show I.length+(i - I.length)=i by omega];simp
       cases e:i - I.length with
       | zero =>
        rw [e] at hg;simp only [cK,aJ] at hg;rw [<- hg];intro q hq;have:=hp q hq;omega
       | succ j =>
        rw [e] at hg;simp only [dL] at hg;intro q hq;have:=(ht j _ hg).2 q hq;omega
    have:=is_ready listed i _ hsz ho hkf (fun q hq=>ihi q (hpre q hq) (by have:=hpre q hq; omega));rw [hr] at this;cases this
  ·intro i hi;obtain ⟨o0,ho0,hil,hki,hpre0⟩:=ready_low listed i hsz hi;have hio:=(aS.1 ho0).1;have hkeep:dM (listed.setIfInBounds i true)=plus (dM listed) i:=by
    funext j;unfold plus dM;by_cases hj:j=i
    ·subst hj;simp [hil,Array.getD_eq_getD_getElem?]
    ·have:(j == i)=false:=beq_eq_false_iff_ne.2 hj;simp [this,Array.getD_eq_getD_getElem?,Array.getElem?_setIfInBounds_ne (Ne.symm hj)]
   by_cases hlow:i < I.length
   ·obtain ⟨o,x,ho,hx,hco,hil,hki,hpre⟩:=ready_iff listed i hsz hlow hi;obtain ⟨res,t,hp,nx,μ,h⟩:=hex;obtain ⟨res,t,hpu,h⟩:=h.norm hI h0 t res;have hcnt:(listed.setIfInBounds i true).count false=fuel:=by
     have hki':listed[i]=false:=by
      unfold dM at hki;rw [bN,bA hil] at hki;exact hki
     rw [Array.setIfInBounds_def,dif_pos hil,Array.count_set hil,hki'];simp;omega
    have go:∀ a' w',(∃ res' t' hp' nx' μ',oO I T K fr0 C res' (plus (dM listed) i) t' hp' nx' μ' a' w')->wpAnyIn (WF ro) 0 P .any ops Q fuel (listed.setIfInBounds i true) a' w':=by
     intro a' w' hx;refine ih _ a' w' (by simp [hsz]) hcnt (fun j hj=>?_) (by rw [hkeep]; exact hx);rw [hkeep];unfold plus;rw [hlast j hj,beq_eq_false_iff_ne.2 (by omega)];rfl
    have hpS:∀ q∈x.pre,q∈res.map (·.1):=fun q hq=>h.kS q (hpre q hq);cases hxe:x.eff with
    | false =>
     have hm:=H9 h.tr hpu hlen i x hx hxe hpS;refine wpOpIn_mono ?_ (Pd htab hI h0 h ho hx hco hxe hm hki hpre);rintro a' w' ⟨μ',h'⟩;exact go a' w' ⟨res,t,hp,nx,μ',h'⟩
    | true =>
     have hm:i ∉ res.map (·.1):=by
      intro hmem;obtain ⟨p,hp1,rfl⟩:=bF.1 hmem;rw [h.kE p hp1 x hx hxe] at hki;cases hki
     obtain ⟨stab,sub,hn,hst,htr⟩:=Ph hx hxe hm hpS h.tr hpu hlen h.ev;refine wpOpIn_mono ?_ (Su htab hI h0 h ho hx hco hxe hm hpre hn hst htr);rintro a' w' h';exact go a' w' h'
   ·rcases hL with ⟨he,_⟩|⟨o,r,hd,hp,hbits,ht,hK⟩
    ·omega
    ·have hg:(o::r)[i - I.length]?=some o0:=by
      rw [<- hd,bQ,show I.length+(i - I.length)=i by omega];simpa using ho0
     have hie:i=I.length:=by
      cases e:i - I.length with
      | zero=>omega
      | succ j =>
       exfalso;rw [e] at hg;simp only [dL] at hg;have h1:=hpre0 _ (ht j _ hg).1;rw [hlast _ (by omega)] at h1;cases h1
     subst hie;have hoo:o=o0:=by
      rw [eM] at hg;simpa using hg
     subst hoo;have hkd:∀ j x,dM listed j=true->I[j]?=some x->∀ q∈x.pre,dM listed q=true:=by
      obtain ⟨res,t,hp,nx,μ,h⟩:=hex;exact h.kD
     have hall:∀ j,j < I.length->dM listed j=true:=by
      intro j hj;rcases A4 (hbits j hj) with h|⟨p,hp1,y,hy,hb⟩
      ·exact hpre0 j h
      ·exact hI.S1 (S:=fun q=>dM listed q=true) hkd p y j hy (hkd p y (hpre0 p hp1) hy) hb
     obtain ⟨st,μ,h1,h2⟩:=fin0 listed a w hex hall;have hw:=hK st μ a w h1 h2;refine (K8 (o::r) I.length (fuel+1) listed a w hsz hd hall hlast hc ?_ hw).2 _ hi;intro j o' hj;cases j with
     | zero =>
      simp only [cK,aJ] at hj;subst hj;exact ⟨fun p hp'=>by have:=hp p hp'; omega,fun h=>by omega⟩
     | succ j =>
      simp only [dL] at hj;have:=ht j o' hj;exact ⟨fun p hp'=>by have:=this.2 p hp'; omega,fun _=>by rw [show I.length+(j+1) - 1=I.length+j by omega]; exact this.1⟩
theorem yW {_hint:List Nat} {id:Nat} {t:hZ} (htab:xI P C T) (hf:P.follows .mixedOrders=true) (hI:DOk P C.n ops I) (htr:lD I none [] t) {st:St} (h0:iU st.fr []) {Q:Exit->Act->World->Prop} {K:St->Prop} (hL:Pm P ro C ops I K Q)
  (h:dR C μ st a w) (hev:evD T t st.fr st.hp st.nx K):(Code.region id ops true).wpIn (WF ro) 0 P Q a w:=by
 refine wpIn_region_any hf ?_;obtain ⟨fr,hp,nx⟩:=st;have hkf:∀ j,dM (Array.replicate ops.size false) j=false:=by
  intro j;unfold dM;rw [bN,Array.getElem?_replicate];split <;> rfl
 refine No htab hI h0 hL ops.size _ _ _ (by simp) (by simp) (fun _ _=>hkf _) ⟨[],t,hp,nx,μ,?_⟩;refine ⟨hev,htr,.nil,(fun _ h=>by cases h),(fun _ h=>by cases h),?_,(fun _ h=>by cases h),?_,(fun _ h=>by cases h),(fun _ h=>by cases h),?_⟩
 ·intro i hi; rw [hkf] at hi; cases hi
 ·intro i x hi; rw [hkf] at hi; cases hi
 ·exact h.below ((Below.refl _ _).drew)
theorem F7 (htab:xI P C T) {hint:List Nat} {id:Nat} {t:hZ} (hd:B9 P C.n hint ops.toList=some t) {st:St} (h0:iU st.fr []) {Q:Exit->Act->World->Prop} {K:St->Prop} (hK:∀ st μ a w,K st->dR C μ st a w->Q .normal a w)
  (h:dR C μ st a w) (hev:evD T t st.fr st.hp st.nx K):(Code.region id ops true).wpIn (WF ro) 0 P Q a w:=by
 obtain ⟨hf,I,hI,he,htr⟩:=P6 hd;exact yW (_hint:=hint) htab hf hI htr h0 (.inl ⟨he,hK⟩) h hev
theorem Ds (htab:xI P C T) {hint:List Nat} {id:Nat} {t:hZ} {so:List fF} (hd:xM P C.n hint ops.toList=some (t,so)) {st:St} (h0:iU st.fr []) {Q:Exit->Act->World->Prop} {K0 K:St->Prop} (hK:∀ st μ a w,K st->dR C μ st a w->Q .normal a w)
  (hK0:∀ st μ a w,K0 st->dR C μ st a w->∃ st',iU st'.fr []/\dR C μ st' a w/\uG T so [] st' K)
  (h:dR C μ st a w) (hev:evD T t st.fr st.hp st.nx K0):(Code.region id ops true).wpIn (WF ro) 0 P Q a w:=by
 obtain ⟨k,hd⟩:=Nh hd;obtain ⟨hf,I,o,r,hI,hdr,htr,hco,hp,hb,ht⟩:=Ni hd;refine yW (_hint:=hint) htab hf hI htr h0 (.inr ⟨o,r,hdr,hp,hb,ht,?_⟩) h hev;intro st μ a w h1 h2;obtain ⟨st',h3,h4,h5⟩:=hK0 st μ a w h1 h2;exact Ai htab hK (o::r) so [] μ st' a w hco h3 h4 h5
end
end Go.Eng
end
