/- A part of the proof. -/
import Derived.Test.YtpiolkcdfgiefaaGreatDoorEngY
section
namespace Go.Eng
open Go Go.RowKit
def eC (I:List aR) (i:Nat):Option Nat:=match I[i]? with
 | some x=>x.o.dst
 | none=>none
def cA (I:List aR) (fr0:List (Nat×SV)):List (Nat×SV)->List (Nat×SV)
 | []=>fr0
 | (i,s)::r=>match eC I i with
  | some d=>(d,s)::cA I fr0 r
  | none=>cA I fr0 r
theorem cM (I:List aR) (fr0 res:List (Nat×SV)) (i:Nat) (s:SV) (t:Nat):look (cA I fr0 ((i,s)::res)) t=if eC I i=some t then s else look (cA I fr0 res) t:=by
 simp only [cA]
 split
 ·rename_i d hd
  rw [dR,hd]
  simp
 ·rename_i hd
  rw [hd]
  simp
theorem Iz (I:List aR) (fr0:List (Nat×SV)) (keep:Nat->Bool) {t:Nat}:∀ (res:List (Nat×SV)),(∀ p∈res,eC I p.1=some t->keep p.1=true)->look (cA I fr0 (res.filter fun p=>keep p.1)) t=look (cA I fr0 res) t:=by
 intro res
 induction res with
 | nil=>intro _; rfl
 | cons p r ih =>
  obtain ⟨i,s⟩:=p
  intro h
  have ihr:=ih fun p hp=>h p (List.mem_cons_of_mem _ hp)
  rw [List.filter_cons]
  by_cases hk:keep i=true
  ·rw [if_pos hk,cM,cM,ihr]
  ·rw [if_neg hk,cM,ihr,if_neg]
   intro hd
   exact hk (h (i,s) (List.mem_cons_self ..) hd)
theorem Mc (I:List aR) (fr0:List (Nat×SV)) {t i:Nat} {s:SV}:∀ (res:List (Nat×SV)),(i,s)∈res->eC I i=some t->(∀ p∈res,eC I p.1=some t->p=(i,s))->look (cA I fr0 res) t=s:=by
 intro res
 induction res with
 | nil=>intro h; cases h
 | cons p r ih =>
  intro h hd hu
  obtain ⟨j,u⟩:=p
  rw [cM]
  split
  ·rename_i hj
   have:=hu (j,u) (List.mem_cons_self ..) hj
   cases this
   rfl
  ·rename_i hj
   rcases List.mem_cons.1 h with e|h
   ·cases e; exact absurd hd hj
   ·exact ih h hd fun p hp=>hu p (List.mem_cons_of_mem _ hp)
theorem oD (I:List aR) (fr0:List (Nat×SV)) {t:Nat}:∀ (res:List (Nat×SV)),(look (cA I fr0 res) t=look fr0 t)\/∃ p∈res,eC I p.1=some t/\look (cA I fr0 res) t=p.2:=by
 intro res
 induction res with
 | nil=>exact .inl rfl
 | cons p r ih =>
  obtain ⟨i,s⟩:=p
  rw [cM]
  split
  ·rename_i h; exact .inr ⟨(i,s),List.mem_cons_self ..,h,rfl⟩
  ·rcases ih with h|⟨p,hp,h⟩
   ·exact .inl h
   ·exact .inr ⟨p,List.mem_cons_of_mem _ hp,h⟩
theorem lS {fr fr':List (Nat×SV)} (G:Nat->Prop) (hG:∀ t,G t->look fr t=look fr' t/\∀ d w x,look fr t=.gd d w x->G d):∀ (n d:Nat) (w:Bool),G d->(eE fr n d w ↔ eE fr' n d w):=by
 intro n
 induction n with
 | zero=>intro d w _; exact Iff.rfl
 | succ n ih =>
  intro d w hd
  obtain ⟨e,hc⟩:=hG d hd
  simp only [eE]
  rw [<- e]
  split
  ·exact Iff.rfl
  ·rename_i d' w' b hb
   rw [ih d' w' (hc _ _ _ hb)]
  ·exact Iff.rfl
theorem zC {fr fr':List (Nat×SV)} (G:Nat->Prop) (hG:∀ t,G t->look fr t=look fr' t/\∀ d w x,look fr t=.gd d w x->G d):∀ (n d:Nat) (w:Bool) (Y N:Prop),G d->iK fr n d w Y N->iK fr' n d w Y N:=by
 intro n
 induction n with
 | zero=>intro d w Y N _ h; exact h
 | succ n ih =>
  intro d w Y N hd h
  obtain ⟨e,hc⟩:=hG d hd
  simp only [iK] at h ⊢
  rw [<- e]
  split at h
  ·exact h
  ·rename_i d' w' b hb
   exact ih d' w' _ _ (hc _ _ _ hb) h
  ·rename_i d' w' hb
   exact ih d' w' _ _ (hc _ _ _ hb) h
  ·exact h
  ·exact h.elim
theorem Ss {tab:List (Nat×cZ)} {g:Option (Nat×Bool)} {fr:List (Nat×SV)} {hp hp':List (Nat×aC)} {nx nx':Nat} {so:SOp} (h:jW so=false):evP tab g ⟨fr,hp,nx⟩ so=evP tab g ⟨fr,hp',nx'⟩ so:=by
 cases so <;> first
  | (simp [jW] at h; done)
  | (simp only [evP]; done)
  | rfl
def PF (tab:List (Nat×cZ)) (fr:List (Nat×SV)) (hp:List (Nat×aC)) (nx:Nat) (o:bP) (s:SV):Prop :=
 match o.guard with
 | none=>(∀ d w x,s≠.gd d w x)/\(evP tab none ⟨fr,hp,nx⟩ o.op).holds fun v=>v=s
 | some (d0,w)=>∃ v,s=.gd d0 w v/\match evP tab (some (d0,w)) ⟨fr,hp,nx⟩ o.op with
  | .ok u=>u=v
  | .side p u=>(eE fr 10 d0 w->p)/\u=v
  | .fail=>v=.junk/\¬ eE fr 10 d0 w
theorem Jy {tab:List (Nat×cZ)} {fr fr':List (Nat×SV)} {hp hp':List (Nat×aC)} {nx nx':Nat} {o:bP} {s:SV} (h:PF tab fr hp nx o s) (he:evP tab o.guard ⟨fr,hp,nx⟩ o.op=evP tab o.guard ⟨fr',hp',nx'⟩ o.op)
  (hg:∀ d0 w,o.guard=some (d0,w)->(eE fr 10 d0 w ↔ eE fr' 10 d0 w)):PF tab fr' hp' nx' o s:=by
 unfold PF at *
 split at h
 ·rename_i hgd
  rw [hgd] at he
  rw [<- he]
  exact h
 ·rename_i d0 w hgd
  rw [hgd] at he
  obtain ⟨v,rfl,h⟩:=h
  have hiff:=hg d0 w hgd
  refine ⟨v,rfl,?_⟩
  rw [<- he]
  split at h
  ·exact h
  ·exact ⟨fun k=>h.1 (hiff.2 k),h.2⟩
  ·exact ⟨h.1,fun k=>h.2 (hiff.2 k)⟩
section
variable {P:Program} {C:Ctx} {ro:Option Nat}
theorem Dc {E:Env} {t:Array Value} {d:Nat} {v:Value} {s:SV} {x:Value} (hs:∀ d' w y,s=.gd d' w y->d'≠d) (h:cP E t s x):cP E (t.setIfInBounds d v) s x:=by
 cases s with
 | gd d' w y =>
  have:d'≠d:=hs _ _ _ rfl
  simp only [cP] at *
  rw [bV _ _ _ _ this]
  exact h
 | _=>exact h
theorem aY.set' {μ:Nat->Option (Nat×Nat)} {fr fr':List (Nat×SV)} {hp:List (Nat×aC)} {nx:Nat} {a:Act} {w:World} (h:aY C μ ⟨fr,hp,nx⟩ a w) {d:Nat} (hd:d < C.n) (hl:∀ t d' w y,look fr t=.gd d' w y->d'≠d) {s:SV} {v:Value}
  (hs:cP (aA C μ hp w) (a.tmps.setIfInBounds d v) s v) (hfr:∀ t,look fr' t=if d=t then s else look fr t):aY C μ ⟨fr',hp,nx⟩ (a.put (some d) v) w where
 size:=by simp [Act.put,h.size]
 defers:=h.defers
 fr:=by
  intro n
  simp only [Act.put]
  rw [hfr]
  by_cases hn:d=n
  ·subst hn
   rw [if_pos rfl,kW _ _ _ (by rw [h.size]; exact hd)]
   exact hs
  ·rw [if_neg hn,bV _ _ _ _ (Ne.symm hn)]
   exact Dc (fun d' w y e=>hl n d' w y e) (h.fr n)
 hep:=h.hep
 le:=h.le
 kd:=h.kd
structure iS (I:List aR) (T:Tb) (K:St->Prop) (fr0:List (Nat×SV)) (C:Ctx) (res:List (Nat×SV)) (keep:Nat->Bool) (t:cY) (hp:List (Nat×aC)) (nx:Nat) (μ:Nat->Option (Nat×Nat)) (a:Act) (w:World):Prop where
 ev:evD T t (cA I fr0 res) hp nx K
 tr:eU I none (res.map (·.1)) t
 nd:(res.map (·.1)).Nodup
 inI:∀ p∈res,∃ x,I[p.1]?=some x
 dS:∀ p∈res,∀ x,I[p.1]?=some x->∀ q∈x.pre,q∈res.map (·.1)
 kS:∀ i,keep i=true->i∈res.map (·.1)
 kE:∀ p∈res,∀ x,I[p.1]?=some x->x.eff=true->keep p.1=true
 kD:∀ i x,keep i=true->I[i]?=some x->∀ q∈x.pre,keep q=true
 gd:∀ p∈res,∀ d w v,p.2=.gd d w v->∃ x,I[p.1]?=some x/\x.o.guard=some (d,w)
 pf:∀ p∈res,∀ x,I[p.1]?=some x->x.eff=false->keep p.1=false->PF T.fs (cA I fr0 res) hp nx x.o p.2
 rep:aY C μ ⟨cA I fr0 (res.filter fun p=>keep p.1),hp,nx⟩ a w
theorem Ec {o:bP} {d:Nat} {w:Bool} (h:o.guard=some (d,w)):d∈jT o:=by simp [jT,h]
theorem A4 {o:bP} {d:Nat} (h:o.dst=some d):d∈jT o:=by simp [jT,h]
variable {ops:Array Oper} {I:List aR}
theorem DOk.Rn (hI:DOk P C.n ops I):∀ (i:Nat) (x:aR) (j:Nat),I[i]?=some x->x.tp.testBit j=true->j < i:=by
 intro i
 induction i using Nat.strongRecOn with
 | _ i ih =>
  intro x j hx hb
  rcases hI.tp i x hx j hb with h|⟨p,hp,y,hy,hb'⟩
  ·exact hI.lt i x hx j h
  ·have h1:=hI.lt i x hx p hp
   have:=ih p h1 y j hy hb'
   omega
theorem DOk.Np (hI:DOk P C.n ops I) {S:Nat->Prop} (hS:∀ i x,S i->I[i]?=some x->∀ q∈x.pre,S q):∀ (i:Nat) (x:aR) (j:Nat),I[i]?=some x->(∀ q∈x.pre,S q)->x.tp.testBit j=true->S j:=by
 intro i
 induction i using Nat.strongRecOn with
 | _ i ih =>
  intro x j hx hp hb
  rcases hI.tp i x hx j hb with h|⟨p,hpp,y,hy,hb'⟩
  ·exact hp j h
  ·exact ih p (hI.lt i x hx p hpp) y j hy (hS p y (hp p hpp) hy) hb'
theorem DOk.uniq (hI:DOk P C.n ops I) {i j:Nat} {t:Nat} (hi:eC I i=some t) (hj:eC I j=some t):i=j:=by
 unfold eC at hi hj
 split at hi
 ·rename_i x hx
  split at hj
  ·rename_i y hy
   refine Classical.byContradiction fun hne=>?_
   have h1:=hI.Rn i x j hx (hI.nm i j x y t hx hy (A4 hi) hj hne)
   have h2:=hI.Rn j y i hy (hI.nm j i y x t hy hx (A4 hj) hi (Ne.symm hne))
   omega
  ·cases hj
 ·cases hi
theorem DOk.named (hI:DOk P C.n ops I) {S:Nat->Prop} (hS:∀ i x,S i->I[i]?=some x->∀ q∈x.pre,S q) {i:Nat} {x:aR} (hx:I[i]?=some x) (hp:∀ q∈x.pre,S q) {t j:Nat} (ht:t∈jT x.o) (hj:eC I j=some t):i=j\/S j:=by
 by_cases hij:i=j
 ·exact .inl hij
 ·right
  unfold eC at hj
  split at hj
  ·rename_i y hy
   exact hI.Np hS i x j hx hp (hI.nm i j x y t hx hy ht hj hij)
  ·cases hj
theorem sG {o:bP} {t:Nat} (h:t∈eR o):t∈jT o:=by
 unfold eR at h
 unfold jT
 simp only [List.mem_append] at h ⊢
 exact .inl h
theorem DOk.Tw (hI:DOk P C.n ops I) {i:Nat} {x:aR} (hx:I[i]?=some x) {t:Nat} (ht:t∈eR x.o):eC I i≠some t:=by
 intro e
 unfold eC at e
 rw [hx] at e
 have:=hI.own i x hx
 unfold xK at this
 simp only at e
 rw [e] at this
 simp only [Bool.not_eq_true'] at this
 rw [dE.2 ht] at this
 cases this
theorem Bw (I:List aR) (fr0:List (Nat×SV)) (k1 k2:Nat->Bool) {t:Nat}:∀ (res:List (Nat×SV)),(∀ p∈res,eC I p.1=some t->k1 p.1=k2 p.1)->look (cA I fr0 (res.filter fun p=>k1 p.1)) t=look (cA I fr0 (res.filter fun p=>k2 p.1)) t:=by
 intro res
 induction res with
 | nil=>intro _; rfl
 | cons p r ih =>
  obtain ⟨i,s⟩:=p
  intro h
  have ihr:=ih fun p hp=>h p (List.mem_cons_of_mem _ hp)
  rw [List.filter_cons,List.filter_cons]
  by_cases hd:eC I i=some t
  ·have:=h (i,s) (List.mem_cons_self ..) hd
   simp only at this
   simp only
   rw [this]
   split
   ·rw [cM,cM,ihr]
   ·exact ihr
  ·have e1:∀ (b:Bool) (l:List (Nat×SV)),look (cA I fr0 (if b=true then (i,s)::l else l)) t=look (cA I fr0 l) t:=by
    intro b l
    cases b with
    | true=>rw [if_pos rfl,cM,if_neg hd]
    | false=>rfl
   rw [e1,e1,ihr]
theorem Pr:∀ {res:List (Nat×SV)},(res.map (·.1)).Nodup->∀ {i:Nat} {s s':SV},(i,s)∈res->(i,s')∈res->s=s':=by
 intro res
 induction res with
 | nil=>intro _ i s s' h; cases h
 | cons p r ih =>
  intro hn i s s' h h'
  simp only [List.map_cons,List.nodup_cons] at hn
  rcases List.mem_cons.1 h with e|h1 <;> rcases List.mem_cons.1 h' with e'|h2
  ·rw [<- e] at e'; cases e'; rfl
  ·rw [<- e] at hn
   exact absurd (List.mem_map.2 ⟨(i,s'),h2,rfl⟩) hn.1
  ·rw [<- e'] at hn
   exact absurd (List.mem_map.2 ⟨(i,s),h1,rfl⟩) hn.1
  ·exact ih hn.2 h1 h2
section
variable {T:Tb} {K:St->Prop} {fr0:List (Nat×SV)} {res:List (Nat×SV)} {keep:Nat->Bool} {t:cY} {hp:List (Nat×aC)} {nx:Nat} {μ:Nat->Option (Nat×Nat)} {a:Act} {w:World}
theorem iS.Hg (hI:DOk P C.n ops I) (h0:dJ fr0 []) (h:iS I T K fr0 C res keep t hp nx μ a w) {i:Nat} (hi:i ∉ res.map (·.1)) {s:SV} {hp':List (Nat×aC)} {nx':Nat} {p:Nat×SV} (hp1:p∈res) {x:aR} (hx:I[p.1]?=some x) (hpf:PF T.fs (cA I fr0 res) hp nx x.o p.2)
  (he:evP T.fs x.o.guard ⟨cA I fr0 res,hp',nx'⟩ x.o.op=evP T.fs x.o.guard ⟨cA I fr0 res,hp,nx⟩ x.o.op):PF T.fs (cA I fr0 ((i,s)::res)) hp' nx' x.o p.2:=by
 have hS:∀ j y,j∈res.map (·.1)->I[j]?=some y->∀ q∈y.pre,q∈res.map (·.1):=by
  intro j y hj hy
  obtain ⟨q,hq,rfl⟩:=List.mem_map.1 hj
  exact h.dS q hq y hy
 have same:∀ {j:Nat} {y:aR} {t:Nat},j∈res.map (·.1)->I[j]?=some y->t∈eR y.o->look (cA I fr0 res) t=look (cA I fr0 ((i,s)::res)) t:=by
  intro j y t hj hy ht
  rw [cM,if_neg]
  intro hd
  rcases hI.named (S:=fun q=>q∈res.map (·.1)) hS hy (hS j y hj hy) (sG ht) hd with e|e
  ·subst e; exact hi hj
  ·exact hi e
 have hpm:p.1∈res.map (·.1):=List.mem_map.2 ⟨p,hp1,rfl⟩
 refine Jy hpf ?_ ?_
 ·rw [<- he]
  exact rO fun q hq=>same hpm hx (by unfold eR; exact List.mem_append_left _ hq)
 ·intro d0 wt hg
  refine lS (fun t=>∃ j y,j∈res.map (·.1)/\I[j]?=some y/\t∈eR y.o) ?_ 10 d0 wt ⟨p.1,x,hpm,hx,by unfold eR; rw [hg]; simp⟩
  rintro t ⟨j,y,hj,hy,ht⟩
  refine ⟨same hj hy ht,fun d wl v hl=>?_⟩
  rcases oD I fr0 (t:=t) res with e|⟨q,hq,hqd,e⟩
  ·rw [e] at hl
   have:=h0 _ _ _ _ hl
   simp [bD] at this
  ·rw [e] at hl
   obtain ⟨z,hz,hzg⟩:=h.gd q hq d wl v hl
   exact ⟨q.1,z,List.mem_map.2 ⟨q,hq,rfl⟩,hz,by unfold eR; rw [hzg]; simp⟩
theorem iS.adv (hI:DOk P C.n ops I) (h0:dJ fr0 []) {i:Nat} {o:bP} {rest:cY} (h:iS I T K fr0 C res keep (.pure i o rest) hp nx μ a w):∃ s,iS I T K fr0 C ((i,s)::res) keep rest hp nx μ a w:=by
 obtain ⟨⟨x,hx,hxo,hxe,hiS,hpre⟩,htr⟩:=h.tr
 have hki:keep i=false:=by
  cases e:keep i with
  | false=>rfl
  | true=>exact absurd (h.kS i e) hiS
 obtain ⟨d,hd⟩:=hI.dst i x hx hxe
 have hdi:eC I i=some d:=by unfold eC; rw [hx]; exact hd
 have hown:∀ t∈eR x.o,d≠t:=by
  intro t ht e
  exact hI.Tw hx ht (by rw [hdi,e])
 -- whatever is found
 have fin:∀ s,evD T rest ((d,s)::cA I fr0 res) hp nx K->(∀ d w v,s=.gd d w v->x.o.guard=some (d,w))->PF T.fs (cA I fr0 res) hp nx x.o s->iS I T K fr0 C ((i,s)::res) keep rest hp nx μ a w:=by
  intro s hev hgd hpf
  have hfrc:cA I fr0 ((i,s)::res)=(d,s)::cA I fr0 res:=by simp only [cA,hdi]
  refine ⟨by rw [hfrc]; exact hev,htr,?_,?_,?_,?_,?_,h.kD,?_,?_,?_⟩
  ·simp only [List.map_cons,List.nodup_cons]; exact ⟨hiS,h.nd⟩
  ·intro p hp
   rcases List.mem_cons.1 hp with rfl|hp
   ·exact ⟨x,hx⟩
   ·exact h.inI p hp
  ·intro p hp y hy q hq
   rcases List.mem_cons.1 hp with rfl|hp
   ·rw [hx] at hy; cases hy
    exact List.mem_cons_of_mem _ (hpre q hq)
   ·exact List.mem_cons_of_mem _ (h.dS p hp y hy q hq)
  ·intro j hj; exact List.mem_cons_of_mem _ (h.kS j hj)
  ·intro p hp y hy he
   rcases List.mem_cons.1 hp with rfl|hp
   ·rw [hx] at hy; cases hy; rw [hxe] at he; cases he
   ·exact h.kE p hp y hy he
  ·intro p hp d' w' v e
   rcases List.mem_cons.1 hp with rfl|hp
   ·exact ⟨x,hx,hgd d' w' v e⟩
   ·exact h.gd p hp d' w' v e
  ·intro p hp1 y hy he hk
   rcases List.mem_cons.1 hp1 with rfl|hp1
   ·rw [hx] at hy
    cases hy
    refine Jy hpf ?_ ?_
    ·exact rO fun q hq=>by rw [hfrc,dR,if_neg (hown q (by unfold eR; exact List.mem_append_left _ hq))]
    ·intro d0 wt hg
     have hlk:∀ t∈eR x.o,look (cA I fr0 res) t=look (cA I fr0 ((i,s)::res)) t:=fun t ht=>by rw [hfrc,dR,if_neg (hown t ht)]
     have hS:∀ j y,j∈res.map (·.1)->I[j]?=some y->∀ q∈y.pre,q∈res.map (·.1):=by
      intro j y hj hy
      obtain ⟨q,hq,rfl⟩:=List.mem_map.1 hj
      exact h.dS q hq y hy
     refine lS (fun t=>t∈eR x.o\/∃ j y,j∈res.map (·.1)/\I[j]?=some y/\t∈eR y.o) ?_ 10 d0 wt (.inl (by unfold eR; rw [hg]; simp))
     intro t ht
     refine ⟨?_,fun d' wl v hl=>?_⟩
     ·rcases ht with ht|⟨j,y,hj,hy,ht⟩
      ·exact hlk t ht
      ·rw [hfrc,dR,if_neg]
       intro hdt
       subst hdt
       rcases hI.named (S:=fun q=>q∈res.map (·.1)) hS hy (hS j y hj hy) (sG ht) hdi with e|e
       ·subst e; exact hiS hj
       ·exact hiS e
     ·rcases oD I fr0 (t:=t) res with e|⟨q,hq,hqd,e⟩
      ·rw [e] at hl
       have:=h0 _ _ _ _ hl
       simp [bD] at this
      ·rw [e] at hl
       obtain ⟨z,hz,hzg⟩:=h.gd q hq d' wl v hl
       exact .inr ⟨q.1,z,List.mem_map.2 ⟨q,hq,rfl⟩,hz,by unfold eR; rw [hzg]; simp⟩
   ·exact h.Hg hI h0 hiS hp1 hy (h.pf p hp1 y hy he hk) rfl
  ·rw [List.filter_cons,if_neg (by simp [hki])]
   exact h.rep
 have hev:=h.ev
 simp only [evD] at hev
 rw [<- hxo,hd] at hev
 simp only at hev
 split at hev
 ·rename_i hg
  split at hev
  ·exact hev.elim
  ·rename_i v hv
   simp only [eX,cH] at hev
   split at hev
   ·exact hev.elim
   ·rename_i hng
    refine ⟨v,fin v hev (fun d w u e=>absurd e (hng d w u)) ?_⟩
    unfold PF
    rw [hg]
    exact ⟨hng,by rw [hv]; rfl⟩
  ·rename_i p v hv
   simp only [eX,cH] at hev
   obtain ⟨hp1,hev⟩:=hev
   split at hev
   ·exact hev.elim
   ·rename_i hng
    refine ⟨v,fin v hev (fun d w u e=>absurd e (hng d w u)) ?_⟩
    unfold PF
    rw [hg]
    exact ⟨hng,by rw [hv]; exact ⟨hp1,rfl⟩⟩
 ·rename_i d0 wt hg
  split at hev
  ·rename_i hv
   obtain ⟨hnp,hev⟩:=hev
   refine ⟨_,fin _ hev (fun d w u e=>by cases e; exact hg) ?_⟩
   unfold PF
   rw [hg]
   refine ⟨_,rfl,?_⟩
   rw [hv]
   exact ⟨rfl,hnp⟩
  ·rename_i v hv
   rw [cH] at hev
   refine ⟨_,fin _ hev (fun d w u e=>by cases e; exact hg) ?_⟩
   unfold PF
   rw [hg]
   refine ⟨_,rfl,?_⟩
   rw [hv]
  ·rename_i p v hv
   obtain ⟨hnp,hev⟩:=hev
   rw [cH] at hev
   refine ⟨_,fin _ hev (fun d w u e=>by cases e; exact hg) ?_⟩
   unfold PF
   rw [hg]
   refine ⟨_,rfl,?_⟩
   rw [hv]
   exact ⟨hnp,rfl⟩
end
end
end Go.Eng
end
section
namespace Go.Eng
open Go Go.RowKit
section
variable {P:Program} {C:Ctx} {ro:Option Nat} {ops:Array Oper} {I:List aR}
variable {T:Tb} {K:St->Prop} {fr0:List (Nat×SV)} {res:List (Nat×SV)} {keep:Nat->Bool} {t:cY} {hp:List (Nat×aC)} {nx:Nat} {μ:Nat->Option (Nat×Nat)} {a:Act} {w:World}
def plus (keep:Nat->Bool) (i:Nat):Nat->Bool:=fun j=>j == i || keep j
theorem iS.look (hI:DOk P C.n ops I) (h0:dJ fr0 []) (h:iS I T K fr0 C res keep t hp nx μ a w) {i:Nat} {x:aR} (hx:I[i]?=some x) (hpre:∀ q∈x.pre,keep q=true) :
  (∀ t∈eR x.o,Eng.look (cA I fr0 res) t=Eng.look (cA I fr0 (res.filter fun p=>keep p.1)) t) /\
  (∀ d w,x.o.guard=some (d,w)->∃ G:Nat->Prop,G d/\∀ t,G t->Eng.look (cA I fr0 res) t=Eng.look (cA I fr0 (res.filter fun p=>keep p.1)) t/\∀ d' w' v,Eng.look (cA I fr0 res) t=.gd d' w' v->G d'):=by
 have hS:∀ j y,keep j=true->I[j]?=some y->∀ q∈y.pre,keep q=true:=h.kD
 have same:∀ {j:Nat} {y:aR} {t:Nat},I[j]?=some y->(∀ q∈y.pre,keep q=true)->t∈eR y.o->Eng.look (cA I fr0 res) t=Eng.look (cA I fr0 (res.filter fun p=>keep p.1)) t/\∀ p∈res,eC I p.1=some t->keep p.1=true:=by
  intro j y t hy hp ht
  have hk:∀ p∈res,eC I p.1=some t->keep p.1=true:=by
   intro p _ hd
   rcases hI.named (S:=fun q=>keep q=true) hS hy hp (sG ht) hd with e|e
   ·subst e; exact absurd hd (hI.Tw hy ht)
   ·exact e
  exact ⟨(Iz I fr0 keep res hk).symm,hk⟩
 refine ⟨fun t ht=>(same hx hpre ht).1,fun d wt hg=>⟨fun t=>∃ j y,I[j]?=some y/\(∀ q∈y.pre,keep q=true)/\t∈eR y.o,⟨i,x,hx,hpre,by unfold eR; rw [hg]; simp⟩,?_⟩⟩
 rintro t ⟨j,y,hy,hp,ht⟩
 obtain ⟨e1,e2⟩:=same hy hp ht
 refine ⟨e1,fun d' w' v hl=>?_⟩
 rcases oD I fr0 (t:=t) res with e|⟨q,hq,hqd,e⟩
 ·rw [e] at hl
  have:=h0 _ _ _ _ hl
  simp [bD] at this
 ·rw [e] at hl
  obtain ⟨z,hz,hzg⟩:=h.gd q hq d' w' v hl
  exact ⟨q.1,z,hz,hS q.1 z (e2 q hq hqd) hz,by unfold eR; rw [hzg]; simp⟩
theorem iS.free (hI:DOk P C.n ops I) (h0:dJ fr0 []) (h:iS I T K fr0 C res keep t hp nx μ a w) {i d:Nat} (hd:eC I i=some d) (hk:keep i=false):∀ t d' w' y,Eng.look (cA I fr0 (res.filter fun p=>keep p.1)) t=.gd d' w' y->d'≠d:=by
 intro t d' w' y hl e
 subst e
 rcases oD I fr0 (t:=t) (res.filter fun p=>keep p.1) with e|⟨q,hq,hqd,e⟩
 ·rw [e] at hl
  have:=h0 _ _ _ _ hl
  simp [bD] at this
 ·rw [e] at hl
  obtain ⟨hq1,hq2⟩:=List.mem_filter.1 hq
  obtain ⟨z,hz,hzg⟩:=h.gd q hq1 d' w' y hl
  rcases hI.named (S:=fun q=>keep q=true) h.kD hz (h.kD q.1 z hq2 hz) (t:=d') (j:=i) (Ec hzg) hd with e|e
  ·subst e
   rw [hq2] at hk; cases hk
  ·rw [e] at hk; cases hk
theorem I0 (hI:DOk P C.n ops I) (hnd:(res.map (·.1)).Nodup) {i d:Nat} {s:SV} (hm:(i,s)∈res) (hd:eC I i=some d):∀ t,Eng.look (cA I fr0 (res.filter fun p=>plus keep i p.1)) t=if d=t then s else Eng.look (cA I fr0 (res.filter fun p=>keep p.1)) t:=by
 intro t
 by_cases e:d=t
 ·subst e
  rw [if_pos rfl]
  refine Mc I fr0 _ (List.mem_filter.2 ⟨hm,by simp [plus]⟩) hd ?_
  intro p hp hpd
  have:=hI.uniq hpd hd
  obtain ⟨p1,p2⟩:=p
  simp only at this
  subst this
  rw [Pr hnd (List.mem_filter.1 hp).1 hm]
 ·rw [if_neg e]
  refine Bw I fr0 (plus keep i) keep res ?_
  intro p _ hpd
  unfold plus
  have:(p.1 == i)=false:=by
   rw [beq_eq_false_iff_ne]
   rintro e'
   rw [e',hd] at hpd
   exact e (Option.some.inj hpd)
  rw [this]; rfl
theorem Mu (a:Act) (v:Value):a.put none v=a:=rfl
theorem Jp (htab:rE P C T) (hI:DOk P C.n ops I) (h0:dJ fr0 []) (h:iS I T K fr0 C res keep t hp nx μ a w) {i:Nat} {o:Oper} {x:aR} (ho:ops[i]?=some o) (hx:I[i]?=some x) (hco:oO P C.n ops.toList o=some x.o) (hxe:x.eff=false)
  (hm:i∈res.map (·.1)) (hk:keep i=false) (hpre:∀ q∈x.pre,keep q=true) {Q:Exit->Act->World->Prop} :
  wpOpIn (WF ro) 0 P ops Q i (fun a' w'=>∃ μ',iS I T K fr0 C res (plus keep i) t hp nx μ' a' w') a w:=by
 obtain ⟨⟨i',s⟩,hp1,rfl⟩:=List.mem_map.1 hm
 simp only at hx ho hk hpre hm ⊢
 have hpf:=h.pf _ hp1 x hx hxe hk
 simp only at hpf
 obtain ⟨d,hd⟩:=hI.dst i' x hx hxe
 have hdi:eC I i'=some d:=by unfold eC; rw [hx]; exact hd
 obtain ⟨hlk,hgk⟩:=h.look hI h0 hx hpre
 -- what is known,at the slots that have been written
 have hpf':PF T.fs (cA I fr0 (res.filter fun p=>keep p.1)) hp nx x.o s:=by
  refine Jy hpf (rO fun q hq=>hlk q (by unfold eR; exact List.mem_append_left _ hq)) ?_
  intro d0 wt hg
  obtain ⟨G,g1,g2⟩:=hgk d0 wt hg
  exact lS G g2 10 d0 wt g1
 -- the translation
 unfold oO at hco
 split at hco
 rotate_left
 ·cases hco
 rename_i sop g h3 h4
 cases hdst:Gr C.n o.dst with
 | false=>simp [hdst] at hco
 | true =>
 simp only [hdst,cond_true,Option.some.injEq] at hco
 rw [<- hco] at hd hpf'
 have hodst:o.dst=some d:=hd
 have hnd:∀ c,o.op≠.defer c:=by
  rintro c e
  rw [e] at h3
  simp [cOp] at h3
 have hdn:d < C.n:=by
  rw [hodst] at hdst
  have h1:Nat.ble (d+1) C.n=true:=hdst
  exact Nat.le_of_ble_eq_true h1
 have fin:∀ w' v,Below w.heap.size w w'->cP (aA C μ hp w') (a.tmps.setIfInBounds d v) s v->∃ μ',iS I T K fr0 C res (plus keep i') t hp nx μ' (a.put o.dst v) w':=by
  intro w' v hb hs
  rw [hodst]
  refine ⟨μ,⟨h.ev,h.tr,h.nd,h.inI,h.dS,?_,?_,?_,h.gd,?_,?_⟩⟩
  ·intro j hj
   unfold plus at hj
   rcases Bool.or_eq_true_iff.1 hj with e|e
   ·rw [beq_iff_eq.1 e]; exact hm
   ·exact h.kS j e
  ·intro p hp2 y hy he
   unfold plus
   rw [h.kE p hp2 y hy he]; simp
  ·intro j y hj hy q hq
   unfold plus at hj ⊢
   rcases Bool.or_eq_true_iff.1 hj with e|e
   ·rw [beq_iff_eq.1 e,hx] at hy
    cases hy
    rw [hpre q hq]; simp
   ·rw [h.kD j y e hy q hq]; simp
  ·intro p hp2 y hy he hkp
   unfold plus at hkp
   exact h.pf p hp2 y hy he (Bool.or_eq_false_iff.1 hkp).2
  ·exact (h.rep.below hb).set' hdn (h.free hI h0 hdi hk) hs (I0 hI h.nd hp1 hdi)
 unfold wpOpIn
 simp only [ho]
 unfold PF at hpf'
 cases g with
 | none =>
  simp only at hpf'
  have hw:Region.wanted o (yielded ops a.tmps)=true:=(cS h4).2 (fun _ _ e=>by cases e)
  rw [if_pos hw]
  refine eP hnd ?_
  obtain ⟨s',hs',hdo⟩:=nY htab.fs (htab.g.at h.rep.hep.frm) h.rep (g:=none) (fun _ _ e=>by cases e) h3 hpf'.2
  refine hdo.mono ?_
  rintro v w' ⟨hb,hr⟩
  subst hs'
  exact fin w' v hb (lP hr hpf'.1)
 | some gw =>
  obtain ⟨d0,wt⟩:=gw
  obtain ⟨v0,hs0,hpf'⟩:=hpf'
  have hne:d0≠d:=by
   rintro rfl
   exact hI.Tw hx (t:=d0) (by rw [<- hco]; unfold eR; simp) hdi
  by_cases hw:Region.wanted o (yielded ops a.tmps)=true
  ·have hg:=(cS h4).1 hw
   have hgd:a.tmps.getD d0 undef=.bool wt:=hg d0 wt rfl
   have hgp:=lT h.rep.fr 10 d0 wt hgd
   rw [if_pos hw]
   have he':(evP T.fs (some (d0,wt)) ⟨cA I fr0 (res.filter fun p=>keep p.1),hp,nx⟩ sop).holds (fun u=>u=v0):=by
    simp only at hpf'
    split at hpf'
    ·rename_i u hu; rw [hu]; exact hpf'
    ·rename_i p u hu; rw [hu]; exact ⟨hpf'.1 hgp,hpf'.2⟩
    ·exact absurd hgp hpf'.2
   refine eP hnd ?_
   obtain ⟨s',hs',hdo⟩:=nY htab.fs (htab.g.at h.rep.hep.frm) h.rep hg h3 he'
   refine hdo.mono ?_
   rintro v w' ⟨hb,hr⟩
   subst hs'
   refine fin w' v hb ?_
   rw [hs0]
   simp only [cP]
   rw [bV _ _ _ _ hne,hgd]
   exact ⟨fun _=>hr,fun e=>absurd rfl e⟩
  ·have hg:¬ a.tmps.getD d0 undef=.bool wt:=by
    intro e
    exact hw ((cS h4).2 (fun d' w' e'=>by cases e'; exact e))
   rw [if_neg hw]
   refine ⟨fun f _=>sQ ro f,fin w undef (Below.refl _ _) ?_⟩
   rw [hs0]
   simp only [cP]
   rw [bV _ _ _ _ hne]
   exact ⟨fun e=>absurd e hg,fun _=>trivial⟩
def zT (T:Tb) (o:bP) (stab:List bP) (sub:cY) (fr:List (Nat×SV)) (hp:List (Nat×aC)) (nx:Nat) (k:St->Prop):Prop :=
 match o.guard with
 | none=>evE T none ⟨fr,hp,nx⟩ (fun s st'=>stK st' fun hp' nx'=>nQ T.fs fr hp nx hp' nx' stab/\sI o.dst s fr fun fr'=>evD T sub fr' hp' nx' k) o.op
 | some (d0,w)=>iK fr 10 d0 w (evE T (some (d0,w)) ⟨fr,hp,nx⟩ (fun s st'=>stK st' fun hp' nx'=>nQ T.fs fr hp nx hp' nx' stab/\sI o.dst s fr fun fr'=>evD T sub fr' hp' nx' k) o.op)
   (sI o.dst (.tup .nil) fr fun fr'=>evD T sub fr' hp nx k)
theorem Dp {S:List Nat} {fr:List (Nat×SV)} {i:Nat} {x:aR} (hx:I[i]?=some x) (hxe:x.eff=true) (hi:i ∉ S) (hp0:∀ p∈x.pre,p∈S):∀ (t:cY) (es:List Nat),i ∉ es->eU I (some es) S t->evD T t fr hp nx K ->
  ∃ stab sub,zT T x.o stab sub fr hp nx K/\(∀ j∈S,∀ y,I[j]?=some y->y.eff=false->jW y.o.op=true->x.tp.testBit j=false->y.o∈stab)/\eU I none (i::S) sub:=by
 intro t
 induction t with
 | done=>intro es _ h; exact h.elim
 | pure=>intro es _ h; exact h.elim
 | none=>intro es he h _; exact absurd (h i x hx hxe hi hp0) he
 | eff e o stab sub alt _ iha =>
  intro es he h hev
  obtain ⟨⟨y,hy,hyo,hye,hyS,hyp,hst⟩,hsub,halt⟩:=h
  obtain ⟨hn,hea⟩:=hev
  by_cases hei:e=i
  ·subst hei
   rw [hx] at hy
   cases hy
   subst hyo
   exact ⟨stab,sub,hn,hst,hsub⟩
  ·exact iha (e::es) (by simp [he,Ne.symm hei]) halt hea
theorem Jo {tab:List (Nat×cZ)} {fr:List (Nat×SV)} {hp':List (Nat×aC)} {nx':Nat}:∀ {l:List bP},nQ tab fr hp nx hp' nx' l->∀ o∈l,evP tab o.guard ⟨fr,hp',nx'⟩ o.op=evP tab o.guard ⟨fr,hp,nx⟩ o.op:=by
 intro l
 induction l with
 | nil=>intro _ o h; cases h
 | cons b r ih =>
  intro h o ho
  rcases List.mem_cons.1 ho with rfl|ho
  ·exact h.1
  ·exact ih h.2 o ho
theorem Nd (htab:rE P C T) (hI:DOk P C.n ops I) (h0:dJ fr0 []) (h:iS I T K fr0 C res keep t hp nx μ a w) {i:Nat} {o:Oper} {x:aR} (ho:ops[i]?=some o) (hx:I[i]?=some x) (hco:oO P C.n ops.toList o=some x.o) (_hxe:x.eff=true)
  (hm:i ∉ res.map (·.1)) (hpre:∀ q∈x.pre,keep q=true) {stab:List bP} {sub:cY} (hev:zT T x.o stab sub (cA I fr0 res) hp nx K)
  (hst:∀ j∈res.map (·.1),∀ y,I[j]?=some y->y.eff=false->jW y.o.op=true->x.tp.testBit j=false->y.o∈stab) (htr:eU I none (i::res.map (·.1)) sub) {Q:Exit->Act->World->Prop} :
  wpOpIn (WF ro) 0 P ops Q i (fun a' w'=>∃ res' t' hp' nx' μ',iS I T K fr0 C res' (plus keep i) t' hp' nx' μ' a' w') a w:=by
 have hk:keep i=false:=by
  cases e:keep i with
  | false=>rfl
  | true=>exact absurd (h.kS i e) hm
 obtain ⟨hlk,hgk⟩:=h.look hI h0 hx hpre
 have hag:Agree (pS x.o.op) (cA I fr0 res) (cA I fr0 (res.filter fun p=>keep p.1)):=fun q hq=>hlk q (by unfold eR; exact List.mem_append_left _ hq)
 have hfilt:∀ s,((i,s)::res).filter (fun p=>plus keep i p.1)=(i,s)::res.filter (fun p=>keep p.1):=by
  intro s
  rw [List.filter_cons,if_pos (by simp [plus])]
  congr 1
  refine List.filter_congr fun p hp1=>?_
  unfold plus
  have:(p.1 == i)=false:=by
   rw [beq_eq_false_iff_ne]
   rintro e
   exact hm (e ▸ List.mem_map.2 ⟨p,hp1,rfl⟩)
  rw [this]; rfl
 -- what follows
 have fin:∀ (s:SV) (hp':List (Nat×aC)) (nx':Nat) (μ':Nat->Option (Nat×Nat)) (v:Value) (w':World),(∀ p∈res,∀ y,I[p.1]?=some y->y.eff=false->keep p.1=false->evP T.fs y.o.guard ⟨cA I fr0 res,hp',nx'⟩ y.o.op=evP T.fs y.o.guard ⟨cA I fr0 res,hp,nx⟩ y.o.op) ->
   aY C μ' ⟨cA I fr0 (res.filter fun p=>keep p.1),hp',nx'⟩ a w'->R (aA C μ' hp' w') s [v]->(∀ d,x.o.dst=some d->d < C.n) ->
   sI x.o.dst s (cA I fr0 res) (fun fr'=>evD T sub fr' hp' nx' K)->∃ res' t' hp'' nx'' μ'',iS I T K fr0 C res' (plus keep i) t' hp'' nx'' μ'' (a.put x.o.dst v) w':=by
  intro s hp' nx' μ' v w' hstab hrep hR hdn hsx
  have mk:∀ (s:SV) (hev':evD T sub (cA I fr0 ((i,s)::res)) hp' nx' K) (hgd:∀ d w v,s=.gd d w v->False) (hrep':aY C μ' ⟨cA I fr0 ((i,s)::res.filter fun p=>keep p.1),hp',nx'⟩ (a.put x.o.dst v) w'),
    ∃ res' t' hp'' nx'' μ'',iS I T K fr0 C res' (plus keep i) t' hp'' nx'' μ'' (a.put x.o.dst v) w':=by
   intro s hev' hgd hrep'
   refine ⟨(i,s)::res,sub,hp',nx',μ',⟨hev',htr,?_,?_,?_,?_,?_,?_,?_,?_,by rw [hfilt]; exact hrep'⟩⟩
   ·simp only [List.map_cons,List.nodup_cons]; exact ⟨hm,h.nd⟩
   ·intro p hp2
    rcases List.mem_cons.1 hp2 with rfl|hp2
    ·exact ⟨x,hx⟩
    ·exact h.inI p hp2
   ·intro p hp2 y hy q hq
    rcases List.mem_cons.1 hp2 with rfl|hp2
    ·rw [hx] at hy; cases hy
     exact List.mem_cons_of_mem _ (h.kS q (hpre q hq))
    ·exact List.mem_cons_of_mem _ (h.dS p hp2 y hy q hq)
   ·intro j hj
    unfold plus at hj
    rcases Bool.or_eq_true_iff.1 hj with e|e
    ·rw [beq_iff_eq.1 e]; exact List.mem_cons_self ..
    ·exact List.mem_cons_of_mem _ (h.kS j e)
   ·intro p hp2 y hy he
    unfold plus
    rcases List.mem_cons.1 hp2 with rfl|hp2
    ·simp
    ·rw [h.kE p hp2 y hy he]; simp
   ·intro j y hj hy q hq
    unfold plus at hj ⊢
    rcases Bool.or_eq_true_iff.1 hj with e|e
    ·rw [beq_iff_eq.1 e,hx] at hy
     cases hy
     rw [hpre q hq]; simp
    ·rw [h.kD j y e hy q hq]; simp
   ·intro p hp2 d w v e
    rcases List.mem_cons.1 hp2 with rfl|hp2
    ·exact (hgd d w v e).elim
    ·exact h.gd p hp2 d w v e
   ·intro p hp2 y hy he hkp
    unfold plus at hkp
    obtain ⟨k1,k2⟩:=Bool.or_eq_false_iff.1 hkp
    rcases List.mem_cons.1 hp2 with rfl|hp2
    ·simp at k1
    ·exact h.Hg hI h0 hm hp2 hy (h.pf p hp2 y hy he k2) (hstab p hp2 y hy he k2)
  unfold sI at hsx
  split at hsx
  ·rename_i hd
   have hdi:eC I i=none:=by unfold eC; rw [hx]; exact hd
   have e1:∀ r,cA I fr0 ((i,.junk)::r)=cA I fr0 r:=fun r=>by simp only [cA,hdi]
   refine mk .junk (by rw [e1]; exact hsx) (fun _ _ _ e=>by cases e) ?_
   rw [e1,hd,Mu]
   exact hrep
  ·rename_i d hd
   simp only [eX,cH] at hsx
   split at hsx
   ·exact hsx.elim
   ·rename_i hng
    have hdi:eC I i=some d:=by unfold eC; rw [hx]; exact hd
    have e2:∀ r,cA I fr0 ((i,s)::r)=(d,s)::cA I fr0 r:=fun r=>by simp only [cA,hdi]
    refine mk _ (by rw [e2]; exact hsx) (fun d w v e=>hng d w v e) ?_
    rw [hd]
    refine hrep.set' (hdn d hd) (h.free hI h0 hdi hk) (lP hR hng) ?_
    intro t
    rw [e2,dR]
 -- the translation
 have hco0:=hco
 unfold oO at hco
 split at hco
 rotate_left
 ·cases hco
 rename_i sop g h3 h4
 cases hdst:Gr C.n o.dst with
 | false=>simp [hdst] at hco
 | true =>
 simp only [hdst,cond_true,Option.some.injEq] at hco
 have hxd:x.o.dst=o.dst:=by rw [<- hco]
 have hxg:x.o.guard=g:=by rw [<- hco]
 have hxop:x.o.op=sop:=by rw [<- hco]
 have hnd:∀ c,o.op≠.defer c:=by
  rintro c e
  rw [e] at h3
  simp [cOp] at h3
 have hdn:∀ d,x.o.dst=some d->d < C.n:=by
  intro d e
  rw [hxd] at e
  rw [e] at hdst
  have h1:Nat.ble (d+1) C.n=true:=hdst
  exact Nat.le_of_ble_eq_true h1
 have stab_ok:∀ (hp':List (Nat×aC)) (nx':Nat),nQ T.fs (cA I fr0 res) hp nx hp' nx' stab->∀ p∈res,∀ y,I[p.1]?=some y->y.eff=false->keep p.1=false->evP T.fs y.o.guard ⟨cA I fr0 res,hp',nx'⟩ y.o.op=evP T.fs y.o.guard ⟨cA I fr0 res,hp,nx⟩ y.o.op:=by
  intro hp' nx' hs p hp2 y hy he hkp
  cases hr:jW y.o.op with
  | false=>exact Ss hr
  | true =>
   refine Jo hs _ (hst p.1 (List.mem_map.2 ⟨p,hp2,rfl⟩) y hy he hr ?_)
   cases hb:x.tp.testBit p.1 with
   | false=>rfl
   | true =>
    have:=hI.Np (S:=fun q=>keep q=true) h.kD i x p.1 hx hpre hb
    rw [this] at hkp; cases hkp
 unfold wpOpIn
 simp only [ho]
 unfold zT at hev
 simp only [Uc] at hev
 rw [hxg] at hev
 cases g with
 | none =>
  simp only at hev
  have hw:Region.wanted o (yielded ops a.tmps)=true:=(cS h4).2 (fun _ _ e=>by cases e)
  rw [if_pos hw]
  refine eP hnd ?_
  have hev':=wT (K:=fun s hp' nx'=>nQ T.fs (cA I fr0 res) hp nx hp' nx' stab/\sI x.o.dst s (cA I fr0 res) fun fr'=>evD T sub fr' hp' nx' K) hag hev
  rw [hxop] at hev'
  refine (nX htab h.rep (g:=none) (fun _ _ e=>by cases e) h3 hev').mono ?_
  rintro v w' ⟨s,st',μ',⟨k1,k2⟩,hfr,hE,hh,hR⟩
  rw [<- hxd]
  have hrep:=h.rep.Aj hfr hE hh
  obtain ⟨fr1,hp1,nx1⟩:=st'
  simp only at hfr
  subst hfr
  exact fin s hp1 nx1 μ' v w' (stab_ok hp1 nx1 k1) hrep hR hdn k2
 | some gw =>
  obtain ⟨d0,wt⟩:=gw
  simp only at hev
  obtain ⟨G,g1,g2⟩:=hgk d0 wt hxg
  have hev2:=zC G g2 10 d0 wt _ _ g1 hev
  rcases qK h.rep.fr 10 d0 wt _ _ hev2 with ⟨hgd,hy⟩|⟨hgd,hn⟩
  ·have hg:GOk (some (d0,wt)) a.tmps:=by intro d w e; cases e; exact hgd
   have hw:Region.wanted o (yielded ops a.tmps)=true:=(cS h4).2 hg
   rw [if_pos hw]
   refine eP hnd ?_
   have hev':=wT (K:=fun s hp' nx'=>nQ T.fs (cA I fr0 res) hp nx hp' nx' stab/\sI x.o.dst s (cA I fr0 res) fun fr'=>evD T sub fr' hp' nx' K) hag hy
   rw [hxop] at hev'
   refine (nX htab h.rep hg h3 hev').mono ?_
   rintro v w' ⟨s,st',μ',⟨k1,k2⟩,hfr,hE,hh,hR⟩
   rw [<- hxd]
   have hrep:=h.rep.Aj hfr hE hh
   obtain ⟨fr1,hp1,nx1⟩:=st'
   simp only at hfr
   subst hfr
   exact fin s hp1 nx1 μ' v w' (stab_ok hp1 nx1 k1) hrep hR hdn k2
  ·have hw:¬ Region.wanted o (yielded ops a.tmps)=true:=by
    intro e
    exact hgd ((cS h4).1 e d0 wt rfl)
   rw [if_neg hw]
   refine ⟨fun f _=>sQ ro f,?_⟩
   rw [<- hxd]
   exact fin (.tup .nil) hp nx μ undef w (fun _ _ _ _ _ _=>rfl) h.rep ⟨[],rfl,rfl⟩ hdn hn
def Eo:cY->Bool
 | .pure ..=>true
 | _=>false
theorem iS.norm (hI:DOk P C.n ops I) (h0:dJ fr0 []):∀ (t:cY) (res:List (Nat×SV)),iS I T K fr0 C res keep t hp nx μ a w->∃ res' t',Eo t'=false/\iS I T K fr0 C res' keep t' hp nx μ a w:=by
 intro t
 induction t with
 | pure i o rest ih =>
  intro res h
  obtain ⟨s,h'⟩:=h.adv hI h0
  exact ih _ h'
 | done=>intro res h; exact ⟨res,_,rfl,h⟩
 | none=>intro res h; exact ⟨res,_,rfl,h⟩
 | eff=>intro res h; exact ⟨res,_,rfl,h⟩
theorem Cy {S:List Nat} {t:cY} (h:eU I none S t) (hp:Eo t=false) (hlen:∀ i x,I[i]?=some x->i < I.length):Closed I S:=by
 cases t with
 | done=>intro i x hx _ _; exact h i (hlen i x hx)
 | none=>exact h.1
 | pure=>cases hp
 | eff=>exact h.1
theorem Jt {S:List Nat} {fr:List (Nat×SV)} {hp':List (Nat×aC)} {t:cY} {i:Nat} {x:aR} (hx:I[i]?=some x) (hxe:x.eff=true) (hi:i ∉ S) (hp0:∀ p∈x.pre,p∈S) (h:eU I none S t) (hp:Eo t=false) (hlen:∀ i x,I[i]?=some x->i < I.length) (hev:evD T t fr hp' nx K) :
  ∃ stab sub,zT T x.o stab sub fr hp' nx K/\(∀ j∈S,∀ y,I[j]?=some y->y.eff=false->jW y.o.op=true->x.tp.testBit j=false->y.o∈stab)/\eU I none (i::S) sub:=by
 cases t with
 | done=>exact absurd (h i (hlen i x hx)) hi
 | none=>exact (h.2.2 i x hx hxe hi hp0).elim
 | pure=>cases hp
 | eff e o stab sub alt =>
  obtain ⟨hcl,_,⟨y,hy,hyo,hye,hyS,hyp,hst⟩,hsub,halt⟩:=h
  obtain ⟨hn,hea⟩:=hev
  by_cases hei:e=i
  ·subst hei
   rw [hx] at hy
   cases hy
   subst hyo
   exact ⟨stab,sub,hn,hst,hsub⟩
  ·exact Dp hx hxe hi hp0 alt [e] (by simp [Ne.symm hei]) halt hea
def aU (l:Array Bool):Nat->Bool:=fun j=>l.getD j false
theorem wpAny_all {listed:Array Bool} (hall:∀ i,i < ops.size->aU listed i=true) (hsz:listed.size=ops.size) {Q:Exit->Act->World->Prop} (fuel:Nat) {a:Act} {w:World} (h:Q .normal a w):wpAnyIn (WF ro) 0 P .any ops Q fuel listed a w:=by
 have hr:Region.ready .any ops listed=[]:=by
  refine List.eq_nil_iff_forall_not_mem.2 fun i hi=>?_
  unfold Region.ready at hi
  obtain ⟨h1,h2⟩:=List.mem_filter.1 hi
  have hlt:=List.mem_range.1 h1
  simp only [Bool.and_eq_true,Bool.not_eq_true'] at h2
  have h3:=hall i hlt
  unfold aU at h3
  have h4:=h2.1
  rw [Array.getD_eq_getD_getElem?] at h3 h4
  rw [Array.getElem?_eq_getElem (show i < listed.size by omega)] at h3 h4
  simp only [Option.getD_some] at h3 h4
  rw [h3] at h4
  cases h4
 cases fuel with
 | zero=>exact ⟨hr,h⟩
 | succ fuel=>exact ⟨fun _=>h,fun i hi=>by rw [hr] at hi; cases hi⟩
def Jx (P:Program) (ro:Option Nat) (C:Ctx) (ops:Array Oper) (I:List aR) (K:St->Prop) (Q:Exit->Act->World->Prop):Prop :=
 (I.length=ops.size/\∀ st μ a w,K st->aY C μ st a w->Q .normal a w) \/
 (∃ o r,ops.toList.drop I.length=o::r/\(∀ p∈cK o,p < I.length)/\(∀ i,i < I.length->(kZ I (cK o)).testBit i=true) /\
  (∀ j o',r[j]?=some o'->I.length+j∈cK o'/\∀ p∈cK o',p < I.length+j+1) /\
  ∀ st μ a w,K st->aY C μ st a w->wpListIn (WF ro) 0 P ops Q (o::r) a w)
theorem Lo {listed:Array Bool} {i:Nat} (hil:i < listed.size):aU (listed.setIfInBounds i true)=plus (aU listed) i:=by
 funext j
 unfold plus aU
 by_cases hj:j=i
 ·subst hj
  simp [hil,Array.getD_eq_getD_getElem?]
 ·have:(j == i)=false:=beq_eq_false_iff_ne.2 hj
  simp [this,Array.getD_eq_getD_getElem?,Array.getElem?_setIfInBounds_ne (Ne.symm hj)]
theorem count_set {listed:Array Bool} {i fuel:Nat} (hil:i < listed.size) (hk:aU listed i=false) (hc:listed.count false=fuel+1):(listed.setIfInBounds i true).count false=fuel:=by
 have hki':listed[i]=false:=by
  unfold aU at hk
  rw [Array.getD_eq_getD_getElem?,Array.getElem?_eq_getElem hil] at hk
  exact hk
 rw [Array.setIfInBounds_def,dif_pos hil,Array.count_set hil,hki']
 simp
 omega
theorem Mw {listed:Array Bool} {i:Nat} {o:Oper} (hsz:listed.size=ops.size) (ho:ops[i]?=some o) (hkf:aU listed i=false) (hpre:∀ q∈cK o,aU listed q=true):i∈Region.ready .any ops listed:=by
 have hi:i < ops.size:=(Array.getElem?_eq_some_iff.1 ho).1
 have hlt:i < listed.size:=by omega
 unfold Region.ready
 refine List.mem_filter.2 ⟨List.mem_range.2 hi,?_⟩
 rw [ho]
 simp only [Option.map_some,Option.getD_some,Bool.and_eq_true,Bool.not_eq_true']
 refine ⟨?_,?_⟩
 ·unfold aU at hkf
  rw [Array.getD_eq_getD_getElem?,Array.getElem?_eq_getElem hlt] at hkf ⊢
  exact hkf
 ·rw [Array.all_eq_true_iff_forall_mem]
  intro e he
  cases hbd:Region.binds .any e with
  | false=>rfl
  | true =>
   have hq:e.on∈cK o:=by
    unfold cK
    exact List.mem_map.2 ⟨e,List.mem_filter.2 ⟨by simpa using he,hbd⟩,rfl⟩
   have:=hpre e.on hq
   simpa [aU] using this
theorem Mx {listed:Array Bool} {i:Nat} (hsz:listed.size=ops.size) (hi:i∈Region.ready .any ops listed):∃ o,ops[i]?=some o/\i < listed.size/\aU listed i=false/\∀ q∈cK o,aU listed q=true:=by
 unfold Region.ready at hi
 obtain ⟨h1,h2⟩:=List.mem_filter.1 hi
 have hlt:=List.mem_range.1 h1
 simp only [Bool.and_eq_true,Bool.not_eq_true'] at h2
 obtain ⟨h2,h3⟩:=h2
 have ho:ops[i]?=some ops[i]:=Array.getElem?_eq_getElem hlt
 refine ⟨_,ho,by omega,?_,?_⟩
 ·unfold aU
  rw [Array.getD_eq_getD_getElem?] at h2 ⊢
  rw [Array.getElem?_eq_getElem (show i < listed.size by omega)] at h2 ⊢
  exact h2
 ·intro q hq
  unfold cK at hq
  obtain ⟨e,he,rfl⟩:=List.mem_map.1 hq
  obtain ⟨he1,he2⟩:=List.mem_filter.1 he
  rw [ho] at h3
  simp only [Option.map_some,Option.getD_some,Array.all_eq_true_iff_forall_mem] at h3
  have:=h3 e (by simpa using he1)
  rw [he2] at this
  simpa [aU] using this
theorem Gc {Q:Exit->Act->World->Prop}:∀ (l:List Oper) (m fuel:Nat) (listed:Array Bool) (a:Act) (w:World),listed.size=ops.size->ops.toList.drop m=l->(∀ j,j < m->aU listed j=true)->(∀ j,m<=j->aU listed j=false)->listed.count false=fuel ->
  (∀ j o',l[j]?=some o'->(∀ p∈cK o',p < m+j)/\(0 < j->m+j - 1∈cK o'))->wpListIn (WF ro) 0 P ops Q l a w->wpAnyIn (WF ro) 0 P .any ops Q fuel listed a w:=by
 intro l
 induction l with
 | nil =>
  intro m fuel listed a w hsz hd hlo hhi hc _ hw
  have hm:ops.size<=m:=by simpa using List.drop_eq_nil_iff.1 hd
  exact wpAny_all (fun i hi=>hlo i (by omega)) hsz fuel hw
 | cons o l ih =>
  intro m fuel listed a w hsz hd hlo hhi hc hp hw
  have hm:ops[m]?=some o:=by
   have:(ops.toList.drop m)[0]?=some o:=by rw [hd]; rfl
   simpa using this
  have hml:=(Array.getElem?_eq_some_iff.1 hm).1
  have hil:m < listed.size:=by omega
  have hkm:=hhi m (Nat.le_refl _)
  have hrd:m∈Region.ready .any ops listed:=Mw hsz hm hkm fun q hq=>hlo q (by have:=(hp 0 o rfl).1 q hq; omega)
  cases fuel with
  | zero =>
   exfalso
   have:false∈listed:=by
    have hki':listed[m]=false:=by
     unfold aU at hkm
     rw [Array.getD_eq_getD_getElem?,Array.getElem?_eq_getElem hil] at hkm
     exact hkm
    rw [<- hki']; exact Array.getElem_mem hil
   exact absurd hc (Nat.ne_of_gt (Array.count_pos_iff.2 this))
  | succ fuel =>
   refine And.intro (fun hr=>by (rw [hr] at hrd; cases hrd)) (fun i hi=>?_)
   obtain ⟨o',ho',_,hki,hpre⟩:=Mx hsz hi
   have hge:m<=i:=by
    rcases Nat.lt_or_ge i m with h|h
    ·rw [hlo i h] at hki; cases hki
    ·exact h
   have him:i=m:=by
    rcases Nat.eq_or_lt_of_le hge with h|h
    ·exact h.symm
    ·exfalso
     have hg:(o::l)[i - m]?=some o':=by
      rw [<- hd,List.getElem?_drop,show m+(i - m)=i by omega]
      simpa using ho'
     have:=(hp (i - m) o' hg).2 (by omega)
     have h2:=hpre _ this
     rw [hhi _ (by omega)] at h2
     cases h2
   subst him
   have hkeep:=Lo (listed:=listed) hil
   have hdone:∀ a' w',wpListIn (WF ro) 0 P ops Q l a' w'->wpAnyIn (WF ro) 0 P .any ops Q fuel (listed.setIfInBounds i true) a' w':=by
    intro a' w' hq
    refine ih (i+1) fuel _ a' w' (by simp [hsz]) ?_ ?_ ?_ (count_set hil hkm hc) ?_ hq
    ·rw [<- List.drop_drop,List.drop_one.symm.symm,hd]
     rfl
    ·intro j hj
     rw [hkeep]
     unfold plus
     by_cases e:j=i
     ·simp [e]
     ·rw [hlo j (by omega)]; simp
    ·intro j hj
     rw [hkeep]
     unfold plus
     rw [hhi j (by omega),beq_eq_false_iff_ne.2 (by omega)]
     rfl
    ·intro j o2 h2
     have:=hp (j+1) o2 (by simpa using h2)
     exact ⟨fun p hp'=>by have:=this.1 p hp'; omega,fun _=>by have:=this.2 (by omega); rw [show i+1+j - 1=i+(j+1) - 1 by omega]; exact this⟩
   unfold wpOpIn
   simp only [hm]
   simp only [wpListIn] at hw
   split at hw
   ·rename_i hwant
    rw [if_pos hwant]
    exact Oper.wpIn_mono hdone hw
   ·rename_i hwant
    rw [if_neg hwant]
    exact ⟨hw.1,hdone _ _ hw.2⟩
theorem Ia (htab:rE P C T) (hI:DOk P C.n ops I) (h0:dJ fr0 []) {Q:Exit->Act->World->Prop} (hL:Jx P ro C ops I K Q) :
  ∀ (fuel:Nat) (listed:Array Bool) (a:Act) (w:World),listed.size=ops.size->listed.count false=fuel->(∀ j,I.length<=j->aU listed j=false)->(∃ res t hp nx μ,iS I T K fr0 C res (aU listed) t hp nx μ a w) ->
   wpAnyIn (WF ro) 0 P .any ops Q fuel listed a w:=by
 have hlen:∀ i x,I[i]?=some x->i < I.length:=fun i x e=>(List.getElem?_eq_some_iff.1 e).1
 have hle:=hI.len
 -- the end
 have fin0:∀ (listed:Array Bool) (a:Act) (w:World),(∃ res t hp nx μ,iS I T K fr0 C res (aU listed) t hp nx μ a w)->(∀ i,i < I.length->aU listed i=true)->∃ st μ,K st/\aY C μ st a w:=by
  rintro listed a w ⟨res,t,hp,nx,μ,h⟩ hall
  obtain ⟨res,t,hpu,h⟩:=h.norm hI h0 t res
  have hin:∀ i,i < I.length->i∈res.map (·.1):=fun i hi=>h.kS i (hall i hi)
  have htr:=h.tr
  have hev:=h.ev
  cases t with
  | pure=>cases hpu
  | none=>obtain ⟨_,⟨i,h1,h2⟩,_⟩:=htr; exact absurd (hin i h1) h2
  | eff=>obtain ⟨_,⟨i,h1,h2⟩,_⟩:=htr; exact absurd (hin i h1) h2
  | done =>
   refine ⟨_,μ,hev,?_⟩
   have hr:=h.rep
   have:res.filter (fun p=>aU listed p.1)=res:=by
    refine List.filter_eq_self.2 fun p hp=>?_
    obtain ⟨x,hx⟩:=h.inI p hp
    exact hall p.1 (hlen _ _ hx)
   rw [this] at hr
   exact hr
 have fin:∀ (listed:Array Bool) (a:Act) (w:World),listed.size=ops.size->(∀ j,I.length<=j->aU listed j=false)->(∃ res t hp nx μ,iS I T K fr0 C res (aU listed) t hp nx μ a w)->(∀ i,i < ops.size->aU listed i=true)->Q .normal a w:=by
  intro listed a w hsz hlast hex hall
  obtain ⟨st,μ,h1,h2⟩:=fin0 listed a w hex (fun i hi=>hall i (by omega))
  rcases hL with ⟨_,hK⟩|⟨o,r,hd,_⟩
  ·exact hK st μ a w h1 h2
  ·have hlt:I.length < ops.size:=by
    rcases Nat.lt_or_ge I.length ops.size with h|h
    ·exact h
    ·rw [List.drop_eq_nil_iff.2 (by simpa using h)] at hd; cases hd
   have:=hlast I.length (Nat.le_refl _)
   rw [hall _ hlt] at this
   cases this
 have ready_low:∀ (listed:Array Bool) (i:Nat),listed.size=ops.size->i∈Region.ready .any ops listed->∃ o,ops[i]?=some o/\i < listed.size/\aU listed i=false/\∀ q∈cK o,aU listed q=true:=by
  intro listed i hsz hi
  unfold Region.ready at hi
  obtain ⟨h1,h2⟩:=List.mem_filter.1 hi
  have hlt:=List.mem_range.1 h1
  simp only [Bool.and_eq_true,Bool.not_eq_true'] at h2
  obtain ⟨h2,h3⟩:=h2
  have ho:ops[i]?=some ops[i]:=Array.getElem?_eq_getElem hlt
  refine ⟨_,ho,by omega,?_,?_⟩
  ·unfold aU
   rw [Array.getD_eq_getD_getElem?] at h2 ⊢
   rw [Array.getElem?_eq_getElem (show i < listed.size by omega)] at h2 ⊢
   exact h2
  ·intro q hq
   unfold cK at hq
   obtain ⟨e,he,rfl⟩:=List.mem_map.1 hq
   obtain ⟨he1,he2⟩:=List.mem_filter.1 he
   rw [ho] at h3
   simp only [Option.map_some,Option.getD_some,Array.all_eq_true_iff_forall_mem] at h3
   have:=h3 e (by simpa using he1)
   rw [he2] at this
   simpa [aU] using this
 have ready_iff:∀ (listed:Array Bool) (i:Nat),listed.size=ops.size->i < I.length->i∈Region.ready .any ops listed->∃ o x,ops[i]?=some o/\I[i]?=some x/\oO P C.n ops.toList o=some x.o/\i < listed.size/\aU listed i=false/\∀ q∈x.pre,aU listed q=true:=by
  intro listed i hsz hlt hi
  obtain ⟨o,ho,h1,h2,h3⟩:=ready_low listed i hsz hi
  obtain ⟨x,hx,hc,hp⟩:=hI.op i _ hlt ho
  exact ⟨o,x,ho,hx,hc,h1,h2,by rw [hp]; exact h3⟩
 -- what could be run
 have is_ready:∀ (listed:Array Bool) (i:Nat) (o:Oper),listed.size=ops.size->ops[i]?=some o->aU listed i=false->(∀ q∈cK o,aU listed q=true)->i∈Region.ready .any ops listed:=by
  intro listed i o hsz ho hkf hpre
  have hi:i < ops.size:=(Array.getElem?_eq_some_iff.1 ho).1
  have hlt:i < listed.size:=by omega
  unfold Region.ready
  refine List.mem_filter.2 ⟨List.mem_range.2 hi,?_⟩
  rw [ho]
  simp only [Option.map_some,Option.getD_some,Bool.and_eq_true,Bool.not_eq_true']
  refine ⟨?_,?_⟩
  ·unfold aU at hkf
   rw [Array.getD_eq_getD_getElem?,Array.getElem?_eq_getElem hlt] at hkf ⊢
   exact hkf
  ·rw [Array.all_eq_true_iff_forall_mem]
   intro e he
   cases hbd:Region.binds .any e with
   | false=>rfl
   | true =>
    have hq:e.on∈cK o:=by
     unfold cK
     exact List.mem_map.2 ⟨e,List.mem_filter.2 ⟨by simpa using he,hbd⟩,rfl⟩
    have:=hpre e.on hq
    simpa [aU] using this
 intro fuel
 induction fuel with
 | zero =>
  intro listed a w hsz hc hlast hex
  have hall:∀ i,i < ops.size->aU listed i=true:=by
   intro i hi
   have hlt:i < listed.size:=by omega
   unfold aU
   rw [Array.getD_eq_getD_getElem?,Array.getElem?_eq_getElem hlt]
   cases e:listed[i] with
   | true=>rfl
   | false =>
    exfalso
    have:false∈listed:=by rw [<- e]; exact Array.getElem_mem hlt
    exact absurd hc (Nat.ne_of_gt (Array.count_pos_iff.2 this))
  refine ⟨?_,fin listed a w hsz hlast hex hall⟩
  refine List.eq_nil_iff_forall_not_mem.2 fun i hi=>?_
  obtain ⟨o,ho,_,hk,_⟩:=ready_low listed i hsz hi
  rw [hall i (Array.getElem?_eq_some_iff.1 ho).1] at hk
  cases hk
 | succ fuel ih =>
  intro listed a w hsz hc hlast hex
  refine ⟨fun hr=>fin listed a w hsz hlast hex ?_,?_⟩
  · -- whatever is left could be run
   intro i
   induction i using Nat.strongRecOn with
   | _ i ihi =>
    intro hi
    refine Classical.byContradiction fun hk=>?_
    have hkf:aU listed i=false:=by cases e:aU listed i with|false=>rfl|true=>exact absurd e hk
    have ho:ops[i]?=some ops[i]:=Array.getElem?_eq_getElem hi
    have hpre:∀ q∈cK ops[i],q < i:=by
     by_cases hlow:i < I.length
     ·obtain ⟨x,hx,_,hp⟩:=hI.op i _ hlow ho
      intro q hq
      exact hI.lt i x hx q (by rw [hp]; exact hq)
     ·rcases hL with ⟨he,_⟩|⟨o,r,hd,hp,_,ht,_⟩
      ·omega
      ·have hg:(o::r)[i - I.length]?=some ops[i]:=by
        rw [<- hd,List.getElem?_drop,show I.length+(i - I.length)=i by omega]
        simp
       cases e:i - I.length with
       | zero =>
        rw [e] at hg
        simp only [List.getElem?_cons_zero,Option.some.injEq] at hg
        rw [<- hg]
        intro q hq
        have:=hp q hq
        omega
       | succ j =>
        rw [e] at hg
        simp only [List.getElem?_cons_succ] at hg
        intro q hq
        have:=(ht j _ hg).2 q hq
        omega
    have:=is_ready listed i _ hsz ho hkf (fun q hq=>ihi q (hpre q hq) (by have:=hpre q hq; omega))
    rw [hr] at this
    cases this
  ·intro i hi
   obtain ⟨o0,ho0,hil,hki,hpre0⟩:=ready_low listed i hsz hi
   have hio:=(Array.getElem?_eq_some_iff.1 ho0).1
   have hkeep:aU (listed.setIfInBounds i true)=plus (aU listed) i:=by
    funext j
    unfold plus aU
    by_cases hj:j=i
    ·subst hj
     simp [hil,Array.getD_eq_getD_getElem?]
    ·have:(j == i)=false:=beq_eq_false_iff_ne.2 hj
     simp [this,Array.getD_eq_getD_getElem?,Array.getElem?_setIfInBounds_ne (Ne.symm hj)]
   by_cases hlow:i < I.length
   ·obtain ⟨o,x,ho,hx,hco,hil,hki,hpre⟩:=ready_iff listed i hsz hlow hi
    obtain ⟨res,t,hp,nx,μ,h⟩:=hex
    obtain ⟨res,t,hpu,h⟩:=h.norm hI h0 t res
    have hcnt:(listed.setIfInBounds i true).count false=fuel:=by
     have hki':listed[i]=false:=by
      unfold aU at hki
      rw [Array.getD_eq_getD_getElem?,Array.getElem?_eq_getElem hil] at hki
      exact hki
     rw [Array.setIfInBounds_def,dif_pos hil,Array.count_set hil,hki']
     simp
     omega
    have go:∀ a' w',(∃ res' t' hp' nx' μ',iS I T K fr0 C res' (plus (aU listed) i) t' hp' nx' μ' a' w')->wpAnyIn (WF ro) 0 P .any ops Q fuel (listed.setIfInBounds i true) a' w':=by
     intro a' w' hx
     refine ih _ a' w' (by simp [hsz]) hcnt (fun j hj=>?_) (by rw [hkeep]; exact hx)
     rw [hkeep]
     unfold plus
     rw [hlast j hj,beq_eq_false_iff_ne.2 (by omega)]
     rfl
    have hpS:∀ q∈x.pre,q∈res.map (·.1):=fun q hq=>h.kS q (hpre q hq)
    cases hxe:x.eff with
    | false =>
     have hm:=Cy h.tr hpu hlen i x hx hxe hpS
     refine wpOpIn_mono ?_ (Jp htab hI h0 h ho hx hco hxe hm hki hpre)
     rintro a' w' ⟨μ',h'⟩
     exact go a' w' ⟨res,t,hp,nx,μ',h'⟩
    | true =>
     have hm:i ∉ res.map (·.1):=by
      intro hmem
      obtain ⟨p,hp1,rfl⟩:=List.mem_map.1 hmem
      rw [h.kE p hp1 x hx hxe] at hki
      cases hki
     obtain ⟨stab,sub,hn,hst,htr⟩:=Jt hx hxe hm hpS h.tr hpu hlen h.ev
     refine wpOpIn_mono ?_ (Nd htab hI h0 h ho hx hco hxe hm hpre hn hst htr)
     rintro a' w' h'
     exact go a' w' h'
   ·rcases hL with ⟨he,_⟩|⟨o,r,hd,hp,hbits,ht,hK⟩
    ·omega
    ·have hg:(o::r)[i - I.length]?=some o0:=by
      rw [<- hd,List.getElem?_drop,show I.length+(i - I.length)=i by omega]
      simpa using ho0
     have hie:i=I.length:=by
      cases e:i - I.length with
      | zero=>omega
      | succ j =>
       exfalso
       rw [e] at hg
       simp only [List.getElem?_cons_succ] at hg
       have h1:=hpre0 _ (ht j _ hg).1
       rw [hlast _ (by omega)] at h1
       cases h1
     subst hie
     have hoo:o=o0:=by
      rw [Nat.sub_self] at hg
      simpa using hg
     subst hoo
     have hkd:∀ j x,aU listed j=true->I[j]?=some x->∀ q∈x.pre,aU listed q=true:=by
      obtain ⟨res,t,hp,nx,μ,h⟩:=hex
      exact h.kD
     have hall:∀ j,j < I.length->aU listed j=true:=by
      intro j hj
      rcases vB (hbits j hj) with h|⟨p,hp1,y,hy,hb⟩
      ·exact hpre0 j h
      ·exact hI.Np (S:=fun q=>aU listed q=true) hkd p y j hy (hkd p y (hpre0 p hp1) hy) hb
     obtain ⟨st,μ,h1,h2⟩:=fin0 listed a w hex hall
     have hw:=hK st μ a w h1 h2
     refine (Gc (o::r) I.length (fuel+1) listed a w hsz hd hall hlast hc ?_ hw).2 _ hi
     intro j o' hj
     cases j with
     | zero =>
      simp only [List.getElem?_cons_zero,Option.some.injEq] at hj
      subst hj
      exact ⟨fun p hp'=>by have:=hp p hp'; omega,fun h=>by omega⟩
     | succ j =>
      simp only [List.getElem?_cons_succ] at hj
      have:=ht j o' hj
      exact ⟨fun p hp'=>by have:=this.2 p hp'; omega,fun _=>by rw [show I.length+(j+1) - 1=I.length+j by omega]; exact this.1⟩
theorem sU {_hint:List Nat} {id:Nat} {t:cY} (htab:rE P C T) (hf:P.follows .mixedOrders=true) (hI:DOk P C.n ops I) (htr:eU I none [] t) {st:St} (h0:dJ st.fr []) {Q:Exit->Act->World->Prop} {K:St->Prop} (hL:Jx P ro C ops I K Q)
  (h:aY C μ st a w) (hev:evD T t st.fr st.hp st.nx K):(Code.region id ops true).wpIn (WF ro) 0 P Q a w:=by
 refine wpIn_region_any hf ?_
 obtain ⟨fr,hp,nx⟩:=st
 have hkf:∀ j,aU (Array.replicate ops.size false) j=false:=by
  intro j
  unfold aU
  rw [Array.getD_eq_getD_getElem?,Array.getElem?_replicate]
  split <;> rfl
 refine Ia htab hI h0 hL ops.size _ _ _ (by simp) (by simp) (fun _ _=>hkf _) ⟨[],t,hp,nx,μ,?_⟩
 refine ⟨hev,htr,.nil,(fun _ h=>by cases h),(fun _ h=>by cases h),?_,(fun _ h=>by cases h),?_,(fun _ h=>by cases h),(fun _ h=>by cases h),?_⟩
 ·intro i hi; rw [hkf] at hi; cases hi
 ·intro i x hi; rw [hkf] at hi; cases hi
 ·exact h.below ((Below.refl _ _).drew)
theorem A3 (htab:rE P C T) {hint:List Nat} {id:Nat} {t:cY} (hd:wQ P C.n hint ops.toList=some t) {st:St} (h0:dJ st.fr []) {Q:Exit->Act->World->Prop} {K:St->Prop} (hK:∀ st μ a w,K st->aY C μ st a w->Q .normal a w)
  (h:aY C μ st a w) (hev:evD T t st.fr st.hp st.nx K):(Code.region id ops true).wpIn (WF ro) 0 P Q a w:=by
 obtain ⟨hf,I,hI,he,htr⟩:=Ki hd
 exact sU (_hint:=hint) htab hf hI htr h0 (.inl ⟨he,hK⟩) h hev
theorem yN (htab:rE P C T) {hint:List Nat} {id:Nat} {t:cY} {so:List bP} (hd:rJ P C.n hint ops.toList=some (t,so)) {st:St} (h0:dJ st.fr []) {Q:Exit->Act->World->Prop} {K0 K:St->Prop} (hK:∀ st μ a w,K st->aY C μ st a w->Q .normal a w)
  (hK0:∀ st μ a w,K0 st->aY C μ st a w->∃ st',dJ st'.fr []/\aY C μ st' a w/\oJ T so [] st' K)
  (h:aY C μ st a w) (hev:evD T t st.fr st.hp st.nx K0):(Code.region id ops true).wpIn (WF ro) 0 P Q a w:=by
 obtain ⟨k,hd⟩:=H4 hd
 obtain ⟨hf,I,o,r,hI,hdr,htr,hco,hp,hb,ht⟩:=H5 hd
 refine sU (_hint:=hint) htab hf hI htr h0 (.inr ⟨o,r,hdr,hp,hb,ht,?_⟩) h hev
 intro st μ a w h1 h2
 obtain ⟨st',h3,h4,h5⟩:=hK0 st μ a w h1 h2
 exact uH htab hK (o::r) so [] μ st' a w hco h3 h4 h5
end
end Go.Eng
end
