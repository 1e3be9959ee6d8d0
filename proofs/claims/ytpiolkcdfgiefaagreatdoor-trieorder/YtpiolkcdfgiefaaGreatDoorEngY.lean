/- A part of the proof. -/
import Derived.Test.YtpiolkcdfgiefaaGreatDoorEngJ
section
namespace Go.Eng
open Go Go.RowKit
structure fF where
 dst:Option Nat
 guard:Option (Nat×Bool)
 op:SOp
 hide:List Nat
 deriving Repr
abbrev zPt:CV:=.cons (.int .i64 0) (.cons (.int .i64 0) .nil)
abbrev zHn:CV:=.cons (.int .i64 0) (.cons (.str []) (.cons (.int .i64 0) (.cons (.int .i64 0) .nil)))
abbrev zEn:CV:=.cons (.str []) (.cons (.int .i64 0) (.cons (.str []) (.cons (.int .i64 0) (.cons (.int .i64 0) (.cons (.int .i64 0) (.cons (.int .i64 0) .nil))))))
abbrev zEv:CV:=.cons (.int .i64 0) (.cons (.int .i64 0) (.cons (.int .i64 0) (.cons (.int .i64 0) (.cons (.int .i64 0) (.cons (.str []) (.cons (.str []) (.cons (.str []) (.cons (.nilsl) (.cons (.nilsl) (.cons (.int .i64 0) (.cons (.str []) (.cons (.int .i64 0) (.cons (.int .i64 0) (.cons (.int .i64 0) (.cons (.int .i64 0) (.cons (.nilsl) (.cons (.nilsl) .nil)))))))))))))))))
abbrev zo (d:Nat) (o:SOp):fF:=⟨some d,none,o,[]⟩
abbrev zg (d g:Nat) (w:Bool) (o:SOp):fF:=⟨some d,some (g,w),o,[]⟩
abbrev mv (d x:Nat):fF:=zo d (.move (.s x))
abbrev mg (d g:Nat) (w:Bool) (x:Nat):fF:=zg d g w (.move (.s x))
abbrev ld (d x:Nat):fF:=zo d (.load 1 false (.s x))
abbrev lg (d g:Nat) (w:Bool) (x:Nat):fF:=zg d g w (.load 1 false (.s x))
abbrev fa (d k x:Nat):fF:=zo d (.fldA k (.s x))
abbrev fg (d g:Nat) (w:Bool) (k x:Nat):fF:=zg d g w (.fldA k (.s x))
abbrev cj (z:Int):SX:=.c (.int .i64 z)
abbrev cT:SX:=.c (.bool true)
abbrev cF:SX:=.c (.bool false)
def J1 (l:List Nat):Option Nat->Bool
 | none=>false
 | some d=>eE l d
def Lq (n:Nat):Option Nat->Bool
 | none=>true
 | some d=>Nat.blt d n
def Iv (ops:List Oper):Option (Nat×Bool)->Option (Option (Nat×Bool))
 | none=>some none
 | some (j,w)=>match ops[j]? with
  | some oj=>match oj.dst with
   | some d=>some (some (d,w))
   | none=>none
  | none=>none
def uL (P:Program) (n:Nat) (ops:List Oper) (o:Oper):Option fF :=
 match cOp P o.op,Iv ops o.guard with
 | some so,some g=>bif Lq n o.dst then some ⟨o.dst,g,so,[]⟩ else none
 | _,_=>none
def mX (P:Program) (n:Nat) (ops:List Oper):List Oper->Option (List fF)
 | []=>some []
 | o::r=>match uL P n ops o,mX P n ops r with
  | some x,some y=>some (x::y)
  | _,_=>none
def kG (fr:List (Nat×SV)):Nat->Nat->Bool->Prop
 | 0,_,_=>True
 | f+1,d,want=>match look fr d with
  | .bool b=>b=want
  | .gd d' w' (.bool b)=>b=want/\kG fr f d' w'
  | _=>True
theorem zf {P:Prop}:false=true->P:=fun h=>Bool.noConfusion h
theorem zh {P:Prop}:true=false->P:=fun h=>Bool.noConfusion h
theorem zt {b:Bool} {P:Prop} (h:P):b=b->P:=fun _=>h
theorem gd {fr:List (Nat×SV)} {n d:Nat} {w:Bool} {X:Prop} (h:X):kG fr n d w->X:=fun _=>h
def Gk (T:Tb) (g:Option (Nat×Bool)) (st:St):SOp->Bool
 | .call f _=>match gx g st.fr f with
  | .yield _=>true
  | .fn k _=>match get? T.fs (bif Nat.blt k FM then k else k - FM) with
   | some (.m _)=>true
   | _=>false
  | _=>false
 | .buildSl _ _ _ _ _=>match get? T.fs OWN with
  | some .own=>true
  | _=>false
 | .load _ _ x=>match gx g st.fr x with
  | .fown _ _ _=>true
  | .foel _ _ _ _ _=>true
  | _=>false
 | o=>Tx o
def evO (T:Tb) (st:St) (o:SOp) (k:SV->St->Prop):Prop :=
 bif Gk T none st o then evE T none st (fun s st'=>stF st' fun st'=>k s st') o else
  match evP T.fs none st o with
  | .fail=>False
  | .ok v=>k v st
  | .side p v=>p/\k v st
def oH (fr:List (Nat×SV)):Nat->Nat->Bool->Prop->Prop->Prop
 | 0,_,_,_,_=>False
 | f+1,d,want,Y,N=>match look fr d with
  | .bool b=>(b=want->Y)/\(b=!want->N)
  | .gd d' w' (.bool b)=>oH fr f d' w' ((b=want->Y)/\(b=!want->N)) N
  | .gd d' w' .junk=>oH fr f d' w' False N
  | .tup _=>N
  | _=>False
def E8 (d:Option Nat) (lab:List Nat) (s:SV) (st:St) (k:St->Prop):Prop :=
 match d with
 | none=>k st
 | some d=>bif eE lab d then False else
  eC s fun s=>match s with
  | .gd _ _ _=>False
  | s=>match st with
   | ⟨fr,hp,nx⟩=>iP nx fun nx=>k ⟨(d,s)::fr,hp,nx⟩
def uG (T:Tb):List fF->List Nat->St->(St->Prop)->Prop
 | [],_,st,k=>k st
 | o::r,lab,st,k =>
  match o.guard with
  | none=>evO T st o.op fun s st'=>E8 o.dst lab s st' fun st''=>uG T r lab st'' k
  | some (d0,w) =>
   bif Gk T (some (d0,w)) st o.op then
    bif J1 (d0::lab) o.dst then False else
    oH st.fr 10 d0 w (evE T (some (d0,w)) st (fun s st'=>stF st' fun st'=>E8 o.dst (d0::lab) s st' fun st''=>uG T r (d0::lab) st'' k) o.op)
     (E8 o.dst (d0::lab) (.tup .nil) st fun st''=>uG T r (d0::lab) st'' k)
   else
   match o.dst with
   | none=>False
   | some d=>bif eE (d0::lab) d then False else
    match evP T.fs (some (d0,w)) st o.op with
    | .fail=>(kG st.fr 10 d0 w->False)/\stP st fun fr hp nx=>uG T r (d0::lab) ⟨(d,.gd d0 w .junk)::fr,hp,nx⟩ k
    | .ok v=>eC v fun v=>stP st fun fr hp nx=>uG T r (d0::lab) ⟨(d,.gd d0 w v)::fr,hp,nx⟩ k
    | .side p v=>(kG st.fr 10 d0 w->p)/\eC v fun v=>stP st fun fr hp nx=>uG T r (d0::lab) ⟨(d,.gd d0 w v)::fr,hp,nx⟩ k
def qJ (fr:List (Nat×SV)):List Nat->(List (Nat×SV)->Prop)->Prop
 | [],k=>k []
 | n::r,k=>eC (look fr n) fun s=>match s with
  | .gd _ _ _=>qJ fr r k
  | .junk=>qJ fr r k
  | s=>qJ fr r fun l=>k ((n,s)::l)
section
variable {P:Program} {C:Ctx} {ro:Option Nat}
theorem wK {E:Env} {t:Array Value} {fr:List (Nat×SV)} (hf:∀ s,gN E t (look fr s) (t.getD s undef)):∀ (n d:Nat) (want:Bool) (Y N:Prop),oH fr n d want Y N ->
  (t.getD d undef=.bool want/\Y)\/(t.getD d undef≠.bool want/\N):=by
 intro n;induction n with
 | zero=>intro d want Y N h; exact h.elim
 | succ n ih =>
  intro d want Y N h;have hs:=hf d;simp only [oH] at h;have two:∀ (b:Bool) {Y N:Prop},t.getD d undef=.bool b->((b=want->Y)/\(b=!want->N))->(t.getD d undef=.bool want/\Y)\/(t.getD d undef≠.bool want/\N):=by
   intro b Y N hb hyn;rw [hb];by_cases e:b=want
   ·exact .inl ⟨by rw [e],hyn.1 e⟩
   ·refine .inr ⟨fun e'=>e (by injection e'),hyn.2 ?_⟩;cases b <;> cases want <;> simp_all
  split at h
  ·rename_i b hb;rw [hb] at hs;simp only [gN,R] at hs;exact two b (aC.1 hs) h
  ·rename_i d' w' b hb;rw [hb] at hs;obtain ⟨h1,h2⟩:=hs;rcases ih _ _ _ _ h with ⟨e,hy⟩|⟨e,hn⟩
   ·have:=h1 e;simp only [R] at this;exact two b (aC.1 this) hy
   ·refine .inr ⟨?_,hn⟩;rw [h2 e];intro e'; cases e'
  ·rename_i d' w' hb;rw [hb] at hs;obtain ⟨h1,h2⟩:=hs;rcases ih _ _ _ _ h with ⟨e,hy⟩|⟨e,hn⟩
   ·exact hy.elim
   ·refine .inr ⟨?_,hn⟩;rw [h2 e];intro e'; cases e'
  ·rename_i l hl;rw [hl] at hs;simp only [gN,R] at hs;obtain ⟨cs,hv,_⟩:=hs;refine .inr ⟨?_,h⟩;rw [aC.1 hv];intro e; cases e
  ·exact h.elim
def iU (fr:List (Nat×SV)) (lab:List Nat):Prop:=∀ s d w x,look fr s=.gd d w x->eE lab d=true
theorem Ns {T:Tb} (htab:xI P C T) {μ:Nat->Option (Nat×Nat)} {st:St} {a:Act} {w:World} (h:dR C μ st a w) {o:Oper} {so:SOp} (hc:cOp P o.op=some so) {K:SV->St->Prop}
  (he:evO T st so K):Acts P C μ st.hp w st.fr K ((execOp a.eval o).run P w):=by
 have hg:GOk none a.tmps:=fun _ _ e=>by cases e
 unfold evO at he;cases hb:Gk T none st so with
 | true =>
  simp only [hb,cond_true,Fc] at he;exact tT htab h hg hc he
 | false =>
  simp only [hb,cond_false] at he;have he':(evP T.fs none st so).holds (fun v=>K v st):=by
   cases hp:evP T.fs none st so <;> rw [hp] at he <;> exact he
  obtain ⟨s,hq,hd⟩:=tU htab.fs (htab.g.at h.hep.frm) h hg hc he';refine hd.mono ?_;rintro v w' ⟨hb,hr⟩;exact ⟨s,st,μ,hq,rfl,kT hb,h.hep.below hb,hr⟩
theorem dR.Fe {μ μ':Nat->Option (Nat×Nat)} {st st':St} {a:Act} {w w':World} (h:dR C μ st a w) (hfr:st'.fr=st.fr) (hE:(aN C μ st.hp w).Le (aN C μ' st'.hp w')) (hh:bO C μ' st'.hp st'.nx w'):dR C μ' st' a w':=by
 have:=h.step hE hh;cases st';simp only at hfr;subst hfr;exact this
theorem qO (t:Array Value) (d:Nat) (v:Value) (h:d < t.size):(t.setIfInBounds d v).getD d undef=v:=by
 simp [Array.getD_eq_getD_getElem?,h]
theorem fO (t:Array Value) (d s:Nat) (v:Value) (h:s≠d):(t.setIfInBounds d v).getD s undef=t.getD s undef:=by
 simp [Array.getD_eq_getD_getElem?,Array.getElem?_setIfInBounds_ne (Ne.symm h)]
theorem jM (d:Nat) (s:SV) (fr:List (Nat×SV)) (n:Nat):look ((d,s)::fr) n=if d=n then s else look fr n:=by
 unfold look;rw [get?_cons];split <;> rfl
theorem B1 {E:Env} {t:Array Value} {d:Nat} {v:Value} {s:SV} {x:Value} {lab:List Nat} (hl:eE lab d=false) (hs:∀ d' w y,s=.gd d' w y->eE lab d'=true) (h:gN E t s x) :
  gN E (t.setIfInBounds d v) s x:=by
 cases s with
 | gd d' w y =>
  have:d'≠d:=by
   rintro rfl;have:=hs _ _ _ rfl;rw [hl] at this;cases this
  simp only [gN] at *
  rw [fO _ _ _ _ this];exact h
 | _=>exact h
theorem dR.set {μ:Nat->Option (Nat×Nat)} {st:St} {a:Act} {w:World} (h:dR C μ st a w) {lab:List Nat} (hlab:iU st.fr lab) {d:Nat} (hd:d < C.n) (hm:eE lab d=false) {s:SV} {v:Value}
  (hs:gN (aN C μ st.hp w) (a.tmps.setIfInBounds d v) s v):dR C μ { st with fr:=(d,s)::st.fr } (a.put (some d) v) w where
 size:=by simp [Act.put,h.size]
 defers:=h.defers
 fr:=by
  intro n;simp only [Act.put];rw [jM];by_cases hn:d=n
  ·subst hn;rw [if_pos rfl,qO _ _ _ (by rw [h.size]; exact hd)];exact hs
  ·rw [if_neg hn,fO _ _ _ _ (dY hn)];exact B1 hm (fun d' w y e=>hlab n d' w y e) (h.fr n)
 hep:=h.hep
 le:=h.le
 kd:=h.kd
theorem rJ {E:Env} {t:Array Value} {s:SV} {v:Value} (h:R E s [v]) (hn:∀ d w x,s≠.gd d w x):gN E t s v:=by
 cases s <;> first
  | exact h
  | exact absurd rfl (hn _ _ _)
theorem iU.cons {fr:List (Nat×SV)} {lab:List Nat} (h:iU fr lab) {d:Nat} {s:SV} (hs:∀ d' w x,s=.gd d' w x->eE lab d'=true):iU ((d,s)::fr) lab:=by
 intro n d' w x e;rw [jM] at e;split at e
 ·exact hs d' w x e
 ·exact h n d' w x e
theorem gV {ops:Array Oper} {o:Oper} {t:Array Value} {g:Option (Nat×Bool)} (h:Iv ops.toList o.guard=some g) :
  Region.wanted o (yielded ops t)=true ↔ GOk g t:=by
 unfold Iv at h;split at h
 ·rename_i hg;cases h;simp only [Region.wanted,hg];exact ⟨(fun _ _ _ e=>by cases e),fun _=>trivial⟩
 ·rename_i j w hg;split at h
  ·rename_i oj hj;split at h
   ·rename_i d hd;cases h;have hj':ops[j]?=some oj:=by simpa using hj
    simp only [Region.wanted,hg,yielded,hj',eQ,hd];constructor
    ·intro hh d' w' e;cases e;rw [bN];cases ht:t[d]? with
     | none=>simp [ht] at hh
     | some x=>cases x <;> simp [ht] at hh ⊢; exact hh
    ·intro hh;have:=hh d w rfl;rw [bN] at this;cases ht:t[d]? with
     | none=>simp [ht,undef] at this
     | some x=>simp [ht] at this; subst this; simp
   ·cases h
  ·cases h
theorem rO {E:Env} {a:Act} {fr:List (Nat×SV)} (hf:∀ s,gN E a.tmps (look fr s) (a.tmps.getD s undef)):∀ (f d:Nat) (w:Bool),a.tmps.getD d undef=.bool w->kG fr f d w:=by
 intro f;induction f with
 | zero=>intro d w _; trivial
 | succ f ih =>
  intro d w hd;have h:=hf d;simp only [kG];split
  ·rename_i b hb;rw [hb,hd] at h;have:R E (.bool b) [.bool w]:=h;simp only [R] at this;have:=aC.1 this;cases this;rfl
  ·rename_i d' w' b hb;rw [hb,hd] at h;obtain ⟨h1,h2⟩:=h;by_cases hc:a.tmps.getD d' undef=.bool w'
   ·have:=h1 hc;simp only [R] at this;have:=aC.1 this;cases this;exact ⟨rfl,ih d' w' hc⟩
   ·have:=h2 hc;cases this
  ·trivial
theorem Ai {T:Tb} (htab:xI P C T) {ops:Array Oper} {Q:Exit->Act->World->Prop} {K:St->Prop}
  (hK:∀ st μ a w,K st->dR C μ st a w->Q .normal a w) :
  ∀ (l:List Oper) (sl:List fF) (lab:List Nat) (μ:Nat->Option (Nat×Nat)) (st:St) (a:Act) (w:World),mX P C.n ops.toList l=some sl->iU st.fr lab->dR C μ st a w->uG T sl lab st K ->
   wpListIn (WF ro) 0 P ops Q l a w:=by
 intro l;induction l with
 | nil =>
  intro sl lab μ st a w hc hlab h he;simp only [mX,aJ] at hc;subst hc;exact wpListIn_nil (hK _ _ _ _ he h)
 | cons o r ih =>
  intro sl lab μ st a w hc hlab h he;simp only [mX] at hc;split at hc
  ·rename_i so sr h1 h2;cases hc;unfold uL at h1;split at h1
   ·rename_i sop g h3 h4;cases hdst:Lq C.n o.dst with
    | false=>simp [hdst] at h1
    | true =>
     simp only [hdst,cond_true,aJ] at h1;subst h1;have hnd:∀ c,o.op≠.defer c:=by
      rintro c e;rw [e] at h3;simp [cOp] at h3
     have hdn:∀ d,o.dst=some d->d < C.n:=by
      intro d e;rw [e] at hdst;have h1:Nat.ble (d+1) C.n=true:=hdst;exact aM h1
     simp only [uG] at he;cases g with
     | none =>
      simp only at he;have hw:Region.wanted o (yielded ops a.tmps)=true:=(gV h4).2 (fun _ _ e=>by cases e);simp only [wpListIn,hw,if_true];refine kX hnd ?_;refine (Ns htab h h3 he).mono ?_;rintro v w' ⟨s,st',μ',hk,hfr,hE,hh,hR⟩;have hrep:=h.Fe hfr hE hh;obtain ⟨fr1,hp1,nx1⟩:=st';unfold E8 at hk;split at hk
      ·rename_i hdn';rw [hdn'];exact ih sr lab μ' ⟨fr1,hp1,nx1⟩ a w' h2 (by rw [hfr]; exact hlab) hrep hk
      ·rename_i d hd';cases hm:eE lab d with
       | true=>simp [hm] at hk
       | false =>
        simp only [hm,cond_false,gA,kF] at hk;split at hk
        ·exact hk.elim
        ·rename_i hnw;rw [hd'];have hlab':iU fr1 lab:=by rw [show fr1=st.fr from hfr]; exact hlab
         exact ih sr lab μ' ⟨(d,_)::fr1,hp1,nx1⟩ _ w' h2 (hlab'.cons (fun d' w x e=>absurd e (hnw d' w x))) (hrep.set hlab' (hdn d hd') hm (rJ hR hnw)) hk
     | some gw =>
      obtain ⟨d0,gwant⟩:=gw;simp only at he;cases hie:Gk T (some (d0,gwant)) st sop with
      | true =>
       simp only [hie,cond_true,Fc] at he;cases hmo:J1 (d0::lab) o.dst with
       | true=>simp [hmo] at he
       | false =>
       simp only [hmo,cond_false] at he;have hlab0:iU st.fr (d0::lab):=by
        intro s d' w x e;have:=hlab s d' w x e;simp only [eE];cases Nat.beq d0 d' <;> simp [this]
       -- the slot is set
       have cont:∀ (st':St) (μ':Nat->Option (Nat×Nat)) (v:Value) (w':World) (s:SV),st'.fr=st.fr->dR C μ' st' a w'->R (aN C μ' st'.hp w') s [v]->E8 o.dst (d0::lab) s st' (fun st''=>uG T sr (d0::lab) st'' K)->wpListIn (WF ro) 0 P ops Q r (a.put o.dst v) w':=by
        intro st' μ' v w' s hfr hrep hR hk;obtain ⟨fr1,hp1,nx1⟩:=st';unfold E8 at hk;split at hk
        ·rename_i hdn';rw [hdn'];exact ih sr (d0::lab) μ' ⟨fr1,hp1,nx1⟩ a w' h2 (by rw [hfr]; exact hlab0) hrep hk
        ·rename_i d hd';cases hm:eE (d0::lab) d with
         | true=>simp [hm] at hk
         | false =>
          simp only [hm,cond_false,gA,kF] at hk;split at hk
          ·exact hk.elim
          ·rename_i hnw;rw [hd'];have hlab':iU fr1 (d0::lab):=by rw [show fr1=st.fr from hfr]; exact hlab0
           exact ih sr (d0::lab) μ' ⟨(d,_)::fr1,hp1,nx1⟩ _ w' h2 (hlab'.cons (fun d' w x e=>absurd e (hnw d' w x))) (hrep.set hlab' (hdn d hd') hm (rJ hR hnw)) hk
       rcases wK h.fr 10 d0 gwant _ _ he with ⟨hgd,hy⟩|⟨hgd,hn⟩
       ·have hg:GOk (some (d0,gwant)) a.tmps:=by intro d w e; cases e; exact hgd
        have hw:Region.wanted o (yielded ops a.tmps)=true:=(gV h4).2 hg;simp only [wpListIn,hw,if_true];refine kX hnd ?_;refine (tT htab h hg h3 hy).mono ?_;rintro v w' ⟨s,st',μ',hk,hfr,hE,hh,hR⟩;exact cont st' μ' v w' s hfr (h.Fe hfr hE hh) hR hk
       ·have hw:¬ Region.wanted o (yielded ops a.tmps)=true:=by
         intro e;exact hgd ((gV h4).1 e d0 gwant rfl)
        simp only [wpListIn,hw];exact ⟨fun f _=>yS ro f,cont st μ undef w (.tup .nil) rfl h ⟨[],rfl,rfl⟩ hn⟩
      | false =>
      simp only [hie,cond_false,gA,Zo] at he;split at he
      ·exact he.elim
      ·rename_i d hd';cases hm:eE (d0::lab) d with
       | true=>simp [hm] at he
       | false =>
        simp only [hm,cond_false] at he;have hlab0:iU st.fr (d0::lab):=by
         intro s d' w x e;have:=hlab s d' w x e;simp only [eE];cases Nat.beq d0 d' <;> simp [this]
        have hd0:eE (d0::lab) d0=true:=by simp [eE,Nat.beq_refl]
        have hne:d0≠d:=by rintro rfl; rw [hd0] at hm; cases hm
        -- both ways
        have key:∀ v,uG T sr (d0::lab) { fr:=(d,.gd d0 gwant v)::st.fr,hp:=st.hp,nx:=st.nx } K->(evP T.fs (some (d0,gwant)) st sop=.ok v\/∃ p,(kG st.fr 10 d0 gwant->p)/\evP T.fs (some (d0,gwant)) st sop=.side p v) ->
          wpListIn (WF ro) 0 P ops Q (o::r) a w:=by
         intro v hrest hev;have hlab1:iU ((d,.gd d0 gwant v)::st.fr) (d0::lab):=hlab0.cons (fun d' w x e=>by cases e; exact hd0);by_cases hw:Region.wanted o (yielded ops a.tmps)=true
         ·have hg:=(gV h4).1 hw;have hgd:a.tmps.getD d0 undef=.bool gwant:=hg d0 gwant rfl;have he':(evP T.fs (some (d0,gwant)) st sop).holds (fun x=>x=v):=by
           rcases hev with e|⟨p,hp,e⟩
           ·rw [e]; rfl
           ·rw [e]; exact ⟨hp (rO h.fr 10 d0 gwant hgd),rfl⟩
          simp only [wpListIn,hw,if_true];refine kX hnd ?_;obtain ⟨s,rfl,hdo⟩:=tU htab.fs (htab.g.at h.hep.frm) h hg h3 he';refine hdo.mono ?_;rintro u w' ⟨hb,hr⟩;rw [hd'];refine ih sr (d0::lab) μ _ _ w' h2 hlab1 ((h.below hb).set hlab0 (hdn d hd') hm ?_) hrest;simp only [gN];rw [fO _ _ _ _ hne,hgd];exact ⟨fun _=>hr,fun e=>absurd rfl e⟩
         ·have hg:¬ a.tmps.getD d0 undef=.bool gwant:=by
           intro e;exact hw ((gV h4).2 (fun d' w' e'=>by cases e'; exact e))
          simp only [wpListIn,hw];refine ⟨fun f _=>yS ro f,?_⟩;rw [hd'];refine ih sr (d0::lab) μ _ _ w h2 hlab1 (h.set hlab0 (hdn d hd') hm ?_) hrest;simp only [gN];rw [fO _ _ _ _ hne];exact ⟨fun e=>absurd e hg,fun _=>trivial⟩
        split at he
        ·obtain ⟨hnp,hrest⟩:=he;have hlab1:iU ((d,.gd d0 gwant .junk)::st.fr) (d0::lab):=hlab0.cons (fun d' w x e=>by cases e; exact hd0);by_cases hw:Region.wanted o (yielded ops a.tmps)=true
         ·exact (hnp (rO h.fr 10 d0 gwant ((gV h4).1 hw d0 gwant rfl))).elim
         ·have hg:¬ a.tmps.getD d0 undef=.bool gwant:=by
           intro e;exact hw ((gV h4).2 (fun d' w' e'=>by cases e'; exact e))
          simp only [wpListIn,hw];refine ⟨fun f _=>yS ro f,?_⟩;rw [hd'];refine ih sr (d0::lab) μ _ _ w h2 hlab1 (h.set hlab0 (hdn d hd') hm ?_) hrest;simp only [gN];rw [fO _ _ _ _ hne];exact ⟨fun e=>absurd e hg,fun _=>trivial⟩
        ·rename_i v hv;exact key v he (.inl hv)
        ·rename_i p v hv;exact key v he.2 (.inr ⟨p,he.1,hv⟩)
   ·cases h1
  ·cases hc
theorem qK {μ:Nat->Option (Nat×Nat)} {a:Act} {w:World} {hp:List (Nat×aT)} {nx:Nat} {fr:List (Nat×SV)} (h:dR C μ ⟨fr,hp,nx⟩ a w) :
  ∀ (l:List Nat) (K:List (Nat×SV)->Prop),qJ fr l K->∃ fr',K fr'/\iU fr' []/\dR C μ ⟨fr',hp,nx⟩ a w:=by
 intro l;induction l with
 | nil =>
  intro K hk;exact ⟨[],hk,fun s d w x e=>by simp [look,get?] at e,h.frame (st:=⟨fr,hp,nx⟩) (fun s=>nQ _ _ _)⟩
 | cons n r ih =>
  intro K hk;simp only [qJ,gA] at hk;split at hk
  ·exact ih K hk
  ·exact ih K hk
  ·rename_i s hnw hnj;obtain ⟨fr',h1,h2,h3⟩:=ih _ hk;refine ⟨_,h1,h2.cons (fun d' w x e=>absurd e (hnw d' w x)),?_⟩;refine h3.frame (st:=⟨fr',hp,nx⟩) (fun m=>?_);rw [jM];split
   ·rename_i e; subst e; exact h.fr n
   ·exact h3.fr m
end
end Go.Eng
end
section
namespace Go.Eng
open Go Go.RowKit
section
variable {C:Ctx}
theorem Bh {k:Keep} {hp:List (Nat×aT)} {fr:List (Nat×SV)}:∀ {fr':List (Nat×SV)},C7 k hp fr fr'->∀ s,(look fr' s=.junk)\/(sub k hp 200 (look fr s) (look fr' s)/\∀ d w x,look fr' s≠.gd d w x):=by
 intro fr';induction fr' with
 | nil=>intro _ s; exact .inl rfl
 | cons p r ih =>
  obtain ⟨s0,v⟩:=p;intro hs s;rw [jM];cases v with
  | gd d w x=>simp only [C7] at hs; exact hs.1.elim
  | _ =>
   simp only [C7] at hs;split
   ·rename_i e;subst e;exact .inr ⟨hs.1,by simp⟩
   ·exact ih hs.2 s
theorem R2 (hpin:sC C) {nx':Nat} {prs:List (Nat×Nat)} (hk:jT nx' prs=true) (hp:∀ i,i∈C.np->(i,i)∈prs) {μ μ':Nat->Option (Nat×Nat)} (h:∀ id p,C.pin id=some p->μ id=some p)
  (k2:∀ id id' p,get? prs id=some id'->μ id=some p->μ' id'=some p) (k3:∀ c d i p,get? prs c=some d->μ (fid c i)=some p->μ' (fid d i)=some p) (k9:∀ n,n < C.bnd->n < FB->μ' n=μ n):∀ id p,C.pin id=some p->μ' id=some p:=by
 intro id p e;rcases hpin id p e with hb|⟨hb,hb2⟩;rotate_left
 ·rw [k9 id hb hb2]; exact h _ _ e
 have hg:=get?_of_mem hk (hp _ hb);by_cases hlt:id < FB
 ·simp only [fbase,hlt,if_true] at hg;exact k2 _ _ _ hg (h _ _ e)
 ·simp only [fbase,hlt,if_false] at hg;have he:=nJ (bJ.1 hlt);have:=k3 _ _ (id / FB - 1) p hg (by rw [he]; exact h _ _ e);rw [he] at this;exact this
theorem oE (hpin:sC C) {μ:Nat->Option (Nat×Nat)} {st st':St} {a:Act} {w:World} (h:dR C μ st a w) (hlab:iU st.fr []) (hs:mM C.np C.bnd st st'):(∃ μ',dR C μ' st' a w)/\iU st'.fr []:=by
 unfold mM at hs;rw [Ow] at hs;cases hk:jT st'.nx (rX C.np C.bnd st st') with
 | false=>simp [hk] at hs
 | true =>
  cases hfm:uO st.hp st'.hp (rX C.np C.bnd st st') with
  | false=>simp [hk,hfm] at hs
  | true =>
  cases hpi:vO (rX C.np C.bnd st st') C.np with
  | false=>simp [hk,hfm,hpi] at hs
  | true =>
  cases hlo:Cn C.bnd (rX C.np C.bnd st st') with
  | false=>simp [hk,hfm,hpi,hlo] at hs
  | true =>
  cases hbn:Nat.ble C.bnd st'.nx with
  | false=>simp [hk,hfm,hpi,hlo,hbn] at hs
  | true =>
  simp only [hk,hfm,hpi,hlo,hbn,cond_true] at hs;generalize rX C.np C.bnd st st'=prs at hs hk hfm hpi hlo;obtain ⟨hfr,hhp⟩:=hs;obtain ⟨μ',k1,k2,k3,k4,k5,k6,k7,k8,k9⟩:=Ff C.bnd h.hep hk hfm hhp (Ol hlo) (aM hbn);have hF:(aN C μ st.hp w).Freed (.keep prs) st.hp (aN C μ' st'.hp w):=by
   refine ⟨fun _=>⟨?_,fun _ _=>rfl⟩,k2,k3,rfl,?_⟩
   ·intro b hb;refine ⟨hb.1,hb.2.1,?_,hb.2.2.2⟩;intro i o' c' hg hm;obtain ⟨m,o,_,ho,e,_⟩:=k1 i o' hg;rw [e] at hm;exact hb.2.2.1 m o c' ho hm
   ·intro id o b c hn hg hm hkp;have hm':μ id=some (b,c):=hm;refine ⟨h.hep.lt hg hm',?_,?_,h.hep.obj.plain hg hm' hn⟩
    ·rcases h.hep.mine id o b c hg hm' with hh|hh
     ·exact .inr (.inl hh)
     ·exact .inr (.inr hh)
    ·intro i o' c2 hg' hm2;obtain ⟨m,oi,hp1,ho,e,_⟩:=k1 i o' hg';rw [e] at hm2;have:=h.hep.inj _ _ _ _ _ _ _ hg ho hm' hm2;subst this;exact k8 _ _ _ hg hkp hp1
  have hsub:∀ s t vs,sub (.keep prs) st.hp 200 s t->R (aN C μ st.hp w) s vs->R (aN C μ' st'.hp w) t vs:=fun s t vs=>mJ hF h.hep.obj 200 s t vs;refine ⟨⟨μ',h.size,h.defers,?_,?_,h.le.trans (hF.le rfl),h.kd⟩,?_⟩
  ·intro s;rcases Bh hfr s with e|⟨e,hnw⟩
   ·rw [e]; exact nQ _ _ _
   ·have hold:=h.fr s;have hR:R (aN C μ st.hp w) (look st.fr s) [a.tmps.getD s undef]:=by
     cases hl:look st.fr s with
     | gd d w' x=>have:=hlab s d w' x hl; simp [eE] at this
     | _=>rw [hl] at hold; exact hold
    exact rJ (hsub _ _ _ e hR) hnw
  ·refine ⟨⟨fun id o hg=>(k6 id o hg).2,?_⟩,?_,?_,fun id o hg=>(k6 id o hg).1,k4,k5,R2 hpin hk (Bb hpi) h.hep.pin k2 k3 k9,h.hep.frm,sub_pos h.hep hk k1⟩
   ·intro i o' hg;obtain ⟨m,o,_,ho,e,hso⟩:=k1 i o' hg;obtain ⟨b,cp,x,e1,e2,e3⟩:=h.hep.obj.obj m o ho;refine ⟨b,cp,x,e.trans e1,e2,yL hF.le hsub (fun _ _ _ _ e=>e) hso e3⟩
   ·intro i i' o1 o2 b c1 c2 g1 g2 m1 m2;obtain ⟨d1,p1,q1,ho1,e1,_⟩:=k1 i o1 g1;obtain ⟨d2,p2,q2,ho2,e2,_⟩:=k1 i' o2 g2;rw [e1] at m1;rw [e2] at m2;have:=h.hep.inj _ _ _ _ _ _ _ ho1 ho2 m1 m2;subst this;exact k7 _ _ _ q1 q2
   ·intro i o' b c hg hm;obtain ⟨d,o,_,ho,e,_⟩:=k1 i o' hg;rw [e] at hm;exact h.hep.mine _ _ _ _ ho hm
  ·intro s d w' x e;rcases Bh hfr s with e'|⟨_,hnw⟩
   ·rw [e'] at e; cases e
   ·exact absurd e (hnw d w' x)
end
end Go.Eng
end
section
namespace Go.Eng
open Go Go.RowKit
def xS:SX->List Nat
 | .s n=>[n]
 | .c _=>[]
def xsS:List SX->List Nat
 | []=>[]
 | x::r=>xS x++xsS r
def oxS:Option SX->List Nat
 | none=>[]
 | some x=>xS x
def yD:List (Nat×Nat×SX)->List Nat
 | []=>[]
 | (_,_,x)::r=>xS x++yD r
def vR:SOp->List Nat
 | .move x=>xS x
 | .pick c a b=>xS c++xS a++xS b
 | .load _ _ x=>xS x
 | .fldA _ x=>xS x
 | .idxArr _ _ x i=>xS x++xS i
 | .idxSl _ x i=>xS x++xS i
 | .idxStr x i=>xS x++xS i
 | .idxVal _ _ _ x i=>xS x++xS i
 | .field _ _ _ x=>xS x
 | .nilCheck x=>xS x
 | .lenStr x=>xS x
 | .lenSl x=>xS x
 | .bin _ x y=>xS x++xS y
 | .ptrEq _ x y=>xS x++xS y
 | .eqB _ x y=>xS x++xS y
 | .not x=>xS x
 | .neg x=>xS x
 | .cnv _ x=>xS x
 | .convS x=>xS x
 | .runeS x=>xS x
 | .cpyS x y=>xS x++xS y
 | .mm _ x y=>xS x++xS y
 | .mm3 x y z=>xS x++xS y++xS z
 | .extract _ x=>xS x
 | .mkfn _ caps=>xsS caps
 | .build _ ps=>yD ps
 | .buildSl _ _ _ _ ps=>yD ps
 | .sliceSl _ x lo hi=>xS x++oxS lo++oxS hi
 | .sliceStr x lo hi=>xS x++oxS lo++oxS hi
 | .call f args=>xS f++xsS args
 | .alloc _ _=>[]
 | .clr _ x=>xS x
 | .arrSl _ _ _ x=>xS x
 | .arrCut _ x h=>xS x++xS h
 | .bad=>[]
 | .slNil _ x y=>xS x++xS y
 | .box _ x=>xS x
 | .store _ x v=>xS x++xS v
 | .mapEq _ x y=>xS x++xS y
 | .eqS _ _ x y=>xS x++xS y
 | .app _ _ _ x y=>xS x++xS y
 | .mkmap _=>[]
 | .mlook _ _ _ m k=>xS m++xS k
 | .mupd _ m k v=>xS m++xS k++xS v
 | .ment _ _ m k=>xS m++xS k
 | .mesto m t v=>xS m++xS t++xS v
 | .mdele _ m k=>xS m++xS k
 | .mlen m=>xS m
 | .mrange m=>xS m
 | .mnext it=>xS it
 | .mentry it=>xS it
def Agree (l:List Nat) (fr fr':List (Nat×SV)):Prop:=∀ t∈l,look fr t=look fr' t
section
variable {fr fr':List (Nat×SV)} {g:Option (Nat×Bool)}
theorem fG {x:SX} (h:Agree (xS x) fr fr'):gx g fr x=gx g fr' x:=by
 cases x with
 | s n=>simp only [gx]; rw [h n (by simp [xS])]
 | c v=>rfl
theorem xW:∀ {xs:List SX},Agree (xsS xs) fr fr'->gxs g fr xs=gxs g fr' xs:=by
 intro xs;induction xs with
 | nil=>intro _; rfl
 | cons x r ih =>
  intro h;simp only [gxs];rw [fG (fun t ht=>h t (by simp [xsS,ht])),ih (fun t ht=>h t (by simp [xsS,ht]))]
theorem Hf {x:Option SX} (h:Agree (oxS x) fr fr'):ox g fr x=ox g fr' x:=by
 cases x with
 | none=>rfl
 | some x=>simp only [ox]; rw [fG h]
theorem yZ:∀ {ps:List (Nat×Nat×SX)} {l:SV},Agree (yD ps) fr fr'->sF g fr ps l=sF g fr' ps l:=by
 intro ps;induction ps with
 | nil=>intro l _; rfl
 | cons p r ih =>
  obtain ⟨a,b,x⟩:=p;intro l h;simp only [sF];rw [fG (x:=x) (fun t ht=>h t (by simp [yD,ht]))];have:∀ l,sF g fr r l=sF g fr' r l:=fun l=>ih (fun t ht=>h t (by simp [yD,ht]));simp only [this]
theorem uS {c x:SX} {want:Bool} (h:Agree (xS x) fr fr'):qF g fr c want x=qF g fr' c want x:=by
 cases x with
 | s n=>simp only [qF]; rw [h n (by simp [xS])]
 | c v=>rfl
theorem Agree.l {a b:List Nat} (h:Agree (a++b) fr fr'):Agree a fr fr':=fun t ht=>h t (by simp [ht])
theorem Agree.r {a b:List Nat} (h:Agree (a++b) fr fr'):Agree b fr fr':=fun t ht=>h t (by simp [ht])
theorem xR {tab:List (Nat×iA)} {hp:List (Nat×aT)} {nx nx':Nat} {so:SOp} (h:Agree (vR so) fr fr'):evP tab g ⟨fr,hp,nx⟩ so=evP tab g ⟨fr',hp,nx'⟩ so:=by
 cases so <;> (try simp only [vR] at h) <;> (try simp only [evP]) <;> first
  | rfl
  | rw [fG h]
  | rw [fG h.l,fG h.r]
  | rw [fG h.l,xW h.r]
  | rw [fG h.l]
  | rw [xW h]
  | rw [yZ h]
  | rw [fG h.l.l,Hf h.l.r,Hf h.r]
  | rw [fG h.l.l,fG h.l.r,fG h.r]
  | (unfold Dx; rw [fG h.l.l,uS h.l.r,uS h.r])
theorem Cc {T:Tb} {hp:List (Nat×aT)} {nx:Nat} {so:SOp} {K:SV->List (Nat×aT)->Nat->Prop} (h:Agree (vR so) fr fr') (he:evE T g ⟨fr,hp,nx⟩ (fun s st=>K s st.hp st.nx) so) :
  evE T g ⟨fr',hp,nx⟩ (fun s st=>K s st.hp st.nx) so:=by
 cases so <;> (try simp only [vR] at h) <;> (try simp only [evE,zG] at he ⊢) <;> first
  | exact he
  | (rw [fG h] at he; exact he)
  | (rw [yZ h] at he; exact he)
  | (rw [fG h.l,fG h.r] at he; exact he)
  | (rw [fG h.l.l,fG h.l.r,fG h.r] at he; exact he)
  | (simp only [Lr] at he ⊢; rw [fG h.l,fG h.r] at he; exact he)
  | (rw [fG h.l,xW h.r] at he; simp only [zO] at he ⊢; exact he)
end
def lH (s:SV) (k:SV->Prop):Prop :=
 eC s fun s=>match s with
 | .gd _ _ _=>False
 | s=>k s
structure dK where
 o:fF
 pre:List Nat
 tp:Nat
 eff:Bool
inductive hZ where
 | done
 | none
 | pure (i:Nat) (o:fF) (rest:hZ)
 | eff (i:Nat) (o:fF) (stab:List fF) (sub alt:hZ)
 deriving Repr
def pV:SOp->Bool
 | .load ..=>true
 | .call ..=>true
 | _=>false
def tN (tab:List (Nat×iA)) (fr:List (Nat×SV)) (hp:List (Nat×aT)) (nx:Nat) (hp':List (Nat×aT)) (nx':Nat):List fF->Prop
 | []=>True
 | o::r=>evP tab o.guard ⟨fr,hp',nx'⟩ o.op=evP tab o.guard ⟨fr,hp,nx⟩ o.op/\tN tab fr hp nx hp' nx' r
def yJ (d:Option Nat) (s:SV) (fr:List (Nat×SV)) (k:List (Nat×SV)->Prop):Prop :=
 match d with
 | none=>k fr
 | some d=>lH s fun s=>k ((d,s)::fr)
def evD (T:Tb):hZ->List (Nat×SV)->List (Nat×aT)->Nat->(St->Prop)->Prop
 | .done,fr,hp,nx,k=>k ⟨fr,hp,nx⟩
 | .none,_,_,_,_=>True
 | .pure _ o rest,fr,hp,nx,k=>match o.dst with
  | none=>False
  | some d=>match o.guard with
   | none=>match evP T.fs none ⟨fr,hp,nx⟩ o.op with
    | .fail=>False
    | .ok v=>lH v fun v=>evD T rest ((d,v)::fr) hp nx k
    | .side p v=>p/\lH v fun v=>evD T rest ((d,v)::fr) hp nx k
   | some (d0,w)=>match evP T.fs (some (d0,w)) ⟨fr,hp,nx⟩ o.op with
    | .fail=>(kG fr 10 d0 w->False)/\evD T rest ((d,.gd d0 w .junk)::fr) hp nx k
    | .ok v=>eC v fun v=>evD T rest ((d,.gd d0 w v)::fr) hp nx k
    | .side p v=>(kG fr 10 d0 w->p)/\eC v fun v=>evD T rest ((d,.gd d0 w v)::fr) hp nx k
 | .eff _ o stab sub alt,fr,hp,nx,k =>
  (match o.guard with
   | none=>evE T none ⟨fr,hp,nx⟩ (fun s st'=>stK st' fun hp' nx'=>tN T.fs fr hp nx hp' nx' stab/\yJ o.dst s fr fun fr'=>evD T sub fr' hp' nx' k) o.op
   | some (d0,w)=>oH fr 10 d0 w (evE T (some (d0,w)) ⟨fr,hp,nx⟩ (fun s st'=>stK st' fun hp' nx'=>tN T.fs fr hp nx hp' nx' stab/\yJ o.dst s fr fun fr'=>evD T sub fr' hp' nx' k) o.op)
     (yJ o.dst (.tup .nil) fr fun fr'=>evD T sub fr' hp nx k)) /\
  evD T alt fr hp nx k
def sD (S:List Nat):List Nat->Bool
 | []=>true
 | p::r=>bif eE S p then sD S r else false
theorem oZ {S:List Nat}:∀ {l:List Nat},sD S l=true ↔ ∀ p∈l,p∈S:=by
 intro l;induction l with
 | nil=>simp [sD]
 | cons a r ih =>
  simp only [sD];cases h:eE S a with
  | true=>simp [ih,iD.1 h]
  | false =>
   simp only [cond_false,dU,aI,forall_eq_or_imp,false_iff,not_and];intro ha;rw [iD.2 ha] at h;cases h
def Cs (I:List dK) (S:List Nat):List dK->Nat->Option (Nat×dK)
 | [],_=>none
 | x::r,i=>bif !x.eff && !eE S i && sD S x.pre then some (i,x) else Cs I S r (i+1)
def uQ (S:List Nat):List dK->Nat->List (Nat×dK)
 | [],_=>[]
 | x::r,i=>bif x.eff && !eE S i && sD S x.pre then (i,x)::uQ S r (i+1) else uQ S r (i+1)
def C6 (I:List dK) (tp:Nat):List Nat->List fF
 | []=>[]
 | j::r=>match I[j]? with
  | some y=>bif !y.eff && pV y.o.op && !tp.testBit j then y.o::C6 I tp r else C6 I tp r
  | none=>C6 I tp r
def vG (f:List Nat->Option hZ) (I:List dK) (S:List Nat):List (Nat×dK)->Option hZ
 | []=>some .none
 | (e,x)::r=>match f (e::S) with
  | some sub=>match vG f I S r with
   | some alt=>some (.eff e x.o (C6 I x.tp S) sub alt)
   | none=>none
  | none=>none
def upL:Nat->List Nat
 | 0=>[]
 | n+1=>n::upL n
def xL (I:List dK):Nat->List Nat->Option hZ
 | 0,_=>none
 | f+1,S=>bif sD S (upL I.length) then some .done else
  match Cs I S I 0 with
  | some (i,x)=>match xL I f (i::S) with
   | some t=>some (.pure i x.o t)
   | none=>none
  | none=>vG (xL I f) I S (uQ S I 0)
def Closed (I:List dK) (S:List Nat):Prop:=∀ i x,I[i]?=some x->x.eff=false->(∀ p∈x.pre,p∈S)->i∈S
def lD (I:List dK):Option (List Nat)->List Nat->hZ->Prop
 | none,S,.done=>∀ i,i < I.length->i∈S
 | none,S,.pure i o rest=>(∃ x,I[i]?=some x/\x.o=o/\x.eff=false/\i ∉ S/\∀ p∈x.pre,p∈S)/\lD I none (i::S) rest
 | none,S,.eff e o st sub alt=>Closed I S/\(∃ i,i < I.length/\i ∉ S) /\
   (∃ x,I[e]?=some x/\x.o=o/\x.eff=true/\e ∉ S/\(∀ p∈x.pre,p∈S)/\∀ j∈S,∀ y,I[j]?=some y->y.eff=false->pV y.o.op=true->x.tp.testBit j=false->y.o∈st)/\lD I none (e::S) sub/\lD I (some [e]) S alt
 | none,S,.none=>Closed I S/\(∃ i,i < I.length/\i ∉ S)/\∀ e x,I[e]?=some x->x.eff=true->e ∉ S->(∀ p∈x.pre,p∈S)->False
 | some es,S,.eff e o st sub alt =>
   (∃ x,I[e]?=some x/\x.o=o/\x.eff=true/\e ∉ S/\(∀ p∈x.pre,p∈S)/\∀ j∈S,∀ y,I[j]?=some y->y.eff=false->pV y.o.op=true->x.tp.testBit j=false->y.o∈st)/\lD I none (e::S) sub/\lD I (some (e::es)) S alt
 | some es,S,.none=>∀ e x,I[e]?=some x->x.eff=true->e ∉ S->(∀ p∈x.pre,p∈S)->e∈es
 | some _,_,_=>False
theorem Pb {I:List dK} {tp:Nat}:∀ {S:List Nat} {j:Nat} {y:dK},j∈S->I[j]?=some y->y.eff=false->pV y.o.op=true->tp.testBit j=false->y.o∈C6 I tp S:=by
 intro S;induction S with
 | nil=>intro j y h; cases h
 | cons a r ih =>
  intro j y h h1 h2 h3 h4;simp only [C6];rcases aI.1 h with rfl|h
  ·rw [h1];simp [h2,h3,h4]
  ·have:=ih h h1 h2 h3 h4;split
   ·rename_i z hz;cases (!z.eff && pV z.o.op && !tp.testBit a) with
    | true=>simp only [cond_true]; exact aK _ this
    | false=>exact this
   ·exact this
theorem J6 {I:List dK} {U:List Nat}:∀ {l:List dK} {k i:Nat} {x:dK},Cs I U l k=some (i,x)->∃ j,i=k+j/\l[j]?=some x/\x.eff=false/\i ∉ U/\∀ p∈x.pre,p∈U:=by
 intro l;induction l with
 | nil=>intro k i x h; cases h
 | cons a r ih =>
  intro k i x h;simp only [Cs] at h;cases hb:(!a.eff && !eE U k && sD U a.pre) with
  | true =>
   simp only [hb,cond_true,aJ,cD] at h;obtain ⟨rfl,rfl⟩:=h;simp only [aO,bV] at hb;refine ⟨0,rfl,rfl,hb.1.1,?_,oZ.1 hb.2⟩;intro hm;rw [iD.2 hm] at hb;exact absurd hb.1.2 (by simp)
  | false =>
   simp only [hb,cond_false] at h;obtain ⟨j,e,h1,h2⟩:=ih h;exact ⟨j+1,by omega,h1,h2⟩
theorem J5 {I:List dK} {U:List Nat}:∀ {l:List dK} {k:Nat},Cs I U l k=none->∀ j x,l[j]?=some x->x.eff=false->(∀ p∈x.pre,p∈U)->k+j∈U:=by
 intro l;induction l with
 | nil=>intro k _ j x h; simp at h
 | cons a r ih =>
  intro k h j x hj he hp;simp only [Cs] at h;cases hb:(!a.eff && !eE U k && sD U a.pre) with
  | true=>simp [hb] at h
  | false =>
   simp only [hb,cond_false] at h;cases j with
   | zero =>
    simp only [cK,aJ] at hj;subst hj;rw [oZ.2 hp,he] at hb;simp only [Bool.not_false,gS,kL,jD] at hb;exact iD.1 hb
   | succ j =>
    have:=ih h j x (by simpa using hj) he hp;rw [show k+(j+1)=k+1+j by omega];exact this
theorem Cr {U:List Nat}:∀ {l:List dK} {k:Nat} {p:Nat×dK},p∈uQ U l k ↔ ∃ j,p.1=k+j/\l[j]?=some p.2/\p.2.eff=true/\p.1 ∉ U/\∀ q∈p.2.pre,q∈U:=by
 intro l;induction l with
 | nil=>intro k p; simp [uQ]
 | cons a r ih =>
  intro k p;simp only [uQ];have tail:(∃ j,p.1=k+1+j/\r[j]?=some p.2/\p.2.eff=true/\p.1 ∉ U/\∀ q∈p.2.pre,q∈U) ↔ ∃ j,p.1=k+(j+1)/\(a::r)[j+1]?=some p.2/\p.2.eff=true/\p.1 ∉ U/\∀ q∈p.2.pre,q∈U:=by
   constructor <;> rintro ⟨j,h1,h2⟩ <;> exact ⟨j,by omega,by simpa using h2⟩
  cases hb:(a.eff && !eE U k && sD U a.pre) with
  | true =>
   simp only [cond_true,aI,ih,tail];simp only [aO,bV] at hb;constructor
   ·rintro (rfl|⟨j,h⟩)
    ·refine ⟨0,rfl,rfl,hb.1.1,?_,oZ.1 hb.2⟩;intro hm;have:=hb.1.2;rw [iD.2 hm] at this;cases this
    ·exact ⟨j+1,h⟩
   ·rintro ⟨j,h1,h2,h3⟩;cases j with
    | zero =>
     left;simp only [cK,aJ] at h2;obtain ⟨p1,p2⟩:=p;simp only at h1 h2;rw [h1,h2];rfl
    | succ j=>exact .inr ⟨j,h1,h2,h3⟩
  | false =>
   simp only [cond_false,ih,tail];constructor
   ·rintro ⟨j,h⟩; exact ⟨j+1,h⟩
   ·rintro ⟨j,h1,h2,h3,h4,h5⟩;cases j with
    | zero =>
     simp only [cK,aJ] at h2;exfalso;rw [h2,h3,oZ.2 h5] at hb;have h1':p.1=k:=h1;rw [h1'] at h4;have:eE U k=false:=by
      cases hm:eE U k with
      | false=>rfl
      | true=>exact absurd (iD.1 hm) h4
     simp [this] at hb
    | succ j=>exact ⟨j,h1,h2,h3,h4,h5⟩
theorem M5 {i:Nat}:∀ {n:Nat},i∈upL n ↔ i < n:=by
 intro n;induction n with
 | zero=>simp [upL]
 | succ n ih=>simp only [upL,aI,ih]; omega
theorem Nk {I:List dK} {f:List Nat->Option hZ} (hf:∀ S t,f S=some t->lD I none S t) {S:List Nat}:∀ (l:List (Nat×dK)) (es:List Nat) (t:hZ),vG f I S l=some t ->
  (∀ p∈l,I[p.1]?=some p.2/\p.2.eff=true/\p.1 ∉ S/\∀ q∈p.2.pre,q∈S)->(∀ e x,I[e]?=some x->x.eff=true->e ∉ S->(∀ p∈x.pre,p∈S)->e∈es\/∃ p∈l,p.1=e)->lD I (some es) S t:=by
 intro l;induction l with
 | nil =>
  intro es t h _ h2;simp only [vG,aJ] at h;subst h;intro e x h3 h4 h5 h6;rcases h2 e x h3 h4 h5 h6 with h|⟨p,hp,_⟩
  ·exact h
  ·cases hp
 | cons p r ih =>
  obtain ⟨e,x⟩:=p;intro es t h h1 h2;simp only [vG] at h;split at h
  ·rename_i sub hs;split at h
   ·rename_i alt ha;cases h;obtain ⟨g1,g2,g3,g4⟩:=h1 (e,x) (aQ ..);refine ⟨⟨x,g1,rfl,g2,g3,g4,fun j hj y hy he hr ht=>Pb hj hy he hr ht⟩,hf _ _ hs,ih (e::es) alt ha (fun p hp=>h1 p (aK _ hp)) ?_⟩;intro e' x' h3 h4 h5 h6;rcases h2 e' x' h3 h4 h5 h6 with h|⟨p,hp,hpe⟩
    ·exact .inl (aK _ h)
    ·rcases aI.1 hp with rfl|hp
     ·exact .inl (by rw [<- hpe]; exact aQ ..)
     ·exact .inr ⟨p,hp,hpe⟩
   ·cases h
  ·cases h
theorem B8 {I:List dK}:∀ (f:Nat) (S:List Nat) (t:hZ),xL I f S=some t->lD I none S t:=by
 intro f;induction f with
 | zero=>intro S t h; cases h
 | succ f ih =>
  intro S t h;simp only [xL] at h;cases ha:sD S (upL I.length) with
  | true =>
   simp only [ha,cond_true,aJ] at h;subst h;exact fun i hi=>oZ.1 ha i (M5.2 hi)
  | false =>
   simp only [ha,cond_false] at h;have left:∃ i,i < I.length/\i ∉ S:=by
    refine bR fun hn=>?_;have:sD S (upL I.length)=true:=oZ.2 fun p hp=>bR fun hp2=>hn ⟨p,M5.1 hp,hp2⟩;rw [this] at ha;cases ha
   split at h
   ·rename_i i x hn;split at h
    ·rename_i t' ht;cases h;obtain ⟨j,e,h1,h2,h3,h4⟩:=J6 hn;rw [aW] at e;subst e;exact ⟨⟨x,h1,rfl,h2,h3,h4⟩,ih _ _ ht⟩
    ·cases h
   ·rename_i hn;have hcl:Closed I S:=fun i x h1 h2 h3=>by simpa using J5 hn i x h1 h2 h3
    have hmem:∀ p∈uQ S I 0,I[p.1]?=some p.2/\p.2.eff=true/\p.1 ∉ S/\∀ q∈p.2.pre,q∈S:=by
     intro p hp;obtain ⟨j,e,h1⟩:=Cr.1 hp;rw [aW] at e;rw [e];rw [e] at h1;exact h1
    have hall:∀ e x,I[e]?=some x->x.eff=true->e ∉ S->(∀ p∈x.pre,p∈S)->e∈([]:List Nat)\/∃ p∈uQ S I 0,p.1=e:=by
     intro e x h1 h2 h3 h4;exact .inr ⟨(e,x),Cr.2 ⟨e,by simp,h1,h2,h3,h4⟩,rfl⟩
    cases hl:uQ S I 0 with
    | nil =>
     rw [hl] at h hall;simp only [vG,aJ] at h;subst h;refine ⟨hcl,left,fun e x h1 h2 h3 h4=>?_⟩;rcases hall e x h1 h2 h3 h4 with hh|⟨p,hp,_⟩
     ·cases hh
     ·cases hp
    | cons p r =>
     have hc:=Nk ih (uQ S I 0) [] t h hmem hall;rw [hl] at h;obtain ⟨e,x⟩:=p;simp only [vG] at h;split at h
     ·split at h
      ·cases h;exact ⟨hcl,left,hc⟩
      ·cases h
     ·cases h
end Go.Eng
end
section
namespace Go.Eng
open Go Go.RowKit
def gF (o:Oper):List Nat:=(o.after.toList.filter (Region.binds .any)).map (·.on)
def qS (acc:List dK):List Nat->Nat
 | []=>0
 | p::r=>qS acc r ||| (1 <<< p) ||| (match acc[p]? with|some y=>y.tp|none=>0)
def Qf (hint:List Nat) (o:fF):Bool :=
 match o.op with
 | .call _ _=>match o.dst with
  | some d=>eE hint d
  | none=>true
 | .buildSl _ _ _ _ _=>match o.dst with
  | some d=>eE hint d
  | none=>false
 | .load _ _ _=>match o.dst with
  | some d=>eE hint d
  | none=>false
 | op=>Tx op
def rK (n:Nat):List Nat->Bool
 | []=>true
 | p::r=>bif Nat.blt p n then rK n r else false
def kZ (o:fF):List Nat:=vR o.op++(match o.guard with|some (d,_)=>[d]|none=>[])
def Cv (o:fF):Bool:=match o.dst with
 | some d=>!eE (kZ o) d
 | none=>true
def mkI (hint:List Nat):List Oper->List fF->List dK->Option (List dK)
 | [],[],acc=>some acc
 | o::r,s::t,acc=>bif rK acc.length (gF o) then bif (Qf hint s || s.dst.isSome) && Cv s then mkI hint r t (acc++[⟨s,gF o,qS acc (gF o),Qf hint s⟩]) else none else none
 | _,_,_=>none
def pS (o:fF):List Nat :=
 vR o.op++(match o.guard with|some (d,_)=>[d]|none=>[])++(match o.dst with|some d=>[d]|none=>[])
def Ib (tp i t:Nat):List dK->Nat->Bool
 | [],_=>true
 | y::r,j=>match y.o.dst with
  | some d=>bif Nat.beq d t && !Nat.beq i j && !tp.testBit j then false else Ib tp i t r (j+1)
  | none=>Ib tp i t r (j+1)
def Ot (I:List dK) (tp i:Nat):List Nat->Bool
 | []=>true
 | t::r=>bif Ib tp i t I 0 then Ot I tp i r else false
def Hv (I:List dK):List dK->Nat->Bool
 | [],_=>true
 | x::r,i=>bif Ot I x.tp i (pS x.o) then Hv I r (i+1) else false
def B9 (P:Program) (n:Nat) (hint:List Nat) (ops:List Oper):Option hZ :=
 bif P.follows .mixedOrders then
  match mX P n ops ops with
  | some sl=>match mkI hint ops sl [] with
   | some I=>bif Hv I I 0 then xL I (I.length+1) [] else none
   | none=>none
  | none=>none
 else none
structure DOk (P:Program) (n:Nat) (ops:Array Oper) (I:List dK):Prop where
 len:I.length<=ops.size
 op:∀ (i:Nat) (o:Oper),i < I.length->ops[i]?=some o->∃ x:dK,I[i]?=some x/\uL P n ops.toList o=some x.o/\x.pre=gF o
 lt:∀ (i:Nat) (x:dK),I[i]?=some x->∀ p∈x.pre,p < i
 tp:∀ (i:Nat) (x:dK),I[i]?=some x->∀ j,x.tp.testBit j=true->j∈x.pre\/∃ p∈x.pre,∃ y,I[p]?=some y/\y.tp.testBit j=true
 nm:∀ (i j:Nat) (x y:dK) (t:Nat),I[i]?=some x->I[j]?=some y->t∈pS x.o->y.o.dst=some t->i≠j->x.tp.testBit j=true
 dst:∀ (i:Nat) (x:dK),I[i]?=some x->x.eff=false->∃ d,x.o.dst=some d
 own:∀ (i:Nat) (x:dK),I[i]?=some x->Cv x.o=true
theorem uZ {n:Nat}:∀ {l:List Nat},rK n l=true->∀ p∈l,p < n:=by
 intro l;induction l with
 | nil=>intro _ p h; cases h
 | cons a r ih =>
  intro h p hp;simp only [rK] at h;cases hb:Nat.blt a n with
  | false=>simp [hb] at h
  | true =>
   simp only [hb,cond_true] at h;rcases aI.1 hp with rfl|hp
   ·exact aM (n:=p+1) hb
   ·exact ih h p hp
theorem A4 {acc:List dK} {j:Nat}:∀ {l:List Nat},(qS acc l).testBit j=true->j∈l\/∃ p∈l,∃ y,acc[p]?=some y/\y.tp.testBit j=true:=by
 intro l;induction l with
 | nil=>intro h; simp [qS] at h
 | cons p r ih =>
  intro h;simp only [qS,Nat.testBit_or,fW] at h;rcases h with (h|h)|h
  ·rcases ih h with h|⟨q,h1,h2⟩
   ·exact .inl (aK _ h)
   ·exact .inr ⟨q,aK _ h1,h2⟩
  ·left;rw [Nat.one_shiftLeft,Nat.testBit_two_pow] at h;have:p=j:=by simpa using h
   subst this;exact aQ ..
  ·split at h
   ·rename_i y hy;exact .inr ⟨p,aQ ..,y,hy,h⟩
   ·simp at h
theorem Y3 {P:Program} {n:Nat} {ops:List Oper} {hint:List Nat}:∀ (l:List Oper) (sl:List fF) (acc I:List dK) (done rest:List Oper),ops=done++l++rest->mX P n ops l=some sl->mkI hint l sl acc=some I->acc.length=done.length ->
  (∀ (i:Nat) (x:dK),acc[i]?=some x->(∃ o,done[i]?=some o/\uL P n ops o=some x.o/\x.pre=gF o)/\(∀ p∈x.pre,p < i)/\(∀ j,x.tp.testBit j=true->j∈x.pre\/∃ p∈x.pre,∃ y,acc[p]?=some y/\y.tp.testBit j=true)/\(x.eff=false->∃ d,x.o.dst=some d)/\Cv x.o=true) ->
  I.length+rest.length=ops.length/\∀ (i:Nat) (x:dK),I[i]?=some x->(∃ o,ops[i]?=some o/\uL P n ops o=some x.o/\x.pre=gF o)/\(∀ p∈x.pre,p < i)/\(∀ j,x.tp.testBit j=true->j∈x.pre\/∃ p∈x.pre,∃ y,I[p]?=some y/\y.tp.testBit j=true)/\(x.eff=false->∃ d,x.o.dst=some d)/\Cv x.o=true:=by
 intro l;induction l with
 | nil =>
  intro sl acc I done rest ho hc hm hl hacc;simp only [mX,aJ] at hc;subst hc;simp only [mkI,aJ] at hm;subst hm;simp only [fX] at ho;subst ho;refine ⟨by simp [hl],fun i x hx=>?_⟩;obtain ⟨⟨o,e1,e2⟩,e3⟩:=hacc i x hx;exact ⟨⟨o,by rw [aU (aR.1 e1).1]; exact e1,e2⟩,e3⟩
 | cons o r ih =>
  intro sl acc I done rest ho hc hm hl hacc;simp only [mX] at hc;split at hc
  ·rename_i so sr h1 h2;cases hc;simp only [mkI] at hm;cases hb1:rK acc.length (gF o) with
   | false=>simp [hb1] at hm
   | true =>
   cases hb2:((Qf hint so || so.dst.isSome) && Cv so) with
   | false=>simp [hb1,hb2] at hm
   | true =>
   simp only [hb1,hb2,cond_true] at hm;simp only [aO] at hb2;refine ih sr _ I (done++[o]) rest (by rw [ho]; simp) h2 hm (by simp [hl]) ?_;intro i x hx;have grow:∀ {p:Nat} {y:dK},acc[p]?=some y->(acc++[⟨so,gF o,qS acc (gF o),Qf hint so⟩])[p]?=some y:=by
    intro p y e;rw [aU (aR.1 e).1];exact e
   by_cases hi:i < acc.length
   ·rw [aU hi] at hx;obtain ⟨⟨o',e1,e2⟩,e3,e4,e5⟩:=hacc i x hx;refine ⟨⟨o',?_,e2⟩,e3,fun j hj=>?_,e5⟩
    ·rw [aU (by omega)]; exact e1
    ·rcases e4 j hj with h|⟨p,hp,y,hy,hb⟩
     ·exact .inl h
     ·exact .inr ⟨p,hp,y,grow hy,hb⟩
   ·rw [bG (by omega)] at hx;have hi0:i - acc.length=0:=by
     have:=(aR.1 hx).1;simp at this;omega
    rw [hi0] at hx;simp only [cK,aJ] at hx;subst hx;have hil:i=acc.length:=by omega
    subst hil;refine ⟨⟨o,?_,h1,rfl⟩,uZ hb1,fun j hj=>?_,fun he=>?_,hb2.2⟩
    ·rw [hl,bG (aL _)]; simp
    ·rcases A4 hj with h|⟨p,hp,y,hy,hb⟩
     ·exact .inl h
     ·exact .inr ⟨p,hp,y,grow hy,hb⟩
    ·have he':Qf hint so=false:=he;have h1:=hb2.1;rw [he'] at h1;simp only [iX] at h1;exact Option.isSome_iff_exists.1 h1
  ·cases hc
theorem Ta {tp i t:Nat}:∀ {l:List dK} {k:Nat},Ib tp i t l k=true->∀ (j:Nat) (y:dK),l[j]?=some y->y.o.dst=some t->i≠k+j->tp.testBit (k+j)=true:=by
 intro l;induction l with
 | nil=>intro k _ j y h; simp at h
 | cons a r ih =>
  intro k h j y hy hd hne;have key:Ib tp i t r (k+1)=true/\(a.o.dst=some t->i≠k->tp.testBit k=true):=by
   simp only [Ib] at h;split at h
   ·rename_i d had;cases hb:(Nat.beq d t && !Nat.beq i k && !tp.testBit k) with
    | true=>simp [hb] at h
    | false =>
     simp only [hb,cond_false] at h;refine ⟨h,fun e hik=>?_⟩;rw [had] at e;cases e;have:Nat.beq i k=false:=by
      cases e:Nat.beq i k with
      | false=>rfl
      | true=>exact absurd (cQ e) hik
     simp [this,Nat.beq_refl] at hb;exact hb
   ·rename_i had;exact ⟨h,fun e=>by rw [had] at e; cases e⟩
  cases j with
  | zero =>
   simp only [cK,aJ] at hy;subst hy;exact key.2 hd hne
  | succ j =>
   rw [show k+(j+1)=k+1+j by omega];exact ih key.1 j y (by simpa using hy) hd (by omega)
theorem Rw {I:List dK} {tp i:Nat}:∀ {l:List Nat},Ot I tp i l=true->∀ t∈l,Ib tp i t I 0=true:=by
 intro l;induction l with
 | nil=>intro _ t h; cases h
 | cons a r ih =>
  intro h t ht;simp only [Ot] at h;cases hb:Ib tp i a I 0 with
  | false=>simp [hb] at h
  | true =>
   simp only [hb,cond_true] at h;rcases aI.1 ht with rfl|ht
   ·exact hb
   ·exact ih h t ht
theorem Sm {I:List dK}:∀ {l:List dK} {k:Nat},Hv I l k=true->∀ (j:Nat) (x:dK),l[j]?=some x->Ot I x.tp (k+j) (pS x.o)=true:=by
 intro l;induction l with
 | nil=>intro k _ j x h; simp at h
 | cons a r ih =>
  intro k h j x hx;simp only [Hv] at h;cases hb:Ot I a.tp k (pS a.o) with
  | false=>simp [hb] at h
  | true =>
   simp only [hb,cond_true] at h;cases j with
   | zero =>
    simp only [cK,aJ] at hx;subst hx;exact hb
   | succ j =>
    rw [show k+(j+1)=k+1+j by omega];exact ih h j x (by simpa using hx)
theorem Qc {P:Program} {n:Nat} {hint:List Nat} {ops:Array Oper} {l rest:List Oper} {sl:List fF} {I:List dK} (hl:ops.toList=l++rest) (hsl:mX P n ops.toList l=some sl) (hI:mkI hint l sl []=some I) (hs:Hv I I 0=true) :
  DOk P n ops I/\I.length=l.length:=by
 obtain ⟨h1,h2⟩:=Y3 l sl [] I [] rest (by simpa using hl) hsl hI rfl (by intro i x hx; simp at hx);have h3:I.length=l.length:=by
  have:=congrArg List.length hl;simp only [aV] at this;omega
 refine ⟨⟨?_,?_,fun i x hx=>(h2 i x hx).2.1,fun i x hx=>(h2 i x hx).2.2.1,?_,fun i x hx=>(h2 i x hx).2.2.2.1,fun i x hx=>(h2 i x hx).2.2.2.2⟩,h3⟩
 ·have:ops.toList.length=ops.size:=by simp
  omega
 ·intro i o hlt ho;obtain ⟨⟨o',e1,e2,e3⟩,_⟩:=h2 i I[i] (aH hlt);have ho':ops.toList[i]?=some o:=by simpa using ho
  rw [ho'] at e1;cases e1;exact ⟨I[i],aH hlt,e2,e3⟩
 ·intro i j x y t hx hy ht hd hne;have:=Ta (Rw (Sm hs i x hx) t ht) j y hy hd (by omega);simpa using this
theorem P6 {P:Program} {n:Nat} {hint:List Nat} {ops:Array Oper} {t:hZ} (h:B9 P n hint ops.toList=some t):P.follows .mixedOrders=true/\∃ I,DOk P n ops I/\I.length=ops.size/\lD I none [] t:=by
 unfold B9 at h;cases hf:P.follows .mixedOrders with
 | false=>simp [hf] at h
 | true =>
 simp only [hf,cond_true] at h;split at h
 ·rename_i sl hsl;split at h
  ·rename_i I hI;cases hs:Hv I I 0 with
   | false=>simp [hs] at h
   | true =>
   simp only [hs,cond_true] at h;obtain ⟨h1,h2⟩:=Qc (rest:=[]) (by simp) hsl hI hs;exact ⟨rfl,I,h1,by simpa using h2,B8 _ _ _ h⟩
  ·cases h
 ·cases h
def Ad (m:Nat):Nat->Bool
 | 0=>true
 | n+1=>bif m.testBit n then Ad m n else false
theorem Iq {m:Nat}:∀ {n:Nat},Ad m n=true->∀ i,i < n->m.testBit i=true:=by
 intro n;induction n with
 | zero=>intro _ i hi; omega
 | succ n ih =>
  intro h i hi;simp only [Ad] at h;cases hb:m.testBit n with
  | false=>simp [hb] at h
  | true =>
   simp only [hb,cond_true] at h;by_cases e:i=n
   ·rw [e]; exact hb
   ·exact ih h i (by omega)
def Bl:Nat->List Oper->Bool
 | _,[]=>true
 | n,o::r=>bif eE (gF o) n && rK (n+1) (gF o) then Bl (n+1) r else false
theorem Kz:∀ {l:List Oper} {n:Nat},Bl n l=true->∀ j o,l[j]?=some o->n+j∈gF o/\∀ p∈gF o,p < n+j+1:=by
 intro l;induction l with
 | nil=>intro n _ j o h; simp at h
 | cons a r ih =>
  intro n h j o ho;simp only [Bl] at h;cases hb:(eE (gF a) n && rK (n+1) (gF a)) with
  | false=>simp [hb] at h
  | true =>
   simp only [hb,cond_true] at h;simp only [aO] at hb;cases j with
   | zero =>
    simp only [cK,aJ] at ho;subst ho;exact ⟨iD.1 hb.1,uZ hb.2⟩
   | succ j =>
    simp only [dL] at ho;have:=ih h j o ho;have e:n+1+j=n+(j+1):=by omega
    rw [e] at this;exact this
def vC (P:Program) (n:Nat) (hint:List Nat) (ops:List Oper) (k:Nat):Option (hZ×List fF) :=
 bif P.follows .mixedOrders then
  match ops.drop (ops.length - k) with
  | o::r=>match mX P n ops (ops.take (ops.length - k)),mX P n ops (o::r) with
   | some sl,some so=>match mkI hint (ops.take (ops.length - k)) sl [] with
    | some I=>bif Hv I I 0 && rK I.length (gF o) && Ad (qS I (gF o)) I.length && Bl I.length r then
      match xL I (I.length+1) [] with
      | some t=>some (t,so)
      | none=>none
     else none
    | none=>none
   | _,_=>none
  | []=>none
 else none
def xM (P:Program) (n:Nat) (hint:List Nat) (ops:List Oper):Option (hZ×List fF) :=
 match vC P n hint ops 1 with
 | some r=>some r
 | none=>match vC P n hint ops 2 with
  | some r=>some r
  | none=>match vC P n hint ops 3 with
   | some r=>some r
   | none=>vC P n hint ops 4
theorem Ni {P:Program} {n:Nat} {hint:List Nat} {ops:Array Oper} {t:hZ} {so:List fF} {k:Nat} (h:vC P n hint ops.toList k=some (t,so)) :
  P.follows .mixedOrders=true/\∃ I o r,DOk P n ops I/\ops.toList.drop I.length=o::r/\lD I none [] t/\mX P n ops.toList (o::r)=some so/\(∀ p∈gF o,p < I.length)/\(∀ i,i < I.length->(qS I (gF o)).testBit i=true) /\
   ∀ j o',r[j]?=some o'->I.length+j∈gF o'/\∀ p∈gF o',p < I.length+j+1:=by
 unfold vC at h;cases hf:P.follows .mixedOrders with
 | false=>simp [hf] at h
 | true =>
 simp only [hf,cond_true] at h;split at h
 ·rename_i o r ho;split at h
  ·rename_i sl so' hsl hso;split at h
   ·rename_i I hI;cases hs:(Hv I I 0 && rK I.length (gF o) && Ad (qS I (gF o)) I.length && Bl I.length r) with
    | false=>simp [hs] at h
    | true =>
    simp only [hs,cond_true] at h;simp only [aO] at hs;obtain ⟨⟨⟨hs1,hs2⟩,hs3⟩,hs4⟩:=hs;split at h
    ·rename_i t' ht;simp only [aJ,cD] at h;obtain ⟨rfl,rfl⟩:=h;have hl:ops.toList=ops.toList.take (ops.toList.length - k)++(o::r):=by rw [<- ho,dQ]
     obtain ⟨h1,h2⟩:=Qc (rest:=o::r) hl hsl hI hs1;refine ⟨rfl,I,o,r,h1,?_,B8 _ _ _ ht,hso,uZ hs2,Iq hs3,Kz hs4⟩;rw [h2,<- ho];congr 1;rw [cG];omega
    ·cases h
   ·cases h
  ·cases h
 ·cases h
theorem Nh {P:Program} {n:Nat} {hint:List Nat} {ops:Array Oper} {t:hZ} {so:List fF} (h:xM P n hint ops.toList=some (t,so)):∃ k,vC P n hint ops.toList k=some (t,so):=by
 unfold xM at h;split at h
 ·rename_i r hr; cases h; exact ⟨_,hr⟩
 ·split at h
  ·rename_i r hr; cases h; exact ⟨_,hr⟩
  ·split at h
   ·rename_i r hr; cases h; exact ⟨_,hr⟩
   ·exact ⟨_,h⟩
end Go.Eng
end
