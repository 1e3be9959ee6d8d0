/- A part of the proof. -/
import Derived.Test.YtijddkljgihcnaaGreatDoorEngJ
section
namespace Go.Eng
open Go Go.RowKit
structure bI where
 dst:Option Nat
 guard:Option (Nat×Bool)
 op:SOp
 hide:List Nat
 deriving Repr
abbrev zPt:CV:=.cons (.int .i64 0) (.cons (.int .i64 0) .nil)
abbrev zHn:CV:=.cons (.int .i64 0) (.cons (.str []) (.cons (.int .i64 0) (.cons (.int .i64 0) .nil)))
abbrev zEn:CV:=.cons (.str []) (.cons (.int .i64 0) (.cons (.str []) (.cons (.int .i64 0) (.cons (.int .i64 0) (.cons (.int .i64 0) (.cons (.int .i64 0) .nil))))))
abbrev zEv:CV:=.cons (.int .i64 0) (.cons (.int .i64 0) (.cons (.int .i64 0) (.cons (.int .i64 0) (.cons (.int .i64 0) (.cons (.str []) (.cons (.str []) (.cons (.str []) (.cons (.nilsl) (.cons (.nilsl) (.cons (.int .i64 0) (.cons (.str []) (.cons (.int .i64 0) (.cons (.int .i64 0) (.cons (.int .i64 0) (.cons (.int .i64 0) (.cons (.nilsl) (.cons (.nilsl) .nil)))))))))))))))))
abbrev zo (d:Nat) (o:SOp):bI:=⟨some d,none,o,[]⟩
abbrev zg (d g:Nat) (w:Bool) (o:SOp):bI:=⟨some d,some (g,w),o,[]⟩
abbrev mv (d x:Nat):bI:=zo d (.move (.s x))
abbrev mg (d g:Nat) (w:Bool) (x:Nat):bI:=zg d g w (.move (.s x))
abbrev ld (d x:Nat):bI:=zo d (.load 1 false (.s x))
abbrev lg (d g:Nat) (w:Bool) (x:Nat):bI:=zg d g w (.load 1 false (.s x))
abbrev fa (d k x:Nat):bI:=zo d (.fldA k (.s x))
abbrev fg (d g:Nat) (w:Bool) (k x:Nat):bI:=zg d g w (.fldA k (.s x))
abbrev cj (z:Int):SX:=.c (.int .i64 z)
abbrev cT:SX:=.c (.bool true)
abbrev cF:SX:=.c (.bool false)
def Bj (l:List Nat):Option Nat->Bool
 | none=>false
 | some d=>bS l d
def Cw (n:Nat):Option Nat->Bool
 | none=>true
 | some d=>Nat.blt d n
def Ah (ops:List Oper):Option (Nat×Bool)->Option (Option (Nat×Bool))
 | none=>some none
 | some (j,w)=>match ops[j]? with
  | some oj=>match oj.dst with
   | some d=>some (some (d,w))
   | none=>none
  | none=>none
def lQ (P:Program) (n:Nat) (ops:List Oper) (o:Oper):Option bI :=
 match cOp P o.op,Ah ops o.guard with
 | some so,some g=>bif Cw n o.dst then some ⟨o.dst,g,so,[]⟩ else none
 | _,_=>none
def eO (P:Program) (n:Nat) (ops:List Oper):List Oper->Option (List bI)
 | []=>some []
 | o::r=>match lQ P n ops o,eO P n ops r with
  | some x,some y=>some (x::y)
  | _,_=>none
def aY (fr:List (Nat×SV)):Nat->Nat->Bool->Prop
 | 0,_,_=>True
 | f+1,d,want=>match look fr d with
  | .bool b=>b=want
  | .gd d' w' (.bool b)=>b=want/\aY fr f d' w'
  | _=>True
theorem gd {fr:List (Nat×SV)} {n d:Nat} {w:Bool} {X:Prop} (h:X):aY fr n d w->X:=fun _=>h
def xV (T:Tb) (g:Option (Nat×Bool)) (st:St):SOp->Bool
 | .call f _=>match gx g st.fr f with
  | .yield _=>true
  | .fn k _=>match get? T.fs (bif Nat.blt k FM then k else k - FM) with
   | some (.m _)=>true
   | _=>false
  | _=>false
 | .buildSl _ _ _ _ _=>match get? T.fs OWN with
  | some .own=>true
  | _=>false
 | o=>Kt o
def evO (T:Tb) (st:St) (o:SOp) (k:SV->St->Prop):Prop :=
 bif xV T none st o then evE T none st (fun s st'=>stF st' fun st'=>k s st') o else
  match evP T.fs none st o with
  | .fail=>False
  | .ok v=>k v st
  | .side p v=>p/\k v st
def fV (fr:List (Nat×SV)):Nat->Nat->Bool->Prop->Prop->Prop
 | 0,_,_,_,_=>False
 | f+1,d,want,Y,N=>match look fr d with
  | .bool b=>(b=want->Y)/\(b=!want->N)
  | .gd d' w' (.bool b)=>fV fr f d' w' ((b=want->Y)/\(b=!want->N)) N
  | .gd d' w' .junk=>fV fr f d' w' False N
  | .tup _=>N
  | _=>False
def wG (d:Option Nat) (lab:List Nat) (s:SV) (st:St) (k:St->Prop):Prop :=
 match d with
 | none=>k st
 | some d=>bif bS lab d then False else
  bC s fun s=>match s with
  | .gd _ _ _=>False
  | s=>match st with
   | ⟨fr,hp,nx⟩=>cR nx fun nx=>k ⟨(d,s)::fr,hp,nx⟩
def lH (T:Tb):List bI->List Nat->St->(St->Prop)->Prop
 | [],_,st,k=>k st
 | o::r,lab,st,k =>
  match o.guard with
  | none=>evO T st o.op fun s st'=>wG o.dst lab s st' fun st''=>lH T r lab st'' k
  | some (d0,w) =>
   bif xV T (some (d0,w)) st o.op then
    bif Bj (d0::lab) o.dst then False else
    fV st.fr 10 d0 w (evE T (some (d0,w)) st (fun s st'=>stF st' fun st'=>wG o.dst (d0::lab) s st' fun st''=>lH T r (d0::lab) st'' k) o.op)
     (wG o.dst (d0::lab) (.tup .nil) st fun st''=>lH T r (d0::lab) st'' k)
   else
   match o.dst with
   | none=>False
   | some d=>bif bS (d0::lab) d then False else
    match evP T.fs (some (d0,w)) st o.op with
    | .fail=>(aY st.fr 10 d0 w->False)/\stP st fun fr hp nx=>lH T r (d0::lab) ⟨(d,.gd d0 w .junk)::fr,hp,nx⟩ k
    | .ok v=>bC v fun v=>stP st fun fr hp nx=>lH T r (d0::lab) ⟨(d,.gd d0 w v)::fr,hp,nx⟩ k
    | .side p v=>(aY st.fr 10 d0 w->p)/\bC v fun v=>stP st fun fr hp nx=>lH T r (d0::lab) ⟨(d,.gd d0 w v)::fr,hp,nx⟩ k
def iC (fr:List (Nat×SV)):List Nat->(List (Nat×SV)->Prop)->Prop
 | [],k=>k []
 | n::r,k=>bC (look fr n) fun s=>match s with
  | .gd _ _ _=>iC fr r k
  | .junk=>iC fr r k
  | s=>iC fr r fun l=>k ((n,s)::l)
section
variable {P:Program} {C:Ctx} {ro:Option Nat}
theorem nH {E:Env} {t:Array Value} {fr:List (Nat×SV)} (hf:∀ s,bT E t (look fr s) (t.getD s undef)):∀ (n d:Nat) (want:Bool) (Y N:Prop),fV fr n d want Y N ->
  (t.getD d undef=.bool want/\Y)\/(t.getD d undef≠.bool want/\N):=by
 intro n
 induction n with
 | zero=>intro d want Y N h; exact h.elim
 | succ n ih =>
  intro d want Y N h
  have hs:=hf d
  simp only [fV] at h
  have two:∀ (b:Bool) {Y N:Prop},t.getD d undef=.bool b->((b=want->Y)/\(b=!want->N))->(t.getD d undef=.bool want/\Y)\/(t.getD d undef≠.bool want/\N):=by
   intro b Y N hb hyn
   rw [hb]
   by_cases e:b=want
   ·exact .inl ⟨by rw [e],hyn.1 e⟩
   ·refine .inr ⟨fun e'=>e (by injection e'),hyn.2 ?_⟩
    cases b <;> cases want <;> simp_all
  split at h
  ·rename_i b hb
   rw [hb] at hs
   simp only [bT,R] at hs
   exact two b (List.singleton_inj.1 hs) h
  ·rename_i d' w' b hb
   rw [hb] at hs
   obtain ⟨h1,h2⟩:=hs
   rcases ih _ _ _ _ h with ⟨e,hy⟩|⟨e,hn⟩
   ·have:=h1 e
    simp only [R] at this
    exact two b (List.singleton_inj.1 this) hy
   ·refine .inr ⟨?_,hn⟩
    rw [h2 e]
    intro e'; cases e'
  ·rename_i d' w' hb
   rw [hb] at hs
   obtain ⟨h1,h2⟩:=hs
   rcases ih _ _ _ _ h with ⟨e,hy⟩|⟨e,hn⟩
   ·exact hy.elim
   ·refine .inr ⟨?_,hn⟩
    rw [h2 e]
    intro e'; cases e'
  ·rename_i l hl
   rw [hl] at hs
   simp only [bT,R] at hs
   obtain ⟨cs,hv,_⟩:=hs
   refine .inr ⟨?_,h⟩
   rw [List.singleton_inj.1 hv]
   intro e; cases e
  ·exact h.elim
def cG (fr:List (Nat×SV)) (lab:List Nat):Prop:=∀ s d w x,look fr s=.gd d w x->bS lab d=true
theorem D2 {T:Tb} (htab:qY P C T) {μ:Nat->Option (Nat×Nat)} {st:St} {a:Act} {w:World} (h:aV C μ st a w) {o:Oper} {so:SOp} (hc:cOp P o.op=some so) {K:SV->St->Prop}
  (he:evO T st so K):Acts P C μ st.hp w st.fr K ((execOp a.eval o).run P w):=by
 have hg:GOk none a.tmps:=fun _ _ e=>by cases e
 unfold evO at he
 cases hb:xV T none st so with
 | true =>
  simp only [hb,cond_true,wL] at he
  exact lA htab h hg hc he
 | false =>
  simp only [hb,cond_false] at he
  have he':(evP T.fs none st so).holds (fun v=>K v st):=by
   cases hp:evP T.fs none st so <;> rw [hp] at he <;> exact he
  obtain ⟨s,hq,hd⟩:=lB htab.fs (htab.g.at h.hep.frm) h hg hc he'
  refine hd.mono ?_
  rintro v w' ⟨hb,hr⟩
  exact ⟨s,st,μ,hq,rfl,dV hb,h.hep.below hb,hr⟩
theorem aV.wM {μ μ':Nat->Option (Nat×Nat)} {st st':St} {a:Act} {w w':World} (h:aV C μ st a w) (hfr:st'.fr=st.fr) (hE:(aC C μ st.hp w).Le (aC C μ' st'.hp w')) (hh:aL C μ' st'.hp st'.nx w'):aV C μ' st' a w':=by
 have:=h.step hE hh
 cases st'
 simp only at hfr
 subst hfr
 exact this
theorem iK (t:Array Value) (d:Nat) (v:Value) (h:d < t.size):(t.setIfInBounds d v).getD d undef=v:=by
 simp [Array.getD_eq_getD_getElem?,h]
theorem bL (t:Array Value) (d s:Nat) (v:Value) (h:s≠d):(t.setIfInBounds d v).getD s undef=t.getD s undef:=by
 simp [Array.getD_eq_getD_getElem?,Array.getElem?_setIfInBounds_ne (Ne.symm h)]
theorem cL (d:Nat) (s:SV) (fr:List (Nat×SV)) (n:Nat):look ((d,s)::fr) n=if d=n then s else look fr n:=by
 unfold look
 rw [get?_cons]
 split <;> rfl
theorem tI {E:Env} {t:Array Value} {d:Nat} {v:Value} {s:SV} {x:Value} {lab:List Nat} (hl:bS lab d=false) (hs:∀ d' w y,s=.gd d' w y->bS lab d'=true) (h:bT E t s x) :
  bT E (t.setIfInBounds d v) s x:=by
 cases s with
 | gd d' w y =>
  have:d'≠d:=by
   rintro rfl
   have:=hs _ _ _ rfl
   rw [hl] at this
   cases this
  simp only [bT] at *
  rw [bL _ _ _ _ this]
  exact h
 | _=>exact h
theorem aV.set {μ:Nat->Option (Nat×Nat)} {st:St} {a:Act} {w:World} (h:aV C μ st a w) {lab:List Nat} (hlab:cG st.fr lab) {d:Nat} (hd:d < C.n) (hm:bS lab d=false) {s:SV} {v:Value}
  (hs:bT (aC C μ st.hp w) (a.tmps.setIfInBounds d v) s v):aV C μ { st with fr:=(d,s)::st.fr } (a.put (some d) v) w where
 size:=by simp [Act.put,h.size]
 defers:=h.defers
 fr:=by
  intro n
  simp only [Act.put]
  rw [cL]
  by_cases hn:d=n
  ·subst hn
   rw [if_pos rfl,iK _ _ _ (by rw [h.size]; exact hd)]
   exact hs
  ·rw [if_neg hn,bL _ _ _ _ (Ne.symm hn)]
   exact tI hm (fun d' w y e=>hlab n d' w y e) (h.fr n)
 hep:=h.hep
 le:=h.le
 kd:=h.kd
theorem jW {E:Env} {t:Array Value} {s:SV} {v:Value} (h:R E s [v]) (hn:∀ d w x,s≠.gd d w x):bT E t s v:=by
 cases s <;> first
  | exact h
  | exact absurd rfl (hn _ _ _)
theorem cG.cons {fr:List (Nat×SV)} {lab:List Nat} (h:cG fr lab) {d:Nat} {s:SV} (hs:∀ d' w x,s=.gd d' w x->bS lab d'=true):cG ((d,s)::fr) lab:=by
 intro n d' w x e
 rw [cL] at e
 split at e
 ·exact hs d' w x e
 ·exact h n d' w x e
theorem bW {ops:Array Oper} {o:Oper} {t:Array Value} {g:Option (Nat×Bool)} (h:Ah ops.toList o.guard=some g) :
  Region.wanted o (yielded ops t)=true ↔ GOk g t:=by
 unfold Ah at h
 split at h
 ·rename_i hg
  cases h
  simp only [Region.wanted,hg]
  exact ⟨(fun _ _ _ e=>by cases e),fun _=>trivial⟩
 ·rename_i j w hg
  split at h
  ·rename_i oj hj
   split at h
   ·rename_i d hd
    cases h
    have hj':ops[j]?=some oj:=by simpa using hj
    simp only [Region.wanted,hg,yielded,hj',Option.bind_some,hd]
    constructor
    ·intro hh d' w' e
     cases e
     rw [Array.getD_eq_getD_getElem?]
     cases ht:t[d]? with
     | none=>simp [ht] at hh
     | some x=>cases x <;> simp [ht] at hh ⊢; exact hh
    ·intro hh
     have:=hh d w rfl
     rw [Array.getD_eq_getD_getElem?] at this
     cases ht:t[d]? with
     | none=>simp [ht,undef] at this
     | some x=>simp [ht] at this; subst this; simp
   ·cases h
  ·cases h
theorem jE {E:Env} {a:Act} {fr:List (Nat×SV)} (hf:∀ s,bT E a.tmps (look fr s) (a.tmps.getD s undef)):∀ (f d:Nat) (w:Bool),a.tmps.getD d undef=.bool w->aY fr f d w:=by
 intro f
 induction f with
 | zero=>intro d w _; trivial
 | succ f ih =>
  intro d w hd
  have h:=hf d
  simp only [aY]
  split
  ·rename_i b hb
   rw [hb,hd] at h
   have:R E (.bool b) [.bool w]:=h
   simp only [R] at this
   have:=List.singleton_inj.1 this
   cases this
   rfl
  ·rename_i d' w' b hb
   rw [hb,hd] at h
   obtain ⟨h1,h2⟩:=h
   by_cases hc:a.tmps.getD d' undef=.bool w'
   ·have:=h1 hc
    simp only [R] at this
    have:=List.singleton_inj.1 this
    cases this
    exact ⟨rfl,ih d' w' hc⟩
   ·have:=h2 hc
    cases this
  ·trivial
theorem rN {T:Tb} (htab:qY P C T) {ops:Array Oper} {Q:Exit->Act->World->Prop} {K:St->Prop}
  (hK:∀ st μ a w,K st->aV C μ st a w->Q .normal a w) :
  ∀ (l:List Oper) (sl:List bI) (lab:List Nat) (μ:Nat->Option (Nat×Nat)) (st:St) (a:Act) (w:World),eO P C.n ops.toList l=some sl->cG st.fr lab->aV C μ st a w->lH T sl lab st K ->
   wpListIn (WF ro) 0 P ops Q l a w:=by
 intro l
 induction l with
 | nil =>
  intro sl lab μ st a w hc hlab h he
  simp only [eO,Option.some.injEq] at hc
  subst hc
  exact wpListIn_nil (hK _ _ _ _ he h)
 | cons o r ih =>
  intro sl lab μ st a w hc hlab h he
  simp only [eO] at hc
  split at hc
  ·rename_i so sr h1 h2
   cases hc
   unfold lQ at h1
   split at h1
   ·rename_i sop g h3 h4
    cases hdst:Cw C.n o.dst with
    | false=>simp [hdst] at h1
    | true =>
     simp only [hdst,cond_true,Option.some.injEq] at h1
     subst h1
     have hnd:∀ c,o.op≠.defer c:=by
      rintro c e
      rw [e] at h3
      simp [cOp] at h3
     have hdn:∀ d,o.dst=some d->d < C.n:=by
      intro d e
      rw [e] at hdst
      have h1:Nat.ble (d+1) C.n=true:=hdst
      exact Nat.le_of_ble_eq_true h1
     simp only [lH] at he
     cases g with
     | none =>
      simp only at he
      have hw:Region.wanted o (yielded ops a.tmps)=true:=(bW h4).2 (fun _ _ e=>by cases e)
      simp only [wpListIn,hw,if_true]
      refine dH hnd ?_
      refine (D2 htab h h3 he).mono ?_
      rintro v w' ⟨s,st',μ',hk,hfr,hE,hh,hR⟩
      have hrep:=h.wM hfr hE hh
      obtain ⟨fr1,hp1,nx1⟩:=st'
      unfold wG at hk
      split at hk
      ·rename_i hdn'
       rw [hdn']
       exact ih sr lab μ' ⟨fr1,hp1,nx1⟩ a w' h2 (by rw [hfr]; exact hlab) hrep hk
      ·rename_i d hd'
       cases hm:bS lab d with
       | true=>simp [hm] at hk
       | false =>
        simp only [hm,cond_false,bN,dB] at hk
        split at hk
        ·exact hk.elim
        ·rename_i hnw
         rw [hd']
         have hlab':cG fr1 lab:=by rw [show fr1=st.fr from hfr]; exact hlab
         exact ih sr lab μ' ⟨(d,_)::fr1,hp1,nx1⟩ _ w' h2 (hlab'.cons (fun d' w x e=>absurd e (hnw d' w x))) (hrep.set hlab' (hdn d hd') hm (jW hR hnw)) hk
     | some gw =>
      obtain ⟨d0,gwant⟩:=gw
      simp only at he
      cases hie:xV T (some (d0,gwant)) st sop with
      | true =>
       simp only [hie,cond_true,wL] at he
       cases hmo:Bj (d0::lab) o.dst with
       | true=>simp [hmo] at he
       | false =>
       simp only [hmo,cond_false] at he
       have hlab0:cG st.fr (d0::lab):=by
        intro s d' w x e
        have:=hlab s d' w x e
        simp only [bS]
        cases Nat.beq d0 d' <;> simp [this]
       -- the slot is set
       have cont:∀ (st':St) (μ':Nat->Option (Nat×Nat)) (v:Value) (w':World) (s:SV),st'.fr=st.fr->aV C μ' st' a w'->R (aC C μ' st'.hp w') s [v]->wG o.dst (d0::lab) s st' (fun st''=>lH T sr (d0::lab) st'' K)->wpListIn (WF ro) 0 P ops Q r (a.put o.dst v) w':=by
        intro st' μ' v w' s hfr hrep hR hk
        obtain ⟨fr1,hp1,nx1⟩:=st'
        unfold wG at hk
        split at hk
        ·rename_i hdn'
         rw [hdn']
         exact ih sr (d0::lab) μ' ⟨fr1,hp1,nx1⟩ a w' h2 (by rw [hfr]; exact hlab0) hrep hk
        ·rename_i d hd'
         cases hm:bS (d0::lab) d with
         | true=>simp [hm] at hk
         | false =>
          simp only [hm,cond_false,bN,dB] at hk
          split at hk
          ·exact hk.elim
          ·rename_i hnw
           rw [hd']
           have hlab':cG fr1 (d0::lab):=by rw [show fr1=st.fr from hfr]; exact hlab0
           exact ih sr (d0::lab) μ' ⟨(d,_)::fr1,hp1,nx1⟩ _ w' h2 (hlab'.cons (fun d' w x e=>absurd e (hnw d' w x))) (hrep.set hlab' (hdn d hd') hm (jW hR hnw)) hk
       rcases nH h.fr 10 d0 gwant _ _ he with ⟨hgd,hy⟩|⟨hgd,hn⟩
       ·have hg:GOk (some (d0,gwant)) a.tmps:=by intro d w e; cases e; exact hgd
        have hw:Region.wanted o (yielded ops a.tmps)=true:=(bW h4).2 hg
        simp only [wpListIn,hw,if_true]
        refine dH hnd ?_
        refine (lA htab h hg h3 hy).mono ?_
        rintro v w' ⟨s,st',μ',hk,hfr,hE,hh,hR⟩
        exact cont st' μ' v w' s hfr (h.wM hfr hE hh) hR hk
       ·have hw:¬ Region.wanted o (yielded ops a.tmps)=true:=by
         intro e
         exact hgd ((bW h4).1 e d0 gwant rfl)
        simp only [wpListIn,hw]
        exact ⟨fun f _=>rA ro f,cont st μ undef w (.tup .nil) rfl h ⟨[],rfl,rfl⟩ hn⟩
      | false =>
      simp only [hie,cond_false,bN,Q9] at he
      split at he
      ·exact he.elim
      ·rename_i d hd'
       cases hm:bS (d0::lab) d with
       | true=>simp [hm] at he
       | false =>
        simp only [hm,cond_false] at he
        have hlab0:cG st.fr (d0::lab):=by
         intro s d' w x e
         have:=hlab s d' w x e
         simp only [bS]
         cases Nat.beq d0 d' <;> simp [this]
        have hd0:bS (d0::lab) d0=true:=by simp [bS,Nat.beq_refl]
        have hne:d0≠d:=by rintro rfl; rw [hd0] at hm; cases hm
        -- both ways
        have key:∀ v,lH T sr (d0::lab) { fr:=(d,.gd d0 gwant v)::st.fr,hp:=st.hp,nx:=st.nx } K->(evP T.fs (some (d0,gwant)) st sop=.ok v\/∃ p,(aY st.fr 10 d0 gwant->p)/\evP T.fs (some (d0,gwant)) st sop=.side p v) ->
          wpListIn (WF ro) 0 P ops Q (o::r) a w:=by
         intro v hrest hev
         have hlab1:cG ((d,.gd d0 gwant v)::st.fr) (d0::lab):=hlab0.cons (fun d' w x e=>by cases e; exact hd0)
         by_cases hw:Region.wanted o (yielded ops a.tmps)=true
         ·have hg:=(bW h4).1 hw
          have hgd:a.tmps.getD d0 undef=.bool gwant:=hg d0 gwant rfl
          have he':(evP T.fs (some (d0,gwant)) st sop).holds (fun x=>x=v):=by
           rcases hev with e|⟨p,hp,e⟩
           ·rw [e]; rfl
           ·rw [e]; exact ⟨hp (jE h.fr 10 d0 gwant hgd),rfl⟩
          simp only [wpListIn,hw,if_true]
          refine dH hnd ?_
          obtain ⟨s,rfl,hdo⟩:=lB htab.fs (htab.g.at h.hep.frm) h hg h3 he'
          refine hdo.mono ?_
          rintro u w' ⟨hb,hr⟩
          rw [hd']
          refine ih sr (d0::lab) μ _ _ w' h2 hlab1 ((h.below hb).set hlab0 (hdn d hd') hm ?_) hrest
          simp only [bT]
          rw [bL _ _ _ _ hne,hgd]
          exact ⟨fun _=>hr,fun e=>absurd rfl e⟩
         ·have hg:¬ a.tmps.getD d0 undef=.bool gwant:=by
           intro e
           exact hw ((bW h4).2 (fun d' w' e'=>by cases e'; exact e))
          simp only [wpListIn,hw]
          refine ⟨fun f _=>rA ro f,?_⟩
          rw [hd']
          refine ih sr (d0::lab) μ _ _ w h2 hlab1 (h.set hlab0 (hdn d hd') hm ?_) hrest
          simp only [bT]
          rw [bL _ _ _ _ hne]
          exact ⟨fun e=>absurd e hg,fun _=>trivial⟩
        split at he
        ·obtain ⟨hnp,hrest⟩:=he
         have hlab1:cG ((d,.gd d0 gwant .junk)::st.fr) (d0::lab):=hlab0.cons (fun d' w x e=>by cases e; exact hd0)
         by_cases hw:Region.wanted o (yielded ops a.tmps)=true
         ·exact (hnp (jE h.fr 10 d0 gwant ((bW h4).1 hw d0 gwant rfl))).elim
         ·have hg:¬ a.tmps.getD d0 undef=.bool gwant:=by
           intro e
           exact hw ((bW h4).2 (fun d' w' e'=>by cases e'; exact e))
          simp only [wpListIn,hw]
          refine ⟨fun f _=>rA ro f,?_⟩
          rw [hd']
          refine ih sr (d0::lab) μ _ _ w h2 hlab1 (h.set hlab0 (hdn d hd') hm ?_) hrest
          simp only [bT]
          rw [bL _ _ _ _ hne]
          exact ⟨fun e=>absurd e hg,fun _=>trivial⟩
        ·rename_i v hv
         exact key v he (.inl hv)
        ·rename_i p v hv
         exact key v he.2 (.inr ⟨p,he.1,hv⟩)
   ·cases h1
  ·cases hc
theorem iD {μ:Nat->Option (Nat×Nat)} {a:Act} {w:World} {hp:List (Nat×aG)} {nx:Nat} {fr:List (Nat×SV)} (h:aV C μ ⟨fr,hp,nx⟩ a w) :
  ∀ (l:List Nat) (K:List (Nat×SV)->Prop),iC fr l K->∃ fr',K fr'/\cG fr' []/\aV C μ ⟨fr',hp,nx⟩ a w:=by
 intro l
 induction l with
 | nil =>
  intro K hk
  exact ⟨[],hk,fun s d w x e=>by simp [look,get?] at e,h.frame (st:=⟨fr,hp,nx⟩) (fun s=>mA _ _ _)⟩
 | cons n r ih =>
  intro K hk
  simp only [iC,bN] at hk
  split at hk
  ·exact ih K hk
  ·exact ih K hk
  ·rename_i s hnw hnj
   obtain ⟨fr',h1,h2,h3⟩:=ih _ hk
   refine ⟨_,h1,h2.cons (fun d' w x e=>absurd e (hnw d' w x)),?_⟩
   refine h3.frame (st:=⟨fr',hp,nx⟩) (fun m=>?_)
   rw [cL]
   split
   ·rename_i e; subst e; exact h.fr n
   ·exact h3.fr m
end
end Go.Eng
end
section
namespace Go.Eng
open Go Go.RowKit
section
variable {C:Ctx}
theorem sO {k:Keep} {hp:List (Nat×aG)} {fr:List (Nat×SV)}:∀ {fr':List (Nat×SV)},uJ k hp fr fr'->∀ s,(look fr' s=.junk)\/(sub k hp 200 (look fr s) (look fr' s)/\∀ d w x,look fr' s≠.gd d w x):=by
 intro fr'
 induction fr' with
 | nil=>intro _ s; exact .inl rfl
 | cons p r ih =>
  obtain ⟨s0,v⟩:=p
  intro hs s
  rw [cL]
  cases v with
  | gd d w x=>simp only [uJ] at hs; exact hs.1.elim
  | _ =>
   simp only [uJ] at hs
   split
   ·rename_i e
    subst e
    exact .inr ⟨hs.1,by simp⟩
   ·exact ih hs.2 s
theorem Im (hpin:tH C) {nx':Nat} {prs:List (Nat×Nat)} (hk:cY nx' prs=true) (hp:∀ i,i∈C.np->(i,i)∈prs) {μ μ':Nat->Option (Nat×Nat)} (h:∀ id p,C.pin id=some p->μ id=some p)
  (k2:∀ id id' p,get? prs id=some id'->μ id=some p->μ' id'=some p) (k3:∀ c d i p,get? prs c=some d->μ (fid c i)=some p->μ' (fid d i)=some p) (k9:∀ n,n < C.bnd->n < FB->μ' n=μ n):∀ id p,C.pin id=some p->μ' id=some p:=by
 intro id p e
 rcases hpin id p e with hb|⟨hb,hb2⟩
 rotate_left
 ·rw [k9 id hb hb2]; exact h _ _ e
 have hg:=get?_of_mem hk (hp _ hb)
 by_cases hlt:id < FB
 ·simp only [fbase,hlt,if_true] at hg
  exact k2 _ _ _ hg (h _ _ e)
 ·simp only [fbase,hlt,if_false] at hg
  have he:=oL (Nat.not_lt.1 hlt)
  have:=k3 _ _ (id / FB - 1) p hg (by rw [he]; exact h _ _ e)
  rw [he] at this
  exact this
theorem qD (hpin:tH C) {μ:Nat->Option (Nat×Nat)} {st st':St} {a:Act} {w:World} (h:aV C μ st a w) (hlab:cG st.fr []) (hs:nU C.np C.bnd st st'):(∃ μ',aV C μ' st' a w)/\cG st'.fr []:=by
 unfold nU at hs
 rw [Et] at hs
 cases hk:cY st'.nx (jL C.np C.bnd st st') with
 | false=>simp [hk] at hs
 | true =>
  cases hfm:lT st.hp st'.hp (jL C.np C.bnd st st') with
  | false=>simp [hk,hfm] at hs
  | true =>
  cases hpi:mR (jL C.np C.bnd st st') C.np with
  | false=>simp [hk,hfm,hpi] at hs
  | true =>
  cases hlo:tY C.bnd (jL C.np C.bnd st st') with
  | false=>simp [hk,hfm,hpi,hlo] at hs
  | true =>
  cases hbn:Nat.ble C.bnd st'.nx with
  | false=>simp [hk,hfm,hpi,hlo,hbn] at hs
  | true =>
  simp only [hk,hfm,hpi,hlo,hbn,cond_true] at hs
  generalize jL C.np C.bnd st st'=prs at hs hk hfm hpi hlo
  obtain ⟨hfr,hhp⟩:=hs
  obtain ⟨μ',k1,k2,k3,k4,k5,k6,k7,k8,k9⟩:=wO C.bnd h.hep hk hfm hhp (Ek hlo) (Nat.le_of_ble_eq_true hbn)
  have hF:(aC C μ st.hp w).Freed (.keep prs) st.hp (aC C μ' st'.hp w):=by
   refine ⟨fun _=>⟨?_,fun _ _=>rfl⟩,k2,k3,rfl,?_⟩
   ·intro b hb
    refine ⟨hb.1,hb.2.1,?_,hb.2.2.2⟩
    intro i o' c' hg hm
    obtain ⟨m,o,_,ho,e,_⟩:=k1 i o' hg
    rw [e] at hm
    exact hb.2.2.1 m o c' ho hm
   ·intro id o b c hg hm hkp
    have hm':μ id=some (b,c):=hm
    refine ⟨h.hep.lt hg hm',?_,?_,h.hep.obj.plain hg hm'⟩
    ·rcases h.hep.mine id o b c hg hm' with hh|hh
     ·exact .inr (.inl hh)
     ·exact .inr (.inr hh)
    ·intro i o' c2 hg' hm2
     obtain ⟨m,oi,hp1,ho,e,_⟩:=k1 i o' hg'
     rw [e] at hm2
     have:=h.hep.inj _ _ _ _ _ _ _ hg ho hm' hm2
     subst this
     exact k8 _ _ _ hg hkp hp1
  have hsub:∀ s t vs,sub (.keep prs) st.hp 200 s t->R (aC C μ st.hp w) s vs->R (aC C μ' st'.hp w) t vs:=fun s t vs=>fP hF h.hep.obj 200 s t vs
  refine ⟨⟨μ',h.size,h.defers,?_,?_,h.le.trans (hF.le rfl),h.kd⟩,?_⟩
  ·intro s
   rcases sO hfr s with e|⟨e,hnw⟩
   ·rw [e]; exact mA _ _ _
   ·have hold:=h.fr s
    have hR:R (aC C μ st.hp w) (look st.fr s) [a.tmps.getD s undef]:=by
     cases hl:look st.fr s with
     | gd d w' x=>have:=hlab s d w' x hl; simp [bS] at this
     | _=>rw [hl] at hold; exact hold
    exact jW (hsub _ _ _ e hR) hnw
  ·refine ⟨⟨fun id o hg=>(k6 id o hg).2,?_⟩,?_,?_,fun id o hg=>(k6 id o hg).1,k4,k5,Im hpin hk (sG hpi) h.hep.pin k2 k3 k9,h.hep.frm⟩
   ·intro i o' hg
    obtain ⟨m,o,_,ho,e,hso⟩:=k1 i o' hg
    obtain ⟨b,cp,x,e1,e2,e3⟩:=h.hep.obj.obj m o ho
    refine ⟨b,cp,x,e.trans e1,e2,pK hF.le hsub (fun _ _ _ _ e=>e) hso e3⟩
   ·intro i i' o1 o2 b c1 c2 g1 g2 m1 m2
    obtain ⟨d1,p1,q1,ho1,e1,_⟩:=k1 i o1 g1
    obtain ⟨d2,p2,q2,ho2,e2,_⟩:=k1 i' o2 g2
    rw [e1] at m1
    rw [e2] at m2
    have:=h.hep.inj _ _ _ _ _ _ _ ho1 ho2 m1 m2
    subst this
    exact k7 _ _ _ q1 q2
   ·intro i o' b c hg hm
    obtain ⟨d,o,_,ho,e,_⟩:=k1 i o' hg
    rw [e] at hm
    exact h.hep.mine _ _ _ _ ho hm
  ·intro s d w' x e
   rcases sO hfr s with e'|⟨_,hnw⟩
   ·rw [e'] at e; cases e
   ·exact absurd e (hnw d w' x)
end
end Go.Eng
end
section
namespace Go.Eng
open Go Go.RowKit
def xS:SX->List Nat
 | .s n=>[n]
 | .c _=>[]
def xsS:List SX->List Nat
 | []=>[]
 | x::r=>xS x++xsS r
def oxS:Option SX->List Nat
 | none=>[]
 | some x=>xS x
def jM:List (Nat×Nat×SX)->List Nat
 | []=>[]
 | (_,_,x)::r=>xS x++jM r
def mU:SOp->List Nat
 | .move x=>xS x
 | .pick c a b=>xS c++xS a++xS b
 | .load _ _ x=>xS x
 | .fldA _ x=>xS x
 | .idxArr _ _ x i=>xS x++xS i
 | .idxSl _ x i=>xS x++xS i
 | .idxStr x i=>xS x++xS i
 | .idxVal _ _ _ x i=>xS x++xS i
 | .field _ _ _ x=>xS x
 | .nilCheck x=>xS x
 | .lenStr x=>xS x
 | .lenSl x=>xS x
 | .bin _ x y=>xS x++xS y
 | .ptrEq _ x y=>xS x++xS y
 | .eqB _ x y=>xS x++xS y
 | .not x=>xS x
 | .neg x=>xS x
 | .cnv _ x=>xS x
 | .convS x=>xS x
 | .mm _ x y=>xS x++xS y
 | .mm3 x y z=>xS x++xS y++xS z
 | .extract _ x=>xS x
 | .mkfn _ caps=>xsS caps
 | .build _ ps=>jM ps
 | .buildSl _ _ _ _ ps=>jM ps
 | .sliceSl _ x lo hi=>xS x++oxS lo++oxS hi
 | .sliceStr x lo hi=>xS x++oxS lo++oxS hi
 | .call f args=>xS f++xsS args
 | .alloc _ _=>[]
 | .clr _ x=>xS x
 | .arrSl _ _ _ x=>xS x
 | .arrCut _ x h=>xS x++xS h
 | .bad=>[]
 | .slNil _ x y=>xS x++xS y
 | .box _ x=>xS x
 | .store _ x v=>xS x++xS v
 | .mapEq _ x y=>xS x++xS y
 | .eqS _ _ x y=>xS x++xS y
 | .app _ _ _ x y=>xS x++xS y
 | .mkmap _=>[]
 | .mlook _ _ _ m k=>xS m++xS k
 | .mupd _ m k v=>xS m++xS k++xS v
 | .ment _ _ m k=>xS m++xS k
 | .mesto m t v=>xS m++xS t++xS v
 | .mdele _ m k=>xS m++xS k
 | .mlen m=>xS m
 | .mrange m=>xS m
 | .mnext it=>xS it
 | .mentry it=>xS it
def Agree (l:List Nat) (fr fr':List (Nat×SV)):Prop:=∀ t∈l,look fr t=look fr' t
section
variable {fr fr':List (Nat×SV)} {g:Option (Nat×Bool)}
theorem bJ {x:SX} (h:Agree (xS x) fr fr'):gx g fr x=gx g fr' x:=by
 cases x with
 | s n=>simp only [gx]; rw [h n (by simp [xS])]
 | c v=>rfl
theorem oN:∀ {xs:List SX},Agree (xsS xs) fr fr'->gxs g fr xs=gxs g fr' xs:=by
 intro xs
 induction xs with
 | nil=>intro _; rfl
 | cons x r ih =>
  intro h
  simp only [gxs]
  rw [bJ (fun t ht=>h t (by simp [xsS,ht])),ih (fun t ht=>h t (by simp [xsS,ht]))]
theorem yS {x:Option SX} (h:Agree (oxS x) fr fr'):ox g fr x=ox g fr' x:=by
 cases x with
 | none=>rfl
 | some x=>simp only [ox]; rw [bJ h]
theorem pU:∀ {ps:List (Nat×Nat×SX)} {l:SV},Agree (jM ps) fr fr'->jP g fr ps l=jP g fr' ps l:=by
 intro ps
 induction ps with
 | nil=>intro l _; rfl
 | cons p r ih =>
  obtain ⟨a,b,x⟩:=p
  intro l h
  simp only [jP]
  rw [bJ (x:=x) (fun t ht=>h t (by simp [jM,ht]))]
  have:∀ l,jP g fr r l=jP g fr' r l:=fun l=>ih (fun t ht=>h t (by simp [jM,ht]))
  simp only [this]
theorem lW {c x:SX} {want:Bool} (h:Agree (xS x) fr fr'):hO g fr c want x=hO g fr' c want x:=by
 cases x with
 | s n=>simp only [hO]; rw [h n (by simp [xS])]
 | c v=>rfl
theorem Agree.l {a b:List Nat} (h:Agree (a++b) fr fr'):Agree a fr fr':=fun t ht=>h t (by simp [ht])
theorem Agree.r {a b:List Nat} (h:Agree (a++b) fr fr'):Agree b fr fr':=fun t ht=>h t (by simp [ht])
theorem oH {tab:List (Nat×cH)} {hp:List (Nat×aG)} {nx nx':Nat} {so:SOp} (h:Agree (mU so) fr fr'):evP tab g ⟨fr,hp,nx⟩ so=evP tab g ⟨fr',hp,nx'⟩ so:=by
 cases so <;> (try simp only [mU] at h) <;> (try simp only [evP]) <;> first
  | rfl
  | rw [bJ h]
  | rw [bJ h.l,bJ h.r]
  | rw [bJ h.l,oN h.r]
  | rw [bJ h.l]
  | rw [oN h]
  | rw [pU h]
  | rw [bJ h.l.l,yS h.l.r,yS h.r]
  | rw [bJ h.l.l,bJ h.l.r,bJ h.r]
  | (unfold uZ; rw [bJ h.l.l,lW h.l.r,lW h.r])
theorem tR {T:Tb} {hp:List (Nat×aG)} {nx:Nat} {so:SOp} {K:SV->List (Nat×aG)->Nat->Prop} (h:Agree (mU so) fr fr') (he:evE T g ⟨fr,hp,nx⟩ (fun s st=>K s st.hp st.nx) so) :
  evE T g ⟨fr',hp,nx⟩ (fun s st=>K s st.hp st.nx) so:=by
 cases so <;> (try simp only [mU] at h) <;> (try simp only [evE,qF] at he ⊢) <;> first
  | exact he
  | (rw [bJ h] at he; exact he)
  | (rw [pU h] at he; exact he)
  | (rw [bJ h.l,bJ h.r] at he; exact he)
  | (rw [bJ h.l.l,bJ h.l.r,bJ h.r] at he; exact he)
  | (simp only [Cx] at he ⊢; rw [bJ h.l,bJ h.r] at he; exact he)
  | (rw [bJ h.l,oN h.r] at he; simp only [qP] at he ⊢; exact he)
end
def dN (s:SV) (k:SV->Prop):Prop :=
 bC s fun s=>match s with
 | .gd _ _ _=>False
 | s=>k s
structure aQ where
 o:bI
 pre:List Nat
 tp:Nat
 eff:Bool
inductive cA where
 | done
 | none
 | pure (i:Nat) (o:bI) (rest:cA)
 | eff (i:Nat) (o:bI) (stab:List bI) (sub alt:cA)
 deriving Repr
def gV:SOp->Bool
 | .load ..=>true
 | .call ..=>true
 | _=>false
def kU (tab:List (Nat×cH)) (fr:List (Nat×SV)) (hp:List (Nat×aG)) (nx:Nat) (hp':List (Nat×aG)) (nx':Nat):List bI->Prop
 | []=>True
 | o::r=>evP tab o.guard ⟨fr,hp',nx'⟩ o.op=evP tab o.guard ⟨fr,hp,nx⟩ o.op/\kU tab fr hp nx hp' nx' r
def pH (d:Option Nat) (s:SV) (fr:List (Nat×SV)) (k:List (Nat×SV)->Prop):Prop :=
 match d with
 | none=>k fr
 | some d=>dN s fun s=>k ((d,s)::fr)
def evD (T:Tb):cA->List (Nat×SV)->List (Nat×aG)->Nat->(St->Prop)->Prop
 | .done,fr,hp,nx,k=>k ⟨fr,hp,nx⟩
 | .none,_,_,_,_=>True
 | .pure _ o rest,fr,hp,nx,k=>match o.dst with
  | none=>False
  | some d=>match o.guard with
   | none=>match evP T.fs none ⟨fr,hp,nx⟩ o.op with
    | .fail=>False
    | .ok v=>dN v fun v=>evD T rest ((d,v)::fr) hp nx k
    | .side p v=>p/\dN v fun v=>evD T rest ((d,v)::fr) hp nx k
   | some (d0,w)=>match evP T.fs (some (d0,w)) ⟨fr,hp,nx⟩ o.op with
    | .fail=>(aY fr 10 d0 w->False)/\evD T rest ((d,.gd d0 w .junk)::fr) hp nx k
    | .ok v=>bC v fun v=>evD T rest ((d,.gd d0 w v)::fr) hp nx k
    | .side p v=>(aY fr 10 d0 w->p)/\bC v fun v=>evD T rest ((d,.gd d0 w v)::fr) hp nx k
 | .eff _ o stab sub alt,fr,hp,nx,k =>
  (match o.guard with
   | none=>evE T none ⟨fr,hp,nx⟩ (fun s st'=>stK st' fun hp' nx'=>kU T.fs fr hp nx hp' nx' stab/\pH o.dst s fr fun fr'=>evD T sub fr' hp' nx' k) o.op
   | some (d0,w)=>fV fr 10 d0 w (evE T (some (d0,w)) ⟨fr,hp,nx⟩ (fun s st'=>stK st' fun hp' nx'=>kU T.fs fr hp nx hp' nx' stab/\pH o.dst s fr fun fr'=>evD T sub fr' hp' nx' k) o.op)
     (pH o.dst (.tup .nil) fr fun fr'=>evD T sub fr' hp nx k)) /\
  evD T alt fr hp nx k
def jO (S:List Nat):List Nat->Bool
 | []=>true
 | p::r=>bif bS S p then jO S r else false
theorem gG {S:List Nat}:∀ {l:List Nat},jO S l=true ↔ ∀ p∈l,p∈S:=by
 intro l
 induction l with
 | nil=>simp [jO]
 | cons a r ih =>
  simp only [jO]
  cases h:bS S a with
  | true=>simp [ih,eM.1 h]
  | false =>
   simp only [cond_false,Bool.false_eq_true,List.mem_cons,forall_eq_or_imp,false_iff,not_and]
   intro ha
   rw [eM.2 ha] at h
   cases h
def uC (I:List aQ) (S:List Nat):List aQ->Nat->Option (Nat×aQ)
 | [],_=>none
 | x::r,i=>bif !x.eff && !bS S i && jO S x.pre then some (i,x) else uC I S r (i+1)
def lV (S:List Nat):List aQ->Nat->List (Nat×aQ)
 | [],_=>[]
 | x::r,i=>bif x.eff && !bS S i && jO S x.pre then (i,x)::lV S r (i+1) else lV S r (i+1)
def uI (I:List aQ) (tp:Nat):List Nat->List bI
 | []=>[]
 | j::r=>match I[j]? with
  | some y=>bif !y.eff && gV y.o.op && !tp.testBit j then y.o::uI I tp r else uI I tp r
  | none=>uI I tp r
def mH (f:List Nat->Option cA) (I:List aQ) (S:List Nat):List (Nat×aQ)->Option cA
 | []=>some .none
 | (e,x)::r=>match f (e::S) with
  | some sub=>match mH f I S r with
   | some alt=>some (.eff e x.o (uI I x.tp S) sub alt)
   | none=>none
  | none=>none
def upL:Nat->List Nat
 | 0=>[]
 | n+1=>n::upL n
def oB (I:List aQ):Nat->List Nat->Option cA
 | 0,_=>none
 | f+1,S=>bif jO S (upL I.length) then some .done else
  match uC I S I 0 with
  | some (i,x)=>match oB I f (i::S) with
   | some t=>some (.pure i x.o t)
   | none=>none
  | none=>mH (oB I f) I S (lV S I 0)
def Closed (I:List aQ) (S:List Nat):Prop:=∀ i x,I[i]?=some x->x.eff=false->(∀ p∈x.pre,p∈S)->i∈S
def dK (I:List aQ):Option (List Nat)->List Nat->cA->Prop
 | none,S,.done=>∀ i,i < I.length->i∈S
 | none,S,.pure i o rest=>(∃ x,I[i]?=some x/\x.o=o/\x.eff=false/\i ∉ S/\∀ p∈x.pre,p∈S)/\dK I none (i::S) rest
 | none,S,.eff e o st sub alt=>Closed I S/\(∃ i,i < I.length/\i ∉ S) /\
   (∃ x,I[e]?=some x/\x.o=o/\x.eff=true/\e ∉ S/\(∀ p∈x.pre,p∈S)/\∀ j∈S,∀ y,I[j]?=some y->y.eff=false->gV y.o.op=true->x.tp.testBit j=false->y.o∈st)/\dK I none (e::S) sub/\dK I (some [e]) S alt
 | none,S,.none=>Closed I S/\(∃ i,i < I.length/\i ∉ S)/\∀ e x,I[e]?=some x->x.eff=true->e ∉ S->(∀ p∈x.pre,p∈S)->False
 | some es,S,.eff e o st sub alt =>
   (∃ x,I[e]?=some x/\x.o=o/\x.eff=true/\e ∉ S/\(∀ p∈x.pre,p∈S)/\∀ j∈S,∀ y,I[j]?=some y->y.eff=false->gV y.o.op=true->x.tp.testBit j=false->y.o∈st)/\dK I none (e::S) sub/\dK I (some (e::es)) S alt
 | some es,S,.none=>∀ e x,I[e]?=some x->x.eff=true->e ∉ S->(∀ p∈x.pre,p∈S)->e∈es
 | some _,_,_=>False
theorem Fa {I:List aQ} {tp:Nat}:∀ {S:List Nat} {j:Nat} {y:aQ},j∈S->I[j]?=some y->y.eff=false->gV y.o.op=true->tp.testBit j=false->y.o∈uI I tp S:=by
 intro S
 induction S with
 | nil=>intro j y h; cases h
 | cons a r ih =>
  intro j y h h1 h2 h3 h4
  simp only [uI]
  rcases List.mem_cons.1 h with rfl|h
  ·rw [h1]
   simp [h2,h3,h4]
  ·have:=ih h h1 h2 h3 h4
   split
   ·rename_i z hz
    cases (!z.eff && gV z.o.op && !tp.testBit a) with
    | true=>simp only [cond_true]; exact List.mem_cons_of_mem _ this
    | false=>exact this
   ·exact this
theorem Bq {I:List aQ} {U:List Nat}:∀ {l:List aQ} {k i:Nat} {x:aQ},uC I U l k=some (i,x)->∃ j,i=k+j/\l[j]?=some x/\x.eff=false/\i ∉ U/\∀ p∈x.pre,p∈U:=by
 intro l
 induction l with
 | nil=>intro k i x h; cases h
 | cons a r ih =>
  intro k i x h
  simp only [uC] at h
  cases hb:(!a.eff && !bS U k && jO U a.pre) with
  | true =>
   simp only [hb,cond_true,Option.some.injEq,Prod.mk.injEq] at h
   obtain ⟨rfl,rfl⟩:=h
   simp only [Bool.and_eq_true,Bool.not_eq_true'] at hb
   refine ⟨0,rfl,rfl,hb.1.1,?_,gG.1 hb.2⟩
   intro hm
   rw [eM.2 hm] at hb
   exact absurd hb.1.2 (by simp)
  | false =>
   simp only [hb,cond_false] at h
   obtain ⟨j,e,h1,h2⟩:=ih h
   exact ⟨j+1,by omega,h1,h2⟩
theorem Bp {I:List aQ} {U:List Nat}:∀ {l:List aQ} {k:Nat},uC I U l k=none->∀ j x,l[j]?=some x->x.eff=false->(∀ p∈x.pre,p∈U)->k+j∈U:=by
 intro l
 induction l with
 | nil=>intro k _ j x h; simp at h
 | cons a r ih =>
  intro k h j x hj he hp
  simp only [uC] at h
  cases hb:(!a.eff && !bS U k && jO U a.pre) with
  | true=>simp [hb] at h
  | false =>
   simp only [hb,cond_false] at h
   cases j with
   | zero =>
    simp only [List.getElem?_cons_zero,Option.some.injEq] at hj
    subst hj
    rw [gG.2 hp,he] at hb
    simp only [Bool.not_false,Bool.true_and,Bool.and_true,Bool.not_eq_false'] at hb
    exact eM.1 hb
   | succ j =>
    have:=ih h j x (by simpa using hj) he hp
    rw [show k+(j+1)=k+1+j by omega]
    exact this
theorem uB {U:List Nat}:∀ {l:List aQ} {k:Nat} {p:Nat×aQ},p∈lV U l k ↔ ∃ j,p.1=k+j/\l[j]?=some p.2/\p.2.eff=true/\p.1 ∉ U/\∀ q∈p.2.pre,q∈U:=by
 intro l
 induction l with
 | nil=>intro k p; simp [lV]
 | cons a r ih =>
  intro k p
  simp only [lV]
  have tail:(∃ j,p.1=k+1+j/\r[j]?=some p.2/\p.2.eff=true/\p.1 ∉ U/\∀ q∈p.2.pre,q∈U) ↔ ∃ j,p.1=k+(j+1)/\(a::r)[j+1]?=some p.2/\p.2.eff=true/\p.1 ∉ U/\∀ q∈p.2.pre,q∈U:=by
   constructor <;> rintro ⟨j,h1,h2⟩ <;> exact ⟨j,by omega,by simpa using h2⟩
  cases hb:(a.eff && !bS U k && jO U a.pre) with
  | true =>
   simp only [cond_true,List.mem_cons,ih,tail]
   simp only [Bool.and_eq_true,Bool.not_eq_true'] at hb
   constructor
   ·rintro (rfl|⟨j,h⟩)
    ·refine ⟨0,rfl,rfl,hb.1.1,?_,gG.1 hb.2⟩
     intro hm
     have:=hb.1.2
     rw [eM.2 hm] at this
     cases this
    ·exact ⟨j+1,h⟩
   ·rintro ⟨j,h1,h2,h3⟩
    cases j with
    | zero =>
     left
     simp only [List.getElem?_cons_zero,Option.some.injEq] at h2
     obtain ⟨p1,p2⟩:=p
     simp only at h1 h2
     rw [h1,h2]
     rfl
    | succ j=>exact .inr ⟨j,h1,h2,h3⟩
  | false =>
   simp only [cond_false,ih,tail]
   constructor
   ·rintro ⟨j,h⟩; exact ⟨j+1,h⟩
   ·rintro ⟨j,h1,h2,h3,h4,h5⟩
    cases j with
    | zero =>
     simp only [List.getElem?_cons_zero,Option.some.injEq] at h2
     exfalso
     rw [h2,h3,gG.2 h5] at hb
     have h1':p.1=k:=h1
     rw [h1'] at h4
     have:bS U k=false:=by
      cases hm:bS U k with
      | false=>rfl
      | true=>exact absurd (eM.1 hm) h4
     simp [this] at hb
    | succ j=>exact ⟨j,h1,h2,h3,h4,h5⟩
theorem Dk {i:Nat}:∀ {n:Nat},i∈upL n ↔ i < n:=by
 intro n
 induction n with
 | zero=>simp [upL]
 | succ n ih=>simp only [upL,List.mem_cons,ih]; omega
theorem Dx {I:List aQ} {f:List Nat->Option cA} (hf:∀ S t,f S=some t->dK I none S t) {S:List Nat}:∀ (l:List (Nat×aQ)) (es:List Nat) (t:cA),mH f I S l=some t ->
  (∀ p∈l,I[p.1]?=some p.2/\p.2.eff=true/\p.1 ∉ S/\∀ q∈p.2.pre,q∈S)->(∀ e x,I[e]?=some x->x.eff=true->e ∉ S->(∀ p∈x.pre,p∈S)->e∈es\/∃ p∈l,p.1=e)->dK I (some es) S t:=by
 intro l
 induction l with
 | nil =>
  intro es t h _ h2
  simp only [mH,Option.some.injEq] at h
  subst h
  intro e x h3 h4 h5 h6
  rcases h2 e x h3 h4 h5 h6 with h|⟨p,hp,_⟩
  ·exact h
  ·cases hp
 | cons p r ih =>
  obtain ⟨e,x⟩:=p
  intro es t h h1 h2
  simp only [mH] at h
  split at h
  ·rename_i sub hs
   split at h
   ·rename_i alt ha
    cases h
    obtain ⟨g1,g2,g3,g4⟩:=h1 (e,x) (List.mem_cons_self ..)
    refine ⟨⟨x,g1,rfl,g2,g3,g4,fun j hj y hy he hr ht=>Fa hj hy he hr ht⟩,hf _ _ hs,ih (e::es) alt ha (fun p hp=>h1 p (List.mem_cons_of_mem _ hp)) ?_⟩
    intro e' x' h3 h4 h5 h6
    rcases h2 e' x' h3 h4 h5 h6 with h|⟨p,hp,hpe⟩
    ·exact .inl (List.mem_cons_of_mem _ h)
    ·rcases List.mem_cons.1 hp with rfl|hp
     ·exact .inl (by rw [<- hpe]; exact List.mem_cons_self ..)
     ·exact .inr ⟨p,hp,hpe⟩
   ·cases h
  ·cases h
theorem tO {I:List aQ}:∀ (f:Nat) (S:List Nat) (t:cA),oB I f S=some t->dK I none S t:=by
 intro f
 induction f with
 | zero=>intro S t h; cases h
 | succ f ih =>
  intro S t h
  simp only [oB] at h
  cases ha:jO S (upL I.length) with
  | true =>
   simp only [ha,cond_true,Option.some.injEq] at h
   subst h
   exact fun i hi=>gG.1 ha i (Dk.2 hi)
  | false =>
   simp only [ha,cond_false] at h
   have left:∃ i,i < I.length/\i ∉ S:=by
    refine Classical.byContradiction fun hn=>?_
    have:jO S (upL I.length)=true:=gG.2 fun p hp=>Classical.byContradiction fun hp2=>hn ⟨p,Dk.1 hp,hp2⟩
    rw [this] at ha
    cases ha
   split at h
   ·rename_i i x hn
    split at h
    ·rename_i t' ht
     cases h
     obtain ⟨j,e,h1,h2,h3,h4⟩:=Bq hn
     rw [Nat.zero_add] at e
     subst e
     exact ⟨⟨x,h1,rfl,h2,h3,h4⟩,ih _ _ ht⟩
    ·cases h
   ·rename_i hn
    have hcl:Closed I S:=fun i x h1 h2 h3=>by simpa using Bp hn i x h1 h2 h3
    have hmem:∀ p∈lV S I 0,I[p.1]?=some p.2/\p.2.eff=true/\p.1 ∉ S/\∀ q∈p.2.pre,q∈S:=by
     intro p hp
     obtain ⟨j,e,h1⟩:=uB.1 hp
     rw [Nat.zero_add] at e
     rw [e]
     rw [e] at h1
     exact h1
    have hall:∀ e x,I[e]?=some x->x.eff=true->e ∉ S->(∀ p∈x.pre,p∈S)->e∈([]:List Nat)\/∃ p∈lV S I 0,p.1=e:=by
     intro e x h1 h2 h3 h4
     exact .inr ⟨(e,x),uB.2 ⟨e,by simp,h1,h2,h3,h4⟩,rfl⟩
    cases hl:lV S I 0 with
    | nil =>
     rw [hl] at h hall
     simp only [mH,Option.some.injEq] at h
     subst h
     refine ⟨hcl,left,fun e x h1 h2 h3 h4=>?_⟩
     rcases hall e x h1 h2 h3 h4 with hh|⟨p,hp,_⟩
     ·cases hh
     ·cases hp
    | cons p r =>
     have hc:=Dx ih (lV S I 0) [] t h hmem hall
     rw [hl] at h
     obtain ⟨e,x⟩:=p
     simp only [mH] at h
     split at h
     ·split at h
      ·cases h
       exact ⟨hcl,left,hc⟩
      ·cases h
     ·cases h
end Go.Eng
end
section
namespace Go.Eng
open Go Go.RowKit
def bP (o:Oper):List Nat:=(o.after.toList.filter (Region.binds .any)).map (·.on)
def iN (acc:List aQ):List Nat->Nat
 | []=>0
 | p::r=>iN acc r ||| (1 <<< p) ||| (match acc[p]? with|some y=>y.tp|none=>0)
def Gn (hint:List Nat) (o:bI):Bool :=
 match o.op with
 | .call _ _=>match o.dst with
  | some d=>bS hint d
  | none=>true
 | .buildSl _ _ _ _ _=>match o.dst with
  | some d=>bS hint d
  | none=>false
 | op=>Kt op
def iY (n:Nat):List Nat->Bool
 | []=>true
 | p::r=>bif Nat.blt p n then iY n r else false
def dI (o:bI):List Nat:=mU o.op++(match o.guard with|some (d,_)=>[d]|none=>[])
def uE (o:bI):Bool:=match o.dst with
 | some d=>!bS (dI o) d
 | none=>true
def mkI (hint:List Nat):List Oper->List bI->List aQ->Option (List aQ)
 | [],[],acc=>some acc
 | o::r,s::t,acc=>bif iY acc.length (bP o) then bif (Gn hint s || s.dst.isSome) && uE s then mkI hint r t (acc++[⟨s,bP o,iN acc (bP o),Gn hint s⟩]) else none else none
 | _,_,_=>none
def gQ (o:bI):List Nat :=
 mU o.op++(match o.guard with|some (d,_)=>[d]|none=>[])++(match o.dst with|some d=>[d]|none=>[])
def zS (tp i t:Nat):List aQ->Nat->Bool
 | [],_=>true
 | y::r,j=>match y.o.dst with
  | some d=>bif Nat.beq d t && !Nat.beq i j && !tp.testBit j then false else zS tp i t r (j+1)
  | none=>zS tp i t r (j+1)
def Ep (I:List aQ) (tp i:Nat):List Nat->Bool
 | []=>true
 | t::r=>bif zS tp i t I 0 then Ep I tp i r else false
def zG (I:List aQ):List aQ->Nat->Bool
 | [],_=>true
 | x::r,i=>bif Ep I x.tp i (gQ x.o) then zG I r (i+1) else false
def tP (P:Program) (n:Nat) (hint:List Nat) (ops:List Oper):Option cA :=
 bif P.follows .mixedOrders then
  match eO P n ops ops with
  | some sl=>match mkI hint ops sl [] with
   | some I=>bif zG I I 0 then oB I (I.length+1) [] else none
   | none=>none
  | none=>none
 else none
structure DOk (P:Program) (n:Nat) (ops:Array Oper) (I:List aQ):Prop where
 len:I.length<=ops.size
 op:∀ (i:Nat) (o:Oper),i < I.length->ops[i]?=some o->∃ x:aQ,I[i]?=some x/\lQ P n ops.toList o=some x.o/\x.pre=bP o
 lt:∀ (i:Nat) (x:aQ),I[i]?=some x->∀ p∈x.pre,p < i
 tp:∀ (i:Nat) (x:aQ),I[i]?=some x->∀ j,x.tp.testBit j=true->j∈x.pre\/∃ p∈x.pre,∃ y,I[p]?=some y/\y.tp.testBit j=true
 nm:∀ (i j:Nat) (x y:aQ) (t:Nat),I[i]?=some x->I[j]?=some y->t∈gQ x.o->y.o.dst=some t->i≠j->x.tp.testBit j=true
 dst:∀ (i:Nat) (x:aQ),I[i]?=some x->x.eff=false->∃ d,x.o.dst=some d
 own:∀ (i:Nat) (x:aQ),I[i]?=some x->uE x.o=true
theorem mB {n:Nat}:∀ {l:List Nat},iY n l=true->∀ p∈l,p < n:=by
 intro l
 induction l with
 | nil=>intro _ p h; cases h
 | cons a r ih =>
  intro h p hp
  simp only [iY] at h
  cases hb:Nat.blt a n with
  | false=>simp [hb] at h
  | true =>
   simp only [hb,cond_true] at h
   rcases List.mem_cons.1 hp with rfl|hp
   ·exact Nat.le_of_ble_eq_true (n:=p+1) hb
   ·exact ih h p hp
theorem rX {acc:List aQ} {j:Nat}:∀ {l:List Nat},(iN acc l).testBit j=true->j∈l\/∃ p∈l,∃ y,acc[p]?=some y/\y.tp.testBit j=true:=by
 intro l
 induction l with
 | nil=>intro h; simp [iN] at h
 | cons p r ih =>
  intro h
  simp only [iN,Nat.testBit_or,Bool.or_eq_true] at h
  rcases h with (h|h)|h
  ·rcases ih h with h|⟨q,h1,h2⟩
   ·exact .inl (List.mem_cons_of_mem _ h)
   ·exact .inr ⟨q,List.mem_cons_of_mem _ h1,h2⟩
  ·left
   rw [Nat.one_shiftLeft,Nat.testBit_two_pow] at h
   have:p=j:=by simpa using h
   subst this
   exact List.mem_cons_self ..
  ·split at h
   ·rename_i y hy
    exact .inr ⟨p,List.mem_cons_self ..,y,hy,h⟩
   ·simp at h
theorem Pv {P:Program} {n:Nat} {ops:List Oper} {hint:List Nat}:∀ (l:List Oper) (sl:List bI) (acc I:List aQ) (done rest:List Oper),ops=done++l++rest->eO P n ops l=some sl->mkI hint l sl acc=some I->acc.length=done.length ->
  (∀ (i:Nat) (x:aQ),acc[i]?=some x->(∃ o,done[i]?=some o/\lQ P n ops o=some x.o/\x.pre=bP o)/\(∀ p∈x.pre,p < i)/\(∀ j,x.tp.testBit j=true->j∈x.pre\/∃ p∈x.pre,∃ y,acc[p]?=some y/\y.tp.testBit j=true)/\(x.eff=false->∃ d,x.o.dst=some d)/\uE x.o=true) ->
  I.length+rest.length=ops.length/\∀ (i:Nat) (x:aQ),I[i]?=some x->(∃ o,ops[i]?=some o/\lQ P n ops o=some x.o/\x.pre=bP o)/\(∀ p∈x.pre,p < i)/\(∀ j,x.tp.testBit j=true->j∈x.pre\/∃ p∈x.pre,∃ y,I[p]?=some y/\y.tp.testBit j=true)/\(x.eff=false->∃ d,x.o.dst=some d)/\uE x.o=true:=by
 intro l
 induction l with
 | nil =>
  intro sl acc I done rest ho hc hm hl hacc
  simp only [eO,Option.some.injEq] at hc
  subst hc
  simp only [mkI,Option.some.injEq] at hm
  subst hm
  simp only [List.append_nil] at ho
  subst ho
  refine ⟨by simp [hl],fun i x hx=>?_⟩
  obtain ⟨⟨o,e1,e2⟩,e3⟩:=hacc i x hx
  exact ⟨⟨o,by rw [List.getElem?_append_left (List.getElem?_eq_some_iff.1 e1).1]; exact e1,e2⟩,e3⟩
 | cons o r ih =>
  intro sl acc I done rest ho hc hm hl hacc
  simp only [eO] at hc
  split at hc
  ·rename_i so sr h1 h2
   cases hc
   simp only [mkI] at hm
   cases hb1:iY acc.length (bP o) with
   | false=>simp [hb1] at hm
   | true =>
   cases hb2:((Gn hint so || so.dst.isSome) && uE so) with
   | false=>simp [hb1,hb2] at hm
   | true =>
   simp only [hb1,hb2,cond_true] at hm
   simp only [Bool.and_eq_true] at hb2
   refine ih sr _ I (done++[o]) rest (by rw [ho]; simp) h2 hm (by simp [hl]) ?_
   intro i x hx
   have grow:∀ {p:Nat} {y:aQ},acc[p]?=some y->(acc++[⟨so,bP o,iN acc (bP o),Gn hint so⟩])[p]?=some y:=by
    intro p y e
    rw [List.getElem?_append_left (List.getElem?_eq_some_iff.1 e).1]
    exact e
   by_cases hi:i < acc.length
   ·rw [List.getElem?_append_left hi] at hx
    obtain ⟨⟨o',e1,e2⟩,e3,e4,e5⟩:=hacc i x hx
    refine ⟨⟨o',?_,e2⟩,e3,fun j hj=>?_,e5⟩
    ·rw [List.getElem?_append_left (by omega)]; exact e1
    ·rcases e4 j hj with h|⟨p,hp,y,hy,hb⟩
     ·exact .inl h
     ·exact .inr ⟨p,hp,y,grow hy,hb⟩
   ·rw [List.getElem?_append_right (by omega)] at hx
    have hi0:i - acc.length=0:=by
     have:=(List.getElem?_eq_some_iff.1 hx).1
     simp at this
     omega
    rw [hi0] at hx
    simp only [List.getElem?_cons_zero,Option.some.injEq] at hx
    subst hx
    have hil:i=acc.length:=by omega
    subst hil
    refine ⟨⟨o,?_,h1,rfl⟩,mB hb1,fun j hj=>?_,fun he=>?_,hb2.2⟩
    ·rw [hl,List.getElem?_append_right (Nat.le_refl _)]; simp
    ·rcases rX hj with h|⟨p,hp,y,hy,hb⟩
     ·exact .inl h
     ·exact .inr ⟨p,hp,y,grow hy,hb⟩
    ·have he':Gn hint so=false:=he
     have h1:=hb2.1
     rw [he'] at h1
     simp only [Bool.false_or] at h1
     exact Option.isSome_iff_exists.1 h1
  ·cases hc
theorem Jz {tp i t:Nat}:∀ {l:List aQ} {k:Nat},zS tp i t l k=true->∀ (j:Nat) (y:aQ),l[j]?=some y->y.o.dst=some t->i≠k+j->tp.testBit (k+j)=true:=by
 intro l
 induction l with
 | nil=>intro k _ j y h; simp at h
 | cons a r ih =>
  intro k h j y hy hd hne
  have key:zS tp i t r (k+1)=true/\(a.o.dst=some t->i≠k->tp.testBit k=true):=by
   simp only [zS] at h
   split at h
   ·rename_i d had
    cases hb:(Nat.beq d t && !Nat.beq i k && !tp.testBit k) with
    | true=>simp [hb] at h
    | false =>
     simp only [hb,cond_false] at h
     refine ⟨h,fun e hik=>?_⟩
     rw [had] at e
     cases e
     have:Nat.beq i k=false:=by
      cases e:Nat.beq i k with
      | false=>rfl
      | true=>exact absurd (Nat.eq_of_beq_eq_true e) hik
     simp [this,Nat.beq_refl] at hb
     exact hb
   ·rename_i had
    exact ⟨h,fun e=>by rw [had] at e; cases e⟩
  cases j with
  | zero =>
   simp only [List.getElem?_cons_zero,Option.some.injEq] at hy
   subst hy
   exact key.2 hd hne
  | succ j =>
   rw [show k+(j+1)=k+1+j by omega]
   exact ih key.1 j y (by simpa using hy) hd (by omega)
theorem H7 {I:List aQ} {tp i:Nat}:∀ {l:List Nat},Ep I tp i l=true->∀ t∈l,zS tp i t I 0=true:=by
 intro l
 induction l with
 | nil=>intro _ t h; cases h
 | cons a r ih =>
  intro h t ht
  simp only [Ep] at h
  cases hb:zS tp i a I 0 with
  | false=>simp [hb] at h
  | true =>
   simp only [hb,cond_true] at h
   rcases List.mem_cons.1 ht with rfl|ht
   ·exact hb
   ·exact ih h t ht
theorem I8 {I:List aQ}:∀ {l:List aQ} {k:Nat},zG I l k=true->∀ (j:Nat) (x:aQ),l[j]?=some x->Ep I x.tp (k+j) (gQ x.o)=true:=by
 intro l
 induction l with
 | nil=>intro k _ j x h; simp at h
 | cons a r ih =>
  intro k h j x hx
  simp only [zG] at h
  cases hb:Ep I a.tp k (gQ a.o) with
  | false=>simp [hb] at h
  | true =>
   simp only [hb,cond_true] at h
   cases j with
   | zero =>
    simp only [List.getElem?_cons_zero,Option.some.injEq] at hx
    subst hx
    exact hb
   | succ j =>
    rw [show k+(j+1)=k+1+j by omega]
    exact ih h j x (by simpa using hx)
theorem Gk {P:Program} {n:Nat} {hint:List Nat} {ops:Array Oper} {l rest:List Oper} {sl:List bI} {I:List aQ} (hl:ops.toList=l++rest) (hsl:eO P n ops.toList l=some sl) (hI:mkI hint l sl []=some I) (hs:zG I I 0=true) :
  DOk P n ops I/\I.length=l.length:=by
 obtain ⟨h1,h2⟩:=Pv l sl [] I [] rest (by simpa using hl) hsl hI rfl (by intro i x hx; simp at hx)
 have h3:I.length=l.length:=by
  have:=congrArg List.length hl
  simp only [List.length_append] at this
  omega
 refine ⟨⟨?_,?_,fun i x hx=>(h2 i x hx).2.1,fun i x hx=>(h2 i x hx).2.2.1,?_,fun i x hx=>(h2 i x hx).2.2.2.1,fun i x hx=>(h2 i x hx).2.2.2.2⟩,h3⟩
 ·have:ops.toList.length=ops.size:=by simp
  omega
 ·intro i o hlt ho
  obtain ⟨⟨o',e1,e2,e3⟩,_⟩:=h2 i I[i] (List.getElem?_eq_getElem hlt)
  have ho':ops.toList[i]?=some o:=by simpa using ho
  rw [ho'] at e1
  cases e1
  exact ⟨I[i],List.getElem?_eq_getElem hlt,e2,e3⟩
 ·intro i j x y t hx hy ht hd hne
  have:=Jz (H7 (I8 hs i x hx) t ht) j y hy hd (by omega)
  simpa using this
theorem Gc {P:Program} {n:Nat} {hint:List Nat} {ops:Array Oper} {t:cA} (h:tP P n hint ops.toList=some t):P.follows .mixedOrders=true/\∃ I,DOk P n ops I/\I.length=ops.size/\dK I none [] t:=by
 unfold tP at h
 cases hf:P.follows .mixedOrders with
 | false=>simp [hf] at h
 | true =>
 simp only [hf,cond_true] at h
 split at h
 ·rename_i sl hsl
  split at h
  ·rename_i I hI
   cases hs:zG I I 0 with
   | false=>simp [hs] at h
   | true =>
   simp only [hs,cond_true] at h
   obtain ⟨h1,h2⟩:=Gk (rest:=[]) (by simp) hsl hI hs
   exact ⟨rfl,I,h1,by simpa using h2,tO _ _ _ h⟩
  ·cases h
 ·cases h
def rD (m:Nat):Nat->Bool
 | 0=>true
 | n+1=>bif m.testBit n then rD m n else false
theorem Ag {m:Nat}:∀ {n:Nat},rD m n=true->∀ i,i < n->m.testBit i=true:=by
 intro n
 induction n with
 | zero=>intro _ i hi; omega
 | succ n ih =>
  intro h i hi
  simp only [rD] at h
  cases hb:m.testBit n with
  | false=>simp [hb] at h
  | true =>
   simp only [hb,cond_true] at h
   by_cases e:i=n
   ·rw [e]; exact hb
   ·exact ih h i (by omega)
def sS:Nat->List Oper->Bool
 | _,[]=>true
 | n,o::r=>bif bS (bP o) n && iY (n+1) (bP o) then sS (n+1) r else false
theorem Ch:∀ {l:List Oper} {n:Nat},sS n l=true->∀ j o,l[j]?=some o->n+j∈bP o/\∀ p∈bP o,p < n+j+1:=by
 intro l
 induction l with
 | nil=>intro n _ j o h; simp at h
 | cons a r ih =>
  intro n h j o ho
  simp only [sS] at h
  cases hb:(bS (bP a) n && iY (n+1) (bP a)) with
  | false=>simp [hb] at h
  | true =>
   simp only [hb,cond_true] at h
   simp only [Bool.and_eq_true] at hb
   cases j with
   | zero =>
    simp only [List.getElem?_cons_zero,Option.some.injEq] at ho
    subst ho
    exact ⟨eM.1 hb.1,mB hb.2⟩
   | succ j =>
    simp only [List.getElem?_cons_succ] at ho
    have:=ih h j o ho
    have e:n+1+j=n+(j+1):=by omega
    rw [e] at this
    exact this
def mD (P:Program) (n:Nat) (hint:List Nat) (ops:List Oper) (k:Nat):Option (cA×List bI) :=
 bif P.follows .mixedOrders then
  match ops.drop (ops.length - k) with
  | o::r=>match eO P n ops (ops.take (ops.length - k)),eO P n ops (o::r) with
   | some sl,some so=>match mkI hint (ops.take (ops.length - k)) sl [] with
    | some I=>bif zG I I 0 && iY I.length (bP o) && rD (iN I (bP o)) I.length && sS I.length r then
      match oB I (I.length+1) [] with
      | some t=>some (t,so)
      | none=>none
     else none
    | none=>none
   | _,_=>none
  | []=>none
 else none
def oC (P:Program) (n:Nat) (hint:List Nat) (ops:List Oper):Option (cA×List bI) :=
 match mD P n hint ops 1 with
 | some r=>some r
 | none=>match mD P n hint ops 2 with
  | some r=>some r
  | none=>match mD P n hint ops 3 with
   | some r=>some r
   | none=>mD P n hint ops 4
theorem Dv {P:Program} {n:Nat} {hint:List Nat} {ops:Array Oper} {t:cA} {so:List bI} {k:Nat} (h:mD P n hint ops.toList k=some (t,so)) :
  P.follows .mixedOrders=true/\∃ I o r,DOk P n ops I/\ops.toList.drop I.length=o::r/\dK I none [] t/\eO P n ops.toList (o::r)=some so/\(∀ p∈bP o,p < I.length)/\(∀ i,i < I.length->(iN I (bP o)).testBit i=true) /\
   ∀ j o',r[j]?=some o'->I.length+j∈bP o'/\∀ p∈bP o',p < I.length+j+1:=by
 unfold mD at h
 cases hf:P.follows .mixedOrders with
 | false=>simp [hf] at h
 | true =>
 simp only [hf,cond_true] at h
 split at h
 ·rename_i o r ho
  split at h
  ·rename_i sl so' hsl hso
   split at h
   ·rename_i I hI
    cases hs:(zG I I 0 && iY I.length (bP o) && rD (iN I (bP o)) I.length && sS I.length r) with
    | false=>simp [hs] at h
    | true =>
    simp only [hs,cond_true] at h
    simp only [Bool.and_eq_true] at hs
    obtain ⟨⟨⟨hs1,hs2⟩,hs3⟩,hs4⟩:=hs
    split at h
    ·rename_i t' ht
     simp only [Option.some.injEq,Prod.mk.injEq] at h
     obtain ⟨rfl,rfl⟩:=h
     have hl:ops.toList=ops.toList.take (ops.toList.length - k)++(o::r):=by rw [<- ho,List.take_append_drop]
     obtain ⟨h1,h2⟩:=Gk (rest:=o::r) hl hsl hI hs1
     refine ⟨rfl,I,o,r,h1,?_,tO _ _ _ ht,hso,mB hs2,Ag hs3,Ch hs4⟩
     rw [h2,<- ho]
     congr 1
     rw [List.length_take]
     omega
    ·cases h
   ·cases h
  ·cases h
 ·cases h
theorem Du {P:Program} {n:Nat} {hint:List Nat} {ops:Array Oper} {t:cA} {so:List bI} (h:oC P n hint ops.toList=some (t,so)):∃ k,mD P n hint ops.toList k=some (t,so):=by
 unfold oC at h
 split at h
 ·rename_i r hr; cases h; exact ⟨_,hr⟩
 ·split at h
  ·rename_i r hr; cases h; exact ⟨_,hr⟩
  ·split at h
   ·rename_i r hr; cases h; exact ⟨_,hr⟩
   ·exact ⟨_,h⟩
end Go.Eng
end
