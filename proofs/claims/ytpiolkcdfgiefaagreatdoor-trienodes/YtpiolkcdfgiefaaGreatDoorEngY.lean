/- A part of the proof. -/
import Derived.Test.YtpiolkcdfgiefaaGreatDoorEngJ
section
namespace Go.Eng
open Go Go.RowKit
structure bP where
 dst:Option Nat
 guard:Option (Nat×Bool)
 op:SOp
 hide:List Nat
 deriving Repr
abbrev zPt:CV:=.cons (.int .i64 0) (.cons (.int .i64 0) .nil)
abbrev zHn:CV:=.cons (.int .i64 0) (.cons (.str []) (.cons (.int .i64 0) (.cons (.int .i64 0) .nil)))
abbrev zEn:CV:=.cons (.str []) (.cons (.int .i64 0) (.cons (.str []) (.cons (.int .i64 0) (.cons (.int .i64 0) (.cons (.int .i64 0) (.cons (.int .i64 0) .nil))))))
abbrev zEv:CV:=.cons (.int .i64 0) (.cons (.int .i64 0) (.cons (.int .i64 0) (.cons (.int .i64 0) (.cons (.int .i64 0) (.cons (.str []) (.cons (.str []) (.cons (.str []) (.cons (.nilsl) (.cons (.nilsl) (.cons (.int .i64 0) (.cons (.str []) (.cons (.int .i64 0) (.cons (.int .i64 0) (.cons (.int .i64 0) (.cons (.int .i64 0) (.cons (.nilsl) (.cons (.nilsl) .nil)))))))))))))))))
abbrev zo (d:Nat) (o:SOp):bP:=⟨some d,none,o,[]⟩
abbrev zg (d g:Nat) (w:Bool) (o:SOp):bP:=⟨some d,some (g,w),o,[]⟩
abbrev mv (d x:Nat):bP:=zo d (.move (.s x))
abbrev mg (d g:Nat) (w:Bool) (x:Nat):bP:=zg d g w (.move (.s x))
abbrev ld (d x:Nat):bP:=zo d (.load 1 false (.s x))
abbrev lg (d g:Nat) (w:Bool) (x:Nat):bP:=zg d g w (.load 1 false (.s x))
abbrev fa (d k x:Nat):bP:=zo d (.fldA k (.s x))
abbrev fg (d g:Nat) (w:Bool) (k x:Nat):bP:=zg d g w (.fldA k (.s x))
abbrev cj (z:Int):SX:=.c (.int .i64 z)
abbrev cT:SX:=.c (.bool true)
abbrev cF:SX:=.c (.bool false)
def E5 (l:List Nat):Option Nat->Bool
 | none=>false
 | some d=>bD l d
def Gr (n:Nat):Option Nat->Bool
 | none=>true
 | some d=>Nat.blt d n
def Dm (ops:List Oper):Option (Nat×Bool)->Option (Option (Nat×Bool))
 | none=>some none
 | some (j,w)=>match ops[j]? with
  | some oj=>match oj.dst with
   | some d=>some (some (d,w))
   | none=>none
  | none=>none
def oO (P:Program) (n:Nat) (ops:List Oper) (o:Oper):Option bP :=
 match cOp P o.op,Dm ops o.guard with
 | some so,some g=>bif Gr n o.dst then some ⟨o.dst,g,so,[]⟩ else none
 | _,_=>none
def gC (P:Program) (n:Nat) (ops:List Oper):List Oper->Option (List bP)
 | []=>some []
 | o::r=>match oO P n ops o,gC P n ops r with
  | some x,some y=>some (x::y)
  | _,_=>none
def eE (fr:List (Nat×SV)):Nat->Nat->Bool->Prop
 | 0,_,_=>True
 | f+1,d,want=>match look fr d with
  | .bool b=>b=want
  | .gd d' w' (.bool b)=>b=want/\eE fr f d' w'
  | _=>True
theorem zf {P:Prop}:false=true->P:=fun h=>Bool.noConfusion h
theorem zh {P:Prop}:true=false->P:=fun h=>Bool.noConfusion h
theorem zt {b:Bool} {P:Prop} (h:P):b=b->P:=fun _=>h
theorem gd {fr:List (Nat×SV)} {n d:Nat} {w:Bool} {X:Prop} (h:X):eE fr n d w->X:=fun _=>h
def Bg (T:Tb) (g:Option (Nat×Bool)) (st:St):SOp->Bool
 | .call f _=>match gx g st.fr f with
  | .yield _=>true
  | .fn k _=>match get? T.fs (bif Nat.blt k FM then k else k - FM) with
   | some (.m _)=>true
   | _=>false
  | _=>false
 | .buildSl _ _ _ _ _=>match get? T.fs OWN with
  | some .own=>true
  | _=>false
 | .load _ _ x=>match gx g st.fr x with
  | .fown _ _ _=>true
  | .foel _ _ _ _ _=>true
  | _=>false
 | o=>Ot o
def evO (T:Tb) (st:St) (o:SOp) (k:SV->St->Prop):Prop :=
 bif Bg T none st o then evE T none st (fun s st'=>stF st' fun st'=>k s st') o else
  match evP T.fs none st o with
  | .fail=>False
  | .ok v=>k v st
  | .side p v=>p/\k v st
def iK (fr:List (Nat×SV)):Nat->Nat->Bool->Prop->Prop->Prop
 | 0,_,_,_,_=>False
 | f+1,d,want,Y,N=>match look fr d with
  | .bool b=>(b=want->Y)/\(b=!want->N)
  | .gd d' w' (.bool b)=>iK fr f d' w' ((b=want->Y)/\(b=!want->N)) N
  | .gd d' w' .junk=>iK fr f d' w' False N
  | .tup _=>N
  | _=>False
def Ad (d:Option Nat) (lab:List Nat) (s:SV) (st:St) (k:St->Prop):Prop :=
 match d with
 | none=>k st
 | some d=>bif bD lab d then False else
  bC s fun s=>match s with
  | .gd _ _ _=>False
  | s=>match st with
   | ⟨fr,hp,nx⟩=>dI nx fun nx=>k ⟨(d,s)::fr,hp,nx⟩
def oJ (T:Tb):List bP->List Nat->St->(St->Prop)->Prop
 | [],_,st,k=>k st
 | o::r,lab,st,k =>
  match o.guard with
  | none=>evO T st o.op fun s st'=>Ad o.dst lab s st' fun st''=>oJ T r lab st'' k
  | some (d0,w) =>
   bif Bg T (some (d0,w)) st o.op then
    bif E5 (d0::lab) o.dst then False else
    iK st.fr 10 d0 w (evE T (some (d0,w)) st (fun s st'=>stF st' fun st'=>Ad o.dst (d0::lab) s st' fun st''=>oJ T r (d0::lab) st'' k) o.op)
     (Ad o.dst (d0::lab) (.tup .nil) st fun st''=>oJ T r (d0::lab) st'' k)
   else
   match o.dst with
   | none=>False
   | some d=>bif bD (d0::lab) d then False else
    match evP T.fs (some (d0,w)) st o.op with
    | .fail=>(eE st.fr 10 d0 w->False)/\stP st fun fr hp nx=>oJ T r (d0::lab) ⟨(d,.gd d0 w .junk)::fr,hp,nx⟩ k
    | .ok v=>bC v fun v=>stP st fun fr hp nx=>oJ T r (d0::lab) ⟨(d,.gd d0 w v)::fr,hp,nx⟩ k
    | .side p v=>(eE st.fr 10 d0 w->p)/\bC v fun v=>stP st fun fr hp nx=>oJ T r (d0::lab) ⟨(d,.gd d0 w v)::fr,hp,nx⟩ k
def kP (fr:List (Nat×SV)):List Nat->(List (Nat×SV)->Prop)->Prop
 | [],k=>k []
 | n::r,k=>bC (look fr n) fun s=>match s with
  | .gd _ _ _=>kP fr r k
  | .junk=>kP fr r k
  | s=>kP fr r fun l=>k ((n,s)::l)
section
variable {P:Program} {C:Ctx} {ro:Option Nat}
theorem qK {E:Env} {t:Array Value} {fr:List (Nat×SV)} (hf:∀ s,cP E t (look fr s) (t.getD s undef)):∀ (n d:Nat) (want:Bool) (Y N:Prop),iK fr n d want Y N ->
  (t.getD d undef=.bool want/\Y)\/(t.getD d undef≠.bool want/\N):=by
 intro n
 induction n with
 | zero=>intro d want Y N h; exact h.elim
 | succ n ih =>
  intro d want Y N h
  have hs:=hf d
  simp only [iK] at h
  have two:∀ (b:Bool) {Y N:Prop},t.getD d undef=.bool b->((b=want->Y)/\(b=!want->N))->(t.getD d undef=.bool want/\Y)\/(t.getD d undef≠.bool want/\N):=by
   intro b Y N hb hyn
   rw [hb]
   by_cases e:b=want
   ·exact .inl ⟨by rw [e],hyn.1 e⟩
   ·refine .inr ⟨fun e'=>e (by injection e'),hyn.2 ?_⟩
    cases b <;> cases want <;> simp_all
  split at h
  ·rename_i b hb
   rw [hb] at hs
   simp only [cP,R] at hs
   exact two b (List.singleton_inj.1 hs) h
  ·rename_i d' w' b hb
   rw [hb] at hs
   obtain ⟨h1,h2⟩:=hs
   rcases ih _ _ _ _ h with ⟨e,hy⟩|⟨e,hn⟩
   ·have:=h1 e
    simp only [R] at this
    exact two b (List.singleton_inj.1 this) hy
   ·refine .inr ⟨?_,hn⟩
    rw [h2 e]
    intro e'; cases e'
  ·rename_i d' w' hb
   rw [hb] at hs
   obtain ⟨h1,h2⟩:=hs
   rcases ih _ _ _ _ h with ⟨e,hy⟩|⟨e,hn⟩
   ·exact hy.elim
   ·refine .inr ⟨?_,hn⟩
    rw [h2 e]
    intro e'; cases e'
  ·rename_i l hl
   rw [hl] at hs
   simp only [cP,R] at hs
   obtain ⟨cs,hv,_⟩:=hs
   refine .inr ⟨?_,h⟩
   rw [List.singleton_inj.1 hv]
   intro e; cases e
  ·exact h.elim
def dJ (fr:List (Nat×SV)) (lab:List Nat):Prop:=∀ s d w x,look fr s=.gd d w x->bD lab d=true
theorem Ig {T:Tb} (htab:rE P C T) {μ:Nat->Option (Nat×Nat)} {st:St} {a:Act} {w:World} (h:aY C μ st a w) {o:Oper} {so:SOp} (hc:cOp P o.op=some so) {K:SV->St->Prop}
  (he:evO T st so K):Acts P C μ st.hp w st.fr K ((execOp a.eval o).run P w):=by
 have hg:GOk none a.tmps:=fun _ _ e=>by cases e
 unfold evO at he
 cases hb:Bg T none st so with
 | true =>
  simp only [hb,cond_true,Ai] at he
  exact nX htab h hg hc he
 | false =>
  simp only [hb,cond_false] at he
  have he':(evP T.fs none st so).holds (fun v=>K v st):=by
   cases hp:evP T.fs none st so <;> rw [hp] at he <;> exact he
  obtain ⟨s,hq,hd⟩:=nY htab.fs (htab.g.at h.hep.frm) h hg hc he'
  refine hd.mono ?_
  rintro v w' ⟨hb,hr⟩
  exact ⟨s,st,μ,hq,rfl,eM hb,h.hep.below hb,hr⟩
theorem aY.Aj {μ μ':Nat->Option (Nat×Nat)} {st st':St} {a:Act} {w w':World} (h:aY C μ st a w) (hfr:st'.fr=st.fr) (hE:(aA C μ st.hp w).Le (aA C μ' st'.hp w')) (hh:aE C μ' st'.hp st'.nx w'):aY C μ' st' a w':=by
 have:=h.step hE hh
 cases st'
 simp only at hfr
 subst hfr
 exact this
theorem kW (t:Array Value) (d:Nat) (v:Value) (h:d < t.size):(t.setIfInBounds d v).getD d undef=v:=by
 simp [Array.getD_eq_getD_getElem?,h]
theorem bV (t:Array Value) (d s:Nat) (v:Value) (h:s≠d):(t.setIfInBounds d v).getD s undef=t.getD s undef:=by
 simp [Array.getD_eq_getD_getElem?,Array.getElem?_setIfInBounds_ne (Ne.symm h)]
theorem dR (d:Nat) (s:SV) (fr:List (Nat×SV)) (n:Nat):look ((d,s)::fr) n=if d=n then s else look fr n:=by
 unfold look
 rw [get?_cons]
 split <;> rfl
theorem wI {E:Env} {t:Array Value} {d:Nat} {v:Value} {s:SV} {x:Value} {lab:List Nat} (hl:bD lab d=false) (hs:∀ d' w y,s=.gd d' w y->bD lab d'=true) (h:cP E t s x) :
  cP E (t.setIfInBounds d v) s x:=by
 cases s with
 | gd d' w y =>
  have:d'≠d:=by
   rintro rfl
   have:=hs _ _ _ rfl
   rw [hl] at this
   cases this
  simp only [cP] at *
  rw [bV _ _ _ _ this]
  exact h
 | _=>exact h
theorem aY.set {μ:Nat->Option (Nat×Nat)} {st:St} {a:Act} {w:World} (h:aY C μ st a w) {lab:List Nat} (hlab:dJ st.fr lab) {d:Nat} (hd:d < C.n) (hm:bD lab d=false) {s:SV} {v:Value}
  (hs:cP (aA C μ st.hp w) (a.tmps.setIfInBounds d v) s v):aY C μ { st with fr:=(d,s)::st.fr } (a.put (some d) v) w where
 size:=by simp [Act.put,h.size]
 defers:=h.defers
 fr:=by
  intro n
  simp only [Act.put]
  rw [dR]
  by_cases hn:d=n
  ·subst hn
   rw [if_pos rfl,kW _ _ _ (by rw [h.size]; exact hd)]
   exact hs
  ·rw [if_neg hn,bV _ _ _ _ (Ne.symm hn)]
   exact wI hm (fun d' w y e=>hlab n d' w y e) (h.fr n)
 hep:=h.hep
 le:=h.le
 kd:=h.kd
theorem lP {E:Env} {t:Array Value} {s:SV} {v:Value} (h:R E s [v]) (hn:∀ d w x,s≠.gd d w x):cP E t s v:=by
 cases s <;> first
  | exact h
  | exact absurd rfl (hn _ _ _)
theorem dJ.cons {fr:List (Nat×SV)} {lab:List Nat} (h:dJ fr lab) {d:Nat} {s:SV} (hs:∀ d' w x,s=.gd d' w x->bD lab d'=true):dJ ((d,s)::fr) lab:=by
 intro n d' w x e
 rw [dR] at e
 split at e
 ·exact hs d' w x e
 ·exact h n d' w x e
theorem cS {ops:Array Oper} {o:Oper} {t:Array Value} {g:Option (Nat×Bool)} (h:Dm ops.toList o.guard=some g) :
  Region.wanted o (yielded ops t)=true ↔ GOk g t:=by
 unfold Dm at h
 split at h
 ·rename_i hg
  cases h
  simp only [Region.wanted,hg]
  exact ⟨(fun _ _ _ e=>by cases e),fun _=>trivial⟩
 ·rename_i j w hg
  split at h
  ·rename_i oj hj
   split at h
   ·rename_i d hd
    cases h
    have hj':ops[j]?=some oj:=by simpa using hj
    simp only [Region.wanted,hg,yielded,hj',Option.bind_some,hd]
    constructor
    ·intro hh d' w' e
     cases e
     rw [Array.getD_eq_getD_getElem?]
     cases ht:t[d]? with
     | none=>simp [ht] at hh
     | some x=>cases x <;> simp [ht] at hh ⊢; exact hh
    ·intro hh
     have:=hh d w rfl
     rw [Array.getD_eq_getD_getElem?] at this
     cases ht:t[d]? with
     | none=>simp [ht,undef] at this
     | some x=>simp [ht] at this; subst this; simp
   ·cases h
  ·cases h
theorem lT {E:Env} {a:Act} {fr:List (Nat×SV)} (hf:∀ s,cP E a.tmps (look fr s) (a.tmps.getD s undef)):∀ (f d:Nat) (w:Bool),a.tmps.getD d undef=.bool w->eE fr f d w:=by
 intro f
 induction f with
 | zero=>intro d w _; trivial
 | succ f ih =>
  intro d w hd
  have h:=hf d
  simp only [eE]
  split
  ·rename_i b hb
   rw [hb,hd] at h
   have:R E (.bool b) [.bool w]:=h
   simp only [R] at this
   have:=List.singleton_inj.1 this
   cases this
   rfl
  ·rename_i d' w' b hb
   rw [hb,hd] at h
   obtain ⟨h1,h2⟩:=h
   by_cases hc:a.tmps.getD d' undef=.bool w'
   ·have:=h1 hc
    simp only [R] at this
    have:=List.singleton_inj.1 this
    cases this
    exact ⟨rfl,ih d' w' hc⟩
   ·have:=h2 hc
    cases this
  ·trivial
theorem uH {T:Tb} (htab:rE P C T) {ops:Array Oper} {Q:Exit->Act->World->Prop} {K:St->Prop}
  (hK:∀ st μ a w,K st->aY C μ st a w->Q .normal a w) :
  ∀ (l:List Oper) (sl:List bP) (lab:List Nat) (μ:Nat->Option (Nat×Nat)) (st:St) (a:Act) (w:World),gC P C.n ops.toList l=some sl->dJ st.fr lab->aY C μ st a w->oJ T sl lab st K ->
   wpListIn (WF ro) 0 P ops Q l a w:=by
 intro l
 induction l with
 | nil =>
  intro sl lab μ st a w hc hlab h he
  simp only [gC,Option.some.injEq] at hc
  subst hc
  exact wpListIn_nil (hK _ _ _ _ he h)
 | cons o r ih =>
  intro sl lab μ st a w hc hlab h he
  simp only [gC] at hc
  split at hc
  ·rename_i so sr h1 h2
   cases hc
   unfold oO at h1
   split at h1
   ·rename_i sop g h3 h4
    cases hdst:Gr C.n o.dst with
    | false=>simp [hdst] at h1
    | true =>
     simp only [hdst,cond_true,Option.some.injEq] at h1
     subst h1
     have hnd:∀ c,o.op≠.defer c:=by
      rintro c e
      rw [e] at h3
      simp [cOp] at h3
     have hdn:∀ d,o.dst=some d->d < C.n:=by
      intro d e
      rw [e] at hdst
      have h1:Nat.ble (d+1) C.n=true:=hdst
      exact Nat.le_of_ble_eq_true h1
     simp only [oJ] at he
     cases g with
     | none =>
      simp only at he
      have hw:Region.wanted o (yielded ops a.tmps)=true:=(cS h4).2 (fun _ _ e=>by cases e)
      simp only [wpListIn,hw,if_true]
      refine eP hnd ?_
      refine (Ig htab h h3 he).mono ?_
      rintro v w' ⟨s,st',μ',hk,hfr,hE,hh,hR⟩
      have hrep:=h.Aj hfr hE hh
      obtain ⟨fr1,hp1,nx1⟩:=st'
      unfold Ad at hk
      split at hk
      ·rename_i hdn'
       rw [hdn']
       exact ih sr lab μ' ⟨fr1,hp1,nx1⟩ a w' h2 (by rw [hfr]; exact hlab) hrep hk
      ·rename_i d hd'
       cases hm:bD lab d with
       | true=>simp [hm] at hk
       | false =>
        simp only [hm,cond_false,cH,eD] at hk
        split at hk
        ·exact hk.elim
        ·rename_i hnw
         rw [hd']
         have hlab':dJ fr1 lab:=by rw [show fr1=st.fr from hfr]; exact hlab
         exact ih sr lab μ' ⟨(d,_)::fr1,hp1,nx1⟩ _ w' h2 (hlab'.cons (fun d' w x e=>absurd e (hnw d' w x))) (hrep.set hlab' (hdn d hd') hm (lP hR hnw)) hk
     | some gw =>
      obtain ⟨d0,gwant⟩:=gw
      simp only at he
      cases hie:Bg T (some (d0,gwant)) st sop with
      | true =>
       simp only [hie,cond_true,Ai] at he
       cases hmo:E5 (d0::lab) o.dst with
       | true=>simp [hmo] at he
       | false =>
       simp only [hmo,cond_false] at he
       have hlab0:dJ st.fr (d0::lab):=by
        intro s d' w x e
        have:=hlab s d' w x e
        simp only [bD]
        cases Nat.beq d0 d' <;> simp [this]
       -- the slot is set
       have cont:∀ (st':St) (μ':Nat->Option (Nat×Nat)) (v:Value) (w':World) (s:SV),st'.fr=st.fr->aY C μ' st' a w'->R (aA C μ' st'.hp w') s [v]->Ad o.dst (d0::lab) s st' (fun st''=>oJ T sr (d0::lab) st'' K)->wpListIn (WF ro) 0 P ops Q r (a.put o.dst v) w':=by
        intro st' μ' v w' s hfr hrep hR hk
        obtain ⟨fr1,hp1,nx1⟩:=st'
        unfold Ad at hk
        split at hk
        ·rename_i hdn'
         rw [hdn']
         exact ih sr (d0::lab) μ' ⟨fr1,hp1,nx1⟩ a w' h2 (by rw [hfr]; exact hlab0) hrep hk
        ·rename_i d hd'
         cases hm:bD (d0::lab) d with
         | true=>simp [hm] at hk
         | false =>
          simp only [hm,cond_false,cH,eD] at hk
          split at hk
          ·exact hk.elim
          ·rename_i hnw
           rw [hd']
           have hlab':dJ fr1 (d0::lab):=by rw [show fr1=st.fr from hfr]; exact hlab0
           exact ih sr (d0::lab) μ' ⟨(d,_)::fr1,hp1,nx1⟩ _ w' h2 (hlab'.cons (fun d' w x e=>absurd e (hnw d' w x))) (hrep.set hlab' (hdn d hd') hm (lP hR hnw)) hk
       rcases qK h.fr 10 d0 gwant _ _ he with ⟨hgd,hy⟩|⟨hgd,hn⟩
       ·have hg:GOk (some (d0,gwant)) a.tmps:=by intro d w e; cases e; exact hgd
        have hw:Region.wanted o (yielded ops a.tmps)=true:=(cS h4).2 hg
        simp only [wpListIn,hw,if_true]
        refine eP hnd ?_
        refine (nX htab h hg h3 hy).mono ?_
        rintro v w' ⟨s,st',μ',hk,hfr,hE,hh,hR⟩
        exact cont st' μ' v w' s hfr (h.Aj hfr hE hh) hR hk
       ·have hw:¬ Region.wanted o (yielded ops a.tmps)=true:=by
         intro e
         exact hgd ((cS h4).1 e d0 gwant rfl)
        simp only [wpListIn,hw]
        exact ⟨fun f _=>sQ ro f,cont st μ undef w (.tup .nil) rfl h ⟨[],rfl,rfl⟩ hn⟩
      | false =>
      simp only [hie,cond_false,cH,Ud] at he
      split at he
      ·exact he.elim
      ·rename_i d hd'
       cases hm:bD (d0::lab) d with
       | true=>simp [hm] at he
       | false =>
        simp only [hm,cond_false] at he
        have hlab0:dJ st.fr (d0::lab):=by
         intro s d' w x e
         have:=hlab s d' w x e
         simp only [bD]
         cases Nat.beq d0 d' <;> simp [this]
        have hd0:bD (d0::lab) d0=true:=by simp [bD,Nat.beq_refl]
        have hne:d0≠d:=by rintro rfl; rw [hd0] at hm; cases hm
        -- both ways
        have key:∀ v,oJ T sr (d0::lab) { fr:=(d,.gd d0 gwant v)::st.fr,hp:=st.hp,nx:=st.nx } K->(evP T.fs (some (d0,gwant)) st sop=.ok v\/∃ p,(eE st.fr 10 d0 gwant->p)/\evP T.fs (some (d0,gwant)) st sop=.side p v) ->
          wpListIn (WF ro) 0 P ops Q (o::r) a w:=by
         intro v hrest hev
         have hlab1:dJ ((d,.gd d0 gwant v)::st.fr) (d0::lab):=hlab0.cons (fun d' w x e=>by cases e; exact hd0)
         by_cases hw:Region.wanted o (yielded ops a.tmps)=true
         ·have hg:=(cS h4).1 hw
          have hgd:a.tmps.getD d0 undef=.bool gwant:=hg d0 gwant rfl
          have he':(evP T.fs (some (d0,gwant)) st sop).holds (fun x=>x=v):=by
           rcases hev with e|⟨p,hp,e⟩
           ·rw [e]; rfl
           ·rw [e]; exact ⟨hp (lT h.fr 10 d0 gwant hgd),rfl⟩
          simp only [wpListIn,hw,if_true]
          refine eP hnd ?_
          obtain ⟨s,rfl,hdo⟩:=nY htab.fs (htab.g.at h.hep.frm) h hg h3 he'
          refine hdo.mono ?_
          rintro u w' ⟨hb,hr⟩
          rw [hd']
          refine ih sr (d0::lab) μ _ _ w' h2 hlab1 ((h.below hb).set hlab0 (hdn d hd') hm ?_) hrest
          simp only [cP]
          rw [bV _ _ _ _ hne,hgd]
          exact ⟨fun _=>hr,fun e=>absurd rfl e⟩
         ·have hg:¬ a.tmps.getD d0 undef=.bool gwant:=by
           intro e
           exact hw ((cS h4).2 (fun d' w' e'=>by cases e'; exact e))
          simp only [wpListIn,hw]
          refine ⟨fun f _=>sQ ro f,?_⟩
          rw [hd']
          refine ih sr (d0::lab) μ _ _ w h2 hlab1 (h.set hlab0 (hdn d hd') hm ?_) hrest
          simp only [cP]
          rw [bV _ _ _ _ hne]
          exact ⟨fun e=>absurd e hg,fun _=>trivial⟩
        split at he
        ·obtain ⟨hnp,hrest⟩:=he
         have hlab1:dJ ((d,.gd d0 gwant .junk)::st.fr) (d0::lab):=hlab0.cons (fun d' w x e=>by cases e; exact hd0)
         by_cases hw:Region.wanted o (yielded ops a.tmps)=true
         ·exact (hnp (lT h.fr 10 d0 gwant ((cS h4).1 hw d0 gwant rfl))).elim
         ·have hg:¬ a.tmps.getD d0 undef=.bool gwant:=by
           intro e
           exact hw ((cS h4).2 (fun d' w' e'=>by cases e'; exact e))
          simp only [wpListIn,hw]
          refine ⟨fun f _=>sQ ro f,?_⟩
          rw [hd']
          refine ih sr (d0::lab) μ _ _ w h2 hlab1 (h.set hlab0 (hdn d hd') hm ?_) hrest
          simp only [cP]
          rw [bV _ _ _ _ hne]
          exact ⟨fun e=>absurd e hg,fun _=>trivial⟩
        ·rename_i v hv
         exact key v he (.inl hv)
        ·rename_i p v hv
         exact key v he.2 (.inr ⟨p,he.1,hv⟩)
   ·cases h1
  ·cases hc
theorem kQ {μ:Nat->Option (Nat×Nat)} {a:Act} {w:World} {hp:List (Nat×aC)} {nx:Nat} {fr:List (Nat×SV)} (h:aY C μ ⟨fr,hp,nx⟩ a w) :
  ∀ (l:List Nat) (K:List (Nat×SV)->Prop),kP fr l K->∃ fr',K fr'/\dJ fr' []/\aY C μ ⟨fr',hp,nx⟩ a w:=by
 intro l
 induction l with
 | nil =>
  intro K hk
  exact ⟨[],hk,fun s d w x e=>by simp [look,get?] at e,h.frame (st:=⟨fr,hp,nx⟩) (fun s=>gU _ _ _)⟩
 | cons n r ih =>
  intro K hk
  simp only [kP,cH] at hk
  split at hk
  ·exact ih K hk
  ·exact ih K hk
  ·rename_i s hnw hnj
   obtain ⟨fr',h1,h2,h3⟩:=ih _ hk
   refine ⟨_,h1,h2.cons (fun d' w x e=>absurd e (hnw d' w x)),?_⟩
   refine h3.frame (st:=⟨fr',hp,nx⟩) (fun m=>?_)
   rw [dR]
   split
   ·rename_i e; subst e; exact h.fr n
   ·exact h3.fr m
end
end Go.Eng
end
section
namespace Go.Eng
open Go Go.RowKit
section
variable {C:Ctx}
theorem vM {k:Keep} {hp:List (Nat×aC)} {fr:List (Nat×SV)}:∀ {fr':List (Nat×SV)},xT k hp fr fr'->∀ s,(look fr' s=.junk)\/(sub k hp 200 (look fr s) (look fr' s)/\∀ d w x,look fr' s≠.gd d w x):=by
 intro fr'
 induction fr' with
 | nil=>intro _ s; exact .inl rfl
 | cons p r ih =>
  obtain ⟨s0,v⟩:=p
  intro hs s
  rw [dR]
  cases v with
  | gd d w x=>simp only [xT] at hs; exact hs.1.elim
  | _ =>
   simp only [xT] at hs
   split
   ·rename_i e
    subst e
    exact .inr ⟨hs.1,by simp⟩
   ·exact ih hs.2 s
theorem Mp (hpin:mE C) {nx':Nat} {prs:List (Nat×Nat)} (hk:dX nx' prs=true) (hp:∀ i,i∈C.np->(i,i)∈prs) {μ μ':Nat->Option (Nat×Nat)} (h:∀ id p,C.pin id=some p->μ id=some p)
  (k2:∀ id id' p,get? prs id=some id'->μ id=some p->μ' id'=some p) (k3:∀ c d i p,get? prs c=some d->μ (fid c i)=some p->μ' (fid d i)=some p) (k9:∀ n,n < C.bnd->n < FB->μ' n=μ n):∀ id p,C.pin id=some p->μ' id=some p:=by
 intro id p e
 rcases hpin id p e with hb|⟨hb,hb2⟩
 rotate_left
 ·rw [k9 id hb hb2]; exact h _ _ e
 have hg:=get?_of_mem hk (hp _ hb)
 by_cases hlt:id < FB
 ·simp only [fbase,hlt,if_true] at hg
  exact k2 _ _ _ hg (h _ _ e)
 ·simp only [fbase,hlt,if_false] at hg
  have he:=gM (Nat.not_lt.1 hlt)
  have:=k3 _ _ (id / FB - 1) p hg (by rw [he]; exact h _ _ e)
  rw [he] at this
  exact this
theorem iH (hpin:mE C) {μ:Nat->Option (Nat×Nat)} {st st':St} {a:Act} {w:World} (h:aY C μ st a w) (hlab:dJ st.fr []) (hs:fS C.np C.bnd st st'):(∃ μ',aY C μ' st' a w)/\dJ st'.fr []:=by
 unfold fS at hs
 rw [I9] at hs
 cases hk:dX st'.nx (mA C.np C.bnd st st') with
 | false=>simp [hk] at hs
 | true =>
  cases hfm:oR st.hp st'.hp (mA C.np C.bnd st st') with
  | false=>simp [hk,hfm] at hs
  | true =>
  cases hpi:pP (mA C.np C.bnd st st') C.np with
  | false=>simp [hk,hfm,hpi] at hs
  | true =>
  cases hlo:xD C.bnd (mA C.np C.bnd st st') with
  | false=>simp [hk,hfm,hpi,hlo] at hs
  | true =>
  cases hbn:Nat.ble C.bnd st'.nx with
  | false=>simp [hk,hfm,hpi,hlo,hbn] at hs
  | true =>
  simp only [hk,hfm,hpi,hlo,hbn,cond_true] at hs
  generalize mA C.np C.bnd st st'=prs at hs hk hfm hpi hlo
  obtain ⟨hfr,hhp⟩:=hs
  obtain ⟨μ',k1,k2,k3,k4,k5,k6,k7,k8,k9⟩:=Ak C.bnd h.hep hk hfm hhp (I1 hlo) (Nat.le_of_ble_eq_true hbn)
  have hF:(aA C μ st.hp w).Freed (.keep prs) st.hp (aA C μ' st'.hp w):=by
   refine ⟨fun _=>⟨?_,fun _ _=>rfl⟩,k2,k3,rfl,?_⟩
   ·intro b hb
    refine ⟨hb.1,hb.2.1,?_,hb.2.2.2⟩
    intro i o' c' hg hm
    obtain ⟨m,o,_,ho,e,_⟩:=k1 i o' hg
    rw [e] at hm
    exact hb.2.2.1 m o c' ho hm
   ·intro id o b c hn hg hm hkp
    have hm':μ id=some (b,c):=hm
    refine ⟨h.hep.lt hg hm',?_,?_,h.hep.obj.plain hg hm' hn⟩
    ·rcases h.hep.mine id o b c hg hm' with hh|hh
     ·exact .inr (.inl hh)
     ·exact .inr (.inr hh)
    ·intro i o' c2 hg' hm2
     obtain ⟨m,oi,hp1,ho,e,_⟩:=k1 i o' hg'
     rw [e] at hm2
     have:=h.hep.inj _ _ _ _ _ _ _ hg ho hm' hm2
     subst this
     exact k8 _ _ _ hg hkp hp1
  have hsub:∀ s t vs,sub (.keep prs) st.hp 200 s t->R (aA C μ st.hp w) s vs->R (aA C μ' st'.hp w) t vs:=fun s t vs=>fQ hF h.hep.obj 200 s t vs
  refine ⟨⟨μ',h.size,h.defers,?_,?_,h.le.trans (hF.le rfl),h.kd⟩,?_⟩
  ·intro s
   rcases vM hfr s with e|⟨e,hnw⟩
   ·rw [e]; exact gU _ _ _
   ·have hold:=h.fr s
    have hR:R (aA C μ st.hp w) (look st.fr s) [a.tmps.getD s undef]:=by
     cases hl:look st.fr s with
     | gd d w' x=>have:=hlab s d w' x hl; simp [bD] at this
     | _=>rw [hl] at hold; exact hold
    exact lP (hsub _ _ _ e hR) hnw
  ·refine ⟨⟨fun id o hg=>(k6 id o hg).2,?_⟩,?_,?_,fun id o hg=>(k6 id o hg).1,k4,k5,Mp hpin hk (vH hpi) h.hep.pin k2 k3 k9,h.hep.frm,sub_pos h.hep hk k1⟩
   ·intro i o' hg
    obtain ⟨m,o,_,ho,e,hso⟩:=k1 i o' hg
    obtain ⟨b,cp,x,e1,e2,e3⟩:=h.hep.obj.obj m o ho
    refine ⟨b,cp,x,e.trans e1,e2,sK hF.le hsub (fun _ _ _ _ e=>e) hso e3⟩
   ·intro i i' o1 o2 b c1 c2 g1 g2 m1 m2
    obtain ⟨d1,p1,q1,ho1,e1,_⟩:=k1 i o1 g1
    obtain ⟨d2,p2,q2,ho2,e2,_⟩:=k1 i' o2 g2
    rw [e1] at m1
    rw [e2] at m2
    have:=h.hep.inj _ _ _ _ _ _ _ ho1 ho2 m1 m2
    subst this
    exact k7 _ _ _ q1 q2
   ·intro i o' b c hg hm
    obtain ⟨d,o,_,ho,e,_⟩:=k1 i o' hg
    rw [e] at hm
    exact h.hep.mine _ _ _ _ ho hm
  ·intro s d w' x e
   rcases vM hfr s with e'|⟨_,hnw⟩
   ·rw [e'] at e; cases e
   ·exact absurd e (hnw d w' x)
end
end Go.Eng
end
section
namespace Go.Eng
open Go Go.RowKit
def xS:SX->List Nat
 | .s n=>[n]
 | .c _=>[]
def xsS:List SX->List Nat
 | []=>[]
 | x::r=>xS x++xsS r
def oxS:Option SX->List Nat
 | none=>[]
 | some x=>xS x
def sD:List (Nat×Nat×SX)->List Nat
 | []=>[]
 | (_,_,x)::r=>xS x++sD r
def pS:SOp->List Nat
 | .move x=>xS x
 | .pick c a b=>xS c++xS a++xS b
 | .load _ _ x=>xS x
 | .fldA _ x=>xS x
 | .idxArr _ _ x i=>xS x++xS i
 | .idxSl _ x i=>xS x++xS i
 | .idxStr x i=>xS x++xS i
 | .idxVal _ _ _ x i=>xS x++xS i
 | .field _ _ _ x=>xS x
 | .nilCheck x=>xS x
 | .lenStr x=>xS x
 | .lenSl x=>xS x
 | .bin _ x y=>xS x++xS y
 | .ptrEq _ x y=>xS x++xS y
 | .eqB _ x y=>xS x++xS y
 | .not x=>xS x
 | .neg x=>xS x
 | .cnv _ x=>xS x
 | .convS x=>xS x
 | .runeS x=>xS x
 | .cpyS x y=>xS x++xS y
 | .mm _ x y=>xS x++xS y
 | .mm3 x y z=>xS x++xS y++xS z
 | .extract _ x=>xS x
 | .mkfn _ caps=>xsS caps
 | .build _ ps=>sD ps
 | .buildSl _ _ _ _ ps=>sD ps
 | .sliceSl _ x lo hi=>xS x++oxS lo++oxS hi
 | .sliceStr x lo hi=>xS x++oxS lo++oxS hi
 | .call f args=>xS f++xsS args
 | .alloc _ _=>[]
 | .clr _ x=>xS x
 | .arrSl _ _ _ x=>xS x
 | .arrCut _ x h=>xS x++xS h
 | .bad=>[]
 | .slNil _ x y=>xS x++xS y
 | .box _ x=>xS x
 | .store _ x v=>xS x++xS v
 | .mapEq _ x y=>xS x++xS y
 | .eqS _ _ x y=>xS x++xS y
 | .app _ _ _ x y=>xS x++xS y
 | .mkmap _=>[]
 | .mlook _ _ _ m k=>xS m++xS k
 | .mupd _ m k v=>xS m++xS k++xS v
 | .ment _ _ m k=>xS m++xS k
 | .mesto m t v=>xS m++xS t++xS v
 | .mdele _ m k=>xS m++xS k
 | .mlen m=>xS m
 | .mrange m=>xS m
 | .mnext it=>xS it
 | .mentry it=>xS it
def Agree (l:List Nat) (fr fr':List (Nat×SV)):Prop:=∀ t∈l,look fr t=look fr' t
section
variable {fr fr':List (Nat×SV)} {g:Option (Nat×Bool)}
theorem bQ {x:SX} (h:Agree (xS x) fr fr'):gx g fr x=gx g fr' x:=by
 cases x with
 | s n=>simp only [gx]; rw [h n (by simp [xS])]
 | c v=>rfl
theorem rV:∀ {xs:List SX},Agree (xsS xs) fr fr'->gxs g fr xs=gxs g fr' xs:=by
 intro xs
 induction xs with
 | nil=>intro _; rfl
 | cons x r ih =>
  intro h
  simp only [gxs]
  rw [bQ (fun t ht=>h t (by simp [xsS,ht])),ih (fun t ht=>h t (by simp [xsS,ht]))]
theorem B8 {x:Option SX} (h:Agree (oxS x) fr fr'):ox g fr x=ox g fr' x:=by
 cases x with
 | none=>rfl
 | some x=>simp only [ox]; rw [bQ h]
theorem sX:∀ {ps:List (Nat×Nat×SX)} {l:SV},Agree (sD ps) fr fr'->mH g fr ps l=mH g fr' ps l:=by
 intro ps
 induction ps with
 | nil=>intro l _; rfl
 | cons p r ih =>
  obtain ⟨a,b,x⟩:=p
  intro l h
  simp only [mH]
  rw [bQ (x:=x) (fun t ht=>h t (by simp [sD,ht]))]
  have:∀ l,mH g fr r l=mH g fr' r l:=fun l=>ih (fun t ht=>h t (by simp [sD,ht]))
  simp only [this]
theorem oV {c x:SX} {want:Bool} (h:Agree (xS x) fr fr'):kM g fr c want x=kM g fr' c want x:=by
 cases x with
 | s n=>simp only [kM]; rw [h n (by simp [xS])]
 | c v=>rfl
theorem Agree.l {a b:List Nat} (h:Agree (a++b) fr fr'):Agree a fr fr':=fun t ht=>h t (by simp [ht])
theorem Agree.r {a b:List Nat} (h:Agree (a++b) fr fr'):Agree b fr fr':=fun t ht=>h t (by simp [ht])
theorem rO {tab:List (Nat×cZ)} {hp:List (Nat×aC)} {nx nx':Nat} {so:SOp} (h:Agree (pS so) fr fr'):evP tab g ⟨fr,hp,nx⟩ so=evP tab g ⟨fr',hp,nx'⟩ so:=by
 cases so <;> (try simp only [pS] at h) <;> (try simp only [evP]) <;> first
  | rfl
  | rw [bQ h]
  | rw [bQ h.l,bQ h.r]
  | rw [bQ h.l,rV h.r]
  | rw [bQ h.l]
  | rw [rV h]
  | rw [sX h]
  | rw [bQ h.l.l,B8 h.l.r,B8 h.r]
  | rw [bQ h.l.l,bQ h.l.r,bQ h.r]
  | (unfold yS; rw [bQ h.l.l,oV h.l.r,oV h.r])
theorem wT {T:Tb} {hp:List (Nat×aC)} {nx:Nat} {so:SOp} {K:SV->List (Nat×aC)->Nat->Prop} (h:Agree (pS so) fr fr') (he:evE T g ⟨fr,hp,nx⟩ (fun s st=>K s st.hp st.nx) so) :
  evE T g ⟨fr',hp,nx⟩ (fun s st=>K s st.hp st.nx) so:=by
 cases so <;> (try simp only [pS] at h) <;> (try simp only [evE,tE] at he ⊢) <;> first
  | exact he
  | (rw [bQ h] at he; exact he)
  | (rw [sX h] at he; exact he)
  | (rw [bQ h.l,bQ h.r] at he; exact he)
  | (rw [bQ h.l.l,bQ h.l.r,bQ h.r] at he; exact he)
  | (simp only [Gs] at he ⊢; rw [bQ h.l,bQ h.r] at he; exact he)
  | (rw [bQ h.l,rV h.r] at he; simp only [tO] at he ⊢; exact he)
end
def eX (s:SV) (k:SV->Prop):Prop :=
 bC s fun s=>match s with
 | .gd _ _ _=>False
 | s=>k s
structure aR where
 o:bP
 pre:List Nat
 tp:Nat
 eff:Bool
inductive cY where
 | done
 | none
 | pure (i:Nat) (o:bP) (rest:cY)
 | eff (i:Nat) (o:bP) (stab:List bP) (sub alt:cY)
 deriving Repr
def jW:SOp->Bool
 | .load ..=>true
 | .call ..=>true
 | _=>false
def nQ (tab:List (Nat×cZ)) (fr:List (Nat×SV)) (hp:List (Nat×aC)) (nx:Nat) (hp':List (Nat×aC)) (nx':Nat):List bP->Prop
 | []=>True
 | o::r=>evP tab o.guard ⟨fr,hp',nx'⟩ o.op=evP tab o.guard ⟨fr,hp,nx⟩ o.op/\nQ tab fr hp nx hp' nx' r
def sI (d:Option Nat) (s:SV) (fr:List (Nat×SV)) (k:List (Nat×SV)->Prop):Prop :=
 match d with
 | none=>k fr
 | some d=>eX s fun s=>k ((d,s)::fr)
def evD (T:Tb):cY->List (Nat×SV)->List (Nat×aC)->Nat->(St->Prop)->Prop
 | .done,fr,hp,nx,k=>k ⟨fr,hp,nx⟩
 | .none,_,_,_,_=>True
 | .pure _ o rest,fr,hp,nx,k=>match o.dst with
  | none=>False
  | some d=>match o.guard with
   | none=>match evP T.fs none ⟨fr,hp,nx⟩ o.op with
    | .fail=>False
    | .ok v=>eX v fun v=>evD T rest ((d,v)::fr) hp nx k
    | .side p v=>p/\eX v fun v=>evD T rest ((d,v)::fr) hp nx k
   | some (d0,w)=>match evP T.fs (some (d0,w)) ⟨fr,hp,nx⟩ o.op with
    | .fail=>(eE fr 10 d0 w->False)/\evD T rest ((d,.gd d0 w .junk)::fr) hp nx k
    | .ok v=>bC v fun v=>evD T rest ((d,.gd d0 w v)::fr) hp nx k
    | .side p v=>(eE fr 10 d0 w->p)/\bC v fun v=>evD T rest ((d,.gd d0 w v)::fr) hp nx k
 | .eff _ o stab sub alt,fr,hp,nx,k =>
  (match o.guard with
   | none=>evE T none ⟨fr,hp,nx⟩ (fun s st'=>stK st' fun hp' nx'=>nQ T.fs fr hp nx hp' nx' stab/\sI o.dst s fr fun fr'=>evD T sub fr' hp' nx' k) o.op
   | some (d0,w)=>iK fr 10 d0 w (evE T (some (d0,w)) ⟨fr,hp,nx⟩ (fun s st'=>stK st' fun hp' nx'=>nQ T.fs fr hp nx hp' nx' stab/\sI o.dst s fr fun fr'=>evD T sub fr' hp' nx' k) o.op)
     (sI o.dst (.tup .nil) fr fun fr'=>evD T sub fr' hp nx k)) /\
  evD T alt fr hp nx k
def mG (S:List Nat):List Nat->Bool
 | []=>true
 | p::r=>bif bD S p then mG S r else false
theorem jE {S:List Nat}:∀ {l:List Nat},mG S l=true ↔ ∀ p∈l,p∈S:=by
 intro l
 induction l with
 | nil=>simp [mG]
 | cons a r ih =>
  simp only [mG]
  cases h:bD S a with
  | true=>simp [ih,dE.1 h]
  | false =>
   simp only [cond_false,Bool.false_eq_true,List.mem_cons,forall_eq_or_imp,false_iff,not_and]
   intro ha
   rw [dE.2 ha] at h
   cases h
def xH (I:List aR) (S:List Nat):List aR->Nat->Option (Nat×aR)
 | [],_=>none
 | x::r,i=>bif !x.eff && !bD S i && mG S x.pre then some (i,x) else xH I S r (i+1)
def oT (S:List Nat):List aR->Nat->List (Nat×aR)
 | [],_=>[]
 | x::r,i=>bif x.eff && !bD S i && mG S x.pre then (i,x)::oT S r (i+1) else oT S r (i+1)
def xR (I:List aR) (tp:Nat):List Nat->List bP
 | []=>[]
 | j::r=>match I[j]? with
  | some y=>bif !y.eff && jW y.o.op && !tp.testBit j then y.o::xR I tp r else xR I tp r
  | none=>xR I tp r
def pH (f:List Nat->Option cY) (I:List aR) (S:List Nat):List (Nat×aR)->Option cY
 | []=>some .none
 | (e,x)::r=>match f (e::S) with
  | some sub=>match pH f I S r with
   | some alt=>some (.eff e x.o (xR I x.tp S) sub alt)
   | none=>none
  | none=>none
def upL:Nat->List Nat
 | 0=>[]
 | n+1=>n::upL n
def rI (I:List aR):Nat->List Nat->Option cY
 | 0,_=>none
 | f+1,S=>bif mG S (upL I.length) then some .done else
  match xH I S I 0 with
  | some (i,x)=>match rI I f (i::S) with
   | some t=>some (.pure i x.o t)
   | none=>none
  | none=>pH (rI I f) I S (oT S I 0)
def Closed (I:List aR) (S:List Nat):Prop:=∀ i x,I[i]?=some x->x.eff=false->(∀ p∈x.pre,p∈S)->i∈S
def eU (I:List aR):Option (List Nat)->List Nat->cY->Prop
 | none,S,.done=>∀ i,i < I.length->i∈S
 | none,S,.pure i o rest=>(∃ x,I[i]?=some x/\x.o=o/\x.eff=false/\i ∉ S/\∀ p∈x.pre,p∈S)/\eU I none (i::S) rest
 | none,S,.eff e o st sub alt=>Closed I S/\(∃ i,i < I.length/\i ∉ S) /\
   (∃ x,I[e]?=some x/\x.o=o/\x.eff=true/\e ∉ S/\(∀ p∈x.pre,p∈S)/\∀ j∈S,∀ y,I[j]?=some y->y.eff=false->jW y.o.op=true->x.tp.testBit j=false->y.o∈st)/\eU I none (e::S) sub/\eU I (some [e]) S alt
 | none,S,.none=>Closed I S/\(∃ i,i < I.length/\i ∉ S)/\∀ e x,I[e]?=some x->x.eff=true->e ∉ S->(∀ p∈x.pre,p∈S)->False
 | some es,S,.eff e o st sub alt =>
   (∃ x,I[e]?=some x/\x.o=o/\x.eff=true/\e ∉ S/\(∀ p∈x.pre,p∈S)/\∀ j∈S,∀ y,I[j]?=some y->y.eff=false->jW y.o.op=true->x.tp.testBit j=false->y.o∈st)/\eU I none (e::S) sub/\eU I (some (e::es)) S alt
 | some es,S,.none=>∀ e x,I[e]?=some x->x.eff=true->e ∉ S->(∀ p∈x.pre,p∈S)->e∈es
 | some _,_,_=>False
theorem Jn {I:List aR} {tp:Nat}:∀ {S:List Nat} {j:Nat} {y:aR},j∈S->I[j]?=some y->y.eff=false->jW y.o.op=true->tp.testBit j=false->y.o∈xR I tp S:=by
 intro S
 induction S with
 | nil=>intro j y h; cases h
 | cons a r ih =>
  intro j y h h1 h2 h3 h4
  simp only [xR]
  rcases List.mem_cons.1 h with rfl|h
  ·rw [h1]
   simp [h2,h3,h4]
  ·have:=ih h h1 h2 h3 h4
   split
   ·rename_i z hz
    cases (!z.eff && jW z.o.op && !tp.testBit a) with
    | true=>simp only [cond_true]; exact List.mem_cons_of_mem _ this
    | false=>exact this
   ·exact this
theorem Fb {I:List aR} {U:List Nat}:∀ {l:List aR} {k i:Nat} {x:aR},xH I U l k=some (i,x)->∃ j,i=k+j/\l[j]?=some x/\x.eff=false/\i ∉ U/\∀ p∈x.pre,p∈U:=by
 intro l
 induction l with
 | nil=>intro k i x h; cases h
 | cons a r ih =>
  intro k i x h
  simp only [xH] at h
  cases hb:(!a.eff && !bD U k && mG U a.pre) with
  | true =>
   simp only [hb,cond_true,Option.some.injEq,Prod.mk.injEq] at h
   obtain ⟨rfl,rfl⟩:=h
   simp only [Bool.and_eq_true,Bool.not_eq_true'] at hb
   refine ⟨0,rfl,rfl,hb.1.1,?_,jE.1 hb.2⟩
   intro hm
   rw [dE.2 hm] at hb
   exact absurd hb.1.2 (by simp)
  | false =>
   simp only [hb,cond_false] at h
   obtain ⟨j,e,h1,h2⟩:=ih h
   exact ⟨j+1,by omega,h1,h2⟩
theorem Fa {I:List aR} {U:List Nat}:∀ {l:List aR} {k:Nat},xH I U l k=none->∀ j x,l[j]?=some x->x.eff=false->(∀ p∈x.pre,p∈U)->k+j∈U:=by
 intro l
 induction l with
 | nil=>intro k _ j x h; simp at h
 | cons a r ih =>
  intro k h j x hj he hp
  simp only [xH] at h
  cases hb:(!a.eff && !bD U k && mG U a.pre) with
  | true=>simp [hb] at h
  | false =>
   simp only [hb,cond_false] at h
   cases j with
   | zero =>
    simp only [List.getElem?_cons_zero,Option.some.injEq] at hj
    subst hj
    rw [jE.2 hp,he] at hb
    simp only [Bool.not_false,Bool.true_and,Bool.and_true,Bool.not_eq_false'] at hb
    exact dE.1 hb
   | succ j =>
    have:=ih h j x (by simpa using hj) he hp
    rw [show k+(j+1)=k+1+j by omega]
    exact this
theorem xG {U:List Nat}:∀ {l:List aR} {k:Nat} {p:Nat×aR},p∈oT U l k ↔ ∃ j,p.1=k+j/\l[j]?=some p.2/\p.2.eff=true/\p.1 ∉ U/\∀ q∈p.2.pre,q∈U:=by
 intro l
 induction l with
 | nil=>intro k p; simp [oT]
 | cons a r ih =>
  intro k p
  simp only [oT]
  have tail:(∃ j,p.1=k+1+j/\r[j]?=some p.2/\p.2.eff=true/\p.1 ∉ U/\∀ q∈p.2.pre,q∈U) ↔ ∃ j,p.1=k+(j+1)/\(a::r)[j+1]?=some p.2/\p.2.eff=true/\p.1 ∉ U/\∀ q∈p.2.pre,q∈U:=by
   constructor <;> rintro ⟨j,h1,h2⟩ <;> exact ⟨j,by omega,by simpa using h2⟩
  cases hb:(a.eff && !bD U k && mG U a.pre) with
  | true =>
   simp only [cond_true,List.mem_cons,ih,tail]
   simp only [Bool.and_eq_true,Bool.not_eq_true'] at hb
   constructor
   ·rintro (rfl|⟨j,h⟩)
    ·refine ⟨0,rfl,rfl,hb.1.1,?_,jE.1 hb.2⟩
     intro hm
     have:=hb.1.2
     rw [dE.2 hm] at this
     cases this
    ·exact ⟨j+1,h⟩
   ·rintro ⟨j,h1,h2,h3⟩
    cases j with
    | zero =>
     left
     simp only [List.getElem?_cons_zero,Option.some.injEq] at h2
     obtain ⟨p1,p2⟩:=p
     simp only at h1 h2
     rw [h1,h2]
     rfl
    | succ j=>exact .inr ⟨j,h1,h2,h3⟩
  | false =>
   simp only [cond_false,ih,tail]
   constructor
   ·rintro ⟨j,h⟩; exact ⟨j+1,h⟩
   ·rintro ⟨j,h1,h2,h3,h4,h5⟩
    cases j with
    | zero =>
     simp only [List.getElem?_cons_zero,Option.some.injEq] at h2
     exfalso
     rw [h2,h3,jE.2 h5] at hb
     have h1':p.1=k:=h1
     rw [h1'] at h4
     have:bD U k=false:=by
      cases hm:bD U k with
      | false=>rfl
      | true=>exact absurd (dE.1 hm) h4
     simp [this] at hb
    | succ j=>exact ⟨j,h1,h2,h3,h4,h5⟩
theorem Hq {i:Nat}:∀ {n:Nat},i∈upL n ↔ i < n:=by
 intro n
 induction n with
 | zero=>simp [upL]
 | succ n ih=>simp only [upL,List.mem_cons,ih]; omega
theorem H7 {I:List aR} {f:List Nat->Option cY} (hf:∀ S t,f S=some t->eU I none S t) {S:List Nat}:∀ (l:List (Nat×aR)) (es:List Nat) (t:cY),pH f I S l=some t ->
  (∀ p∈l,I[p.1]?=some p.2/\p.2.eff=true/\p.1 ∉ S/\∀ q∈p.2.pre,q∈S)->(∀ e x,I[e]?=some x->x.eff=true->e ∉ S->(∀ p∈x.pre,p∈S)->e∈es\/∃ p∈l,p.1=e)->eU I (some es) S t:=by
 intro l
 induction l with
 | nil =>
  intro es t h _ h2
  simp only [pH,Option.some.injEq] at h
  subst h
  intro e x h3 h4 h5 h6
  rcases h2 e x h3 h4 h5 h6 with h|⟨p,hp,_⟩
  ·exact h
  ·cases hp
 | cons p r ih =>
  obtain ⟨e,x⟩:=p
  intro es t h h1 h2
  simp only [pH] at h
  split at h
  ·rename_i sub hs
   split at h
   ·rename_i alt ha
    cases h
    obtain ⟨g1,g2,g3,g4⟩:=h1 (e,x) (List.mem_cons_self ..)
    refine ⟨⟨x,g1,rfl,g2,g3,g4,fun j hj y hy he hr ht=>Jn hj hy he hr ht⟩,hf _ _ hs,ih (e::es) alt ha (fun p hp=>h1 p (List.mem_cons_of_mem _ hp)) ?_⟩
    intro e' x' h3 h4 h5 h6
    rcases h2 e' x' h3 h4 h5 h6 with h|⟨p,hp,hpe⟩
    ·exact .inl (List.mem_cons_of_mem _ h)
    ·rcases List.mem_cons.1 hp with rfl|hp
     ·exact .inl (by rw [<- hpe]; exact List.mem_cons_self ..)
     ·exact .inr ⟨p,hp,hpe⟩
   ·cases h
  ·cases h
theorem wP {I:List aR}:∀ (f:Nat) (S:List Nat) (t:cY),rI I f S=some t->eU I none S t:=by
 intro f
 induction f with
 | zero=>intro S t h; cases h
 | succ f ih =>
  intro S t h
  simp only [rI] at h
  cases ha:mG S (upL I.length) with
  | true =>
   simp only [ha,cond_true,Option.some.injEq] at h
   subst h
   exact fun i hi=>jE.1 ha i (Hq.2 hi)
  | false =>
   simp only [ha,cond_false] at h
   have left:∃ i,i < I.length/\i ∉ S:=by
    refine Classical.byContradiction fun hn=>?_
    have:mG S (upL I.length)=true:=jE.2 fun p hp=>Classical.byContradiction fun hp2=>hn ⟨p,Hq.1 hp,hp2⟩
    rw [this] at ha
    cases ha
   split at h
   ·rename_i i x hn
    split at h
    ·rename_i t' ht
     cases h
     obtain ⟨j,e,h1,h2,h3,h4⟩:=Fb hn
     rw [Nat.zero_add] at e
     subst e
     exact ⟨⟨x,h1,rfl,h2,h3,h4⟩,ih _ _ ht⟩
    ·cases h
   ·rename_i hn
    have hcl:Closed I S:=fun i x h1 h2 h3=>by simpa using Fa hn i x h1 h2 h3
    have hmem:∀ p∈oT S I 0,I[p.1]?=some p.2/\p.2.eff=true/\p.1 ∉ S/\∀ q∈p.2.pre,q∈S:=by
     intro p hp
     obtain ⟨j,e,h1⟩:=xG.1 hp
     rw [Nat.zero_add] at e
     rw [e]
     rw [e] at h1
     exact h1
    have hall:∀ e x,I[e]?=some x->x.eff=true->e ∉ S->(∀ p∈x.pre,p∈S)->e∈([]:List Nat)\/∃ p∈oT S I 0,p.1=e:=by
     intro e x h1 h2 h3 h4
     exact .inr ⟨(e,x),xG.2 ⟨e,by simp,h1,h2,h3,h4⟩,rfl⟩
    cases hl:oT S I 0 with
    | nil =>
     rw [hl] at h hall
     simp only [pH,Option.some.injEq] at h
     subst h
     refine ⟨hcl,left,fun e x h1 h2 h3 h4=>?_⟩
     rcases hall e x h1 h2 h3 h4 with hh|⟨p,hp,_⟩
     ·cases hh
     ·cases hp
    | cons p r =>
     have hc:=H7 ih (oT S I 0) [] t h hmem hall
     rw [hl] at h
     obtain ⟨e,x⟩:=p
     simp only [pH] at h
     split at h
     ·split at h
      ·cases h
       exact ⟨hcl,left,hc⟩
      ·cases h
     ·cases h
end Go.Eng
end
section
namespace Go.Eng
open Go Go.RowKit
def cK (o:Oper):List Nat:=(o.after.toList.filter (Region.binds .any)).map (·.on)
def kZ (acc:List aR):List Nat->Nat
 | []=>0
 | p::r=>kZ acc r ||| (1 <<< p) ||| (match acc[p]? with|some y=>y.tp|none=>0)
def Kt (hint:List Nat) (o:bP):Bool :=
 match o.op with
 | .call _ _=>match o.dst with
  | some d=>bD hint d
  | none=>true
 | .buildSl _ _ _ _ _=>match o.dst with
  | some d=>bD hint d
  | none=>false
 | .load _ _ _=>match o.dst with
  | some d=>bD hint d
  | none=>false
 | op=>Ot op
def lQ (n:Nat):List Nat->Bool
 | []=>true
 | p::r=>bif Nat.blt p n then lQ n r else false
def eR (o:bP):List Nat:=pS o.op++(match o.guard with|some (d,_)=>[d]|none=>[])
def xK (o:bP):Bool:=match o.dst with
 | some d=>!bD (eR o) d
 | none=>true
def mkI (hint:List Nat):List Oper->List bP->List aR->Option (List aR)
 | [],[],acc=>some acc
 | o::r,s::t,acc=>bif lQ acc.length (cK o) then bif (Kt hint s || s.dst.isSome) && xK s then mkI hint r t (acc++[⟨s,cK o,kZ acc (cK o),Kt hint s⟩]) else none else none
 | _,_,_=>none
def jT (o:bP):List Nat :=
 pS o.op++(match o.guard with|some (d,_)=>[d]|none=>[])++(match o.dst with|some d=>[d]|none=>[])
def C4 (tp i t:Nat):List aR->Nat->Bool
 | [],_=>true
 | y::r,j=>match y.o.dst with
  | some d=>bif Nat.beq d t && !Nat.beq i j && !tp.testBit j then false else C4 tp i t r (j+1)
  | none=>C4 tp i t r (j+1)
def I6 (I:List aR) (tp i:Nat):List Nat->Bool
 | []=>true
 | t::r=>bif C4 tp i t I 0 then I6 I tp i r else false
def Co (I:List aR):List aR->Nat->Bool
 | [],_=>true
 | x::r,i=>bif I6 I x.tp i (jT x.o) then Co I r (i+1) else false
def wQ (P:Program) (n:Nat) (hint:List Nat) (ops:List Oper):Option cY :=
 bif P.follows .mixedOrders then
  match gC P n ops ops with
  | some sl=>match mkI hint ops sl [] with
   | some I=>bif Co I I 0 then rI I (I.length+1) [] else none
   | none=>none
  | none=>none
 else none
structure DOk (P:Program) (n:Nat) (ops:Array Oper) (I:List aR):Prop where
 len:I.length<=ops.size
 op:∀ (i:Nat) (o:Oper),i < I.length->ops[i]?=some o->∃ x:aR,I[i]?=some x/\oO P n ops.toList o=some x.o/\x.pre=cK o
 lt:∀ (i:Nat) (x:aR),I[i]?=some x->∀ p∈x.pre,p < i
 tp:∀ (i:Nat) (x:aR),I[i]?=some x->∀ j,x.tp.testBit j=true->j∈x.pre\/∃ p∈x.pre,∃ y,I[p]?=some y/\y.tp.testBit j=true
 nm:∀ (i j:Nat) (x y:aR) (t:Nat),I[i]?=some x->I[j]?=some y->t∈jT x.o->y.o.dst=some t->i≠j->x.tp.testBit j=true
 dst:∀ (i:Nat) (x:aR),I[i]?=some x->x.eff=false->∃ d,x.o.dst=some d
 own:∀ (i:Nat) (x:aR),I[i]?=some x->xK x.o=true
theorem pB {n:Nat}:∀ {l:List Nat},lQ n l=true->∀ p∈l,p < n:=by
 intro l
 induction l with
 | nil=>intro _ p h; cases h
 | cons a r ih =>
  intro h p hp
  simp only [lQ] at h
  cases hb:Nat.blt a n with
  | false=>simp [hb] at h
  | true =>
   simp only [hb,cond_true] at h
   rcases List.mem_cons.1 hp with rfl|hp
   ·exact Nat.le_of_ble_eq_true (n:=p+1) hb
   ·exact ih h p hp
theorem vB {acc:List aR} {j:Nat}:∀ {l:List Nat},(kZ acc l).testBit j=true->j∈l\/∃ p∈l,∃ y,acc[p]?=some y/\y.tp.testBit j=true:=by
 intro l
 induction l with
 | nil=>intro h; simp [kZ] at h
 | cons p r ih =>
  intro h
  simp only [kZ,Nat.testBit_or,Bool.or_eq_true] at h
  rcases h with (h|h)|h
  ·rcases ih h with h|⟨q,h1,h2⟩
   ·exact .inl (List.mem_cons_of_mem _ h)
   ·exact .inr ⟨q,List.mem_cons_of_mem _ h1,h2⟩
  ·left
   rw [Nat.one_shiftLeft,Nat.testBit_two_pow] at h
   have:p=j:=by simpa using h
   subst this
   exact List.mem_cons_self ..
  ·split at h
   ·rename_i y hy
    exact .inr ⟨p,List.mem_cons_self ..,y,hy,h⟩
   ·simp at h
theorem Tp {P:Program} {n:Nat} {ops:List Oper} {hint:List Nat}:∀ (l:List Oper) (sl:List bP) (acc I:List aR) (done rest:List Oper),ops=done++l++rest->gC P n ops l=some sl->mkI hint l sl acc=some I->acc.length=done.length ->
  (∀ (i:Nat) (x:aR),acc[i]?=some x->(∃ o,done[i]?=some o/\oO P n ops o=some x.o/\x.pre=cK o)/\(∀ p∈x.pre,p < i)/\(∀ j,x.tp.testBit j=true->j∈x.pre\/∃ p∈x.pre,∃ y,acc[p]?=some y/\y.tp.testBit j=true)/\(x.eff=false->∃ d,x.o.dst=some d)/\xK x.o=true) ->
  I.length+rest.length=ops.length/\∀ (i:Nat) (x:aR),I[i]?=some x->(∃ o,ops[i]?=some o/\oO P n ops o=some x.o/\x.pre=cK o)/\(∀ p∈x.pre,p < i)/\(∀ j,x.tp.testBit j=true->j∈x.pre\/∃ p∈x.pre,∃ y,I[p]?=some y/\y.tp.testBit j=true)/\(x.eff=false->∃ d,x.o.dst=some d)/\xK x.o=true:=by
 intro l
 induction l with
 | nil =>
  intro sl acc I done rest ho hc hm hl hacc
  simp only [gC,Option.some.injEq] at hc
  subst hc
  simp only [mkI,Option.some.injEq] at hm
  subst hm
  simp only [List.append_nil] at ho
  subst ho
  refine ⟨by simp [hl],fun i x hx=>?_⟩
  obtain ⟨⟨o,e1,e2⟩,e3⟩:=hacc i x hx
  exact ⟨⟨o,by rw [List.getElem?_append_left (List.getElem?_eq_some_iff.1 e1).1]; exact e1,e2⟩,e3⟩
 | cons o r ih =>
  intro sl acc I done rest ho hc hm hl hacc
  simp only [gC] at hc
  split at hc
  ·rename_i so sr h1 h2
   cases hc
   simp only [mkI] at hm
   cases hb1:lQ acc.length (cK o) with
   | false=>simp [hb1] at hm
   | true =>
   cases hb2:((Kt hint so || so.dst.isSome) && xK so) with
   | false=>simp [hb1,hb2] at hm
   | true =>
   simp only [hb1,hb2,cond_true] at hm
   simp only [Bool.and_eq_true] at hb2
   refine ih sr _ I (done++[o]) rest (by rw [ho]; simp) h2 hm (by simp [hl]) ?_
   intro i x hx
   have grow:∀ {p:Nat} {y:aR},acc[p]?=some y->(acc++[⟨so,cK o,kZ acc (cK o),Kt hint so⟩])[p]?=some y:=by
    intro p y e
    rw [List.getElem?_append_left (List.getElem?_eq_some_iff.1 e).1]
    exact e
   by_cases hi:i < acc.length
   ·rw [List.getElem?_append_left hi] at hx
    obtain ⟨⟨o',e1,e2⟩,e3,e4,e5⟩:=hacc i x hx
    refine ⟨⟨o',?_,e2⟩,e3,fun j hj=>?_,e5⟩
    ·rw [List.getElem?_append_left (by omega)]; exact e1
    ·rcases e4 j hj with h|⟨p,hp,y,hy,hb⟩
     ·exact .inl h
     ·exact .inr ⟨p,hp,y,grow hy,hb⟩
   ·rw [List.getElem?_append_right (by omega)] at hx
    have hi0:i - acc.length=0:=by
     have:=(List.getElem?_eq_some_iff.1 hx).1
     simp at this
     omega
    rw [hi0] at hx
    simp only [List.getElem?_cons_zero,Option.some.injEq] at hx
    subst hx
    have hil:i=acc.length:=by omega
    subst hil
    refine ⟨⟨o,?_,h1,rfl⟩,pB hb1,fun j hj=>?_,fun he=>?_,hb2.2⟩
    ·rw [hl,List.getElem?_append_right (Nat.le_refl _)]; simp
    ·rcases vB hj with h|⟨p,hp,y,hy,hb⟩
     ·exact .inl h
     ·exact .inr ⟨p,hp,y,grow hy,hb⟩
    ·have he':Kt hint so=false:=he
     have h1:=hb2.1
     rw [he'] at h1
     simp only [Bool.false_or] at h1
     exact Option.isSome_iff_exists.1 h1
  ·cases hc
theorem Ny {tp i t:Nat}:∀ {l:List aR} {k:Nat},C4 tp i t l k=true->∀ (j:Nat) (y:aR),l[j]?=some y->y.o.dst=some t->i≠k+j->tp.testBit (k+j)=true:=by
 intro l
 induction l with
 | nil=>intro k _ j y h; simp at h
 | cons a r ih =>
  intro k h j y hy hd hne
  have key:C4 tp i t r (k+1)=true/\(a.o.dst=some t->i≠k->tp.testBit k=true):=by
   simp only [C4] at h
   split at h
   ·rename_i d had
    cases hb:(Nat.beq d t && !Nat.beq i k && !tp.testBit k) with
    | true=>simp [hb] at h
    | false =>
     simp only [hb,cond_false] at h
     refine ⟨h,fun e hik=>?_⟩
     rw [had] at e
     cases e
     have:Nat.beq i k=false:=by
      cases e:Nat.beq i k with
      | false=>rfl
      | true=>exact absurd (Nat.eq_of_beq_eq_true e) hik
     simp [this,Nat.beq_refl] at hb
     exact hb
   ·rename_i had
    exact ⟨h,fun e=>by rw [had] at e; cases e⟩
  cases j with
  | zero =>
   simp only [List.getElem?_cons_zero,Option.some.injEq] at hy
   subst hy
   exact key.2 hd hne
  | succ j =>
   rw [show k+(j+1)=k+1+j by omega]
   exact ih key.1 j y (by simpa using hy) hd (by omega)
theorem Ml {I:List aR} {tp i:Nat}:∀ {l:List Nat},I6 I tp i l=true->∀ t∈l,C4 tp i t I 0=true:=by
 intro l
 induction l with
 | nil=>intro _ t h; cases h
 | cons a r ih =>
  intro h t ht
  simp only [I6] at h
  cases hb:C4 tp i a I 0 with
  | false=>simp [hb] at h
  | true =>
   simp only [hb,cond_true] at h
   rcases List.mem_cons.1 ht with rfl|ht
   ·exact hb
   ·exact ih h t ht
theorem M8 {I:List aR}:∀ {l:List aR} {k:Nat},Co I l k=true->∀ (j:Nat) (x:aR),l[j]?=some x->I6 I x.tp (k+j) (jT x.o)=true:=by
 intro l
 induction l with
 | nil=>intro k _ j x h; simp at h
 | cons a r ih =>
  intro k h j x hx
  simp only [Co] at h
  cases hb:I6 I a.tp k (jT a.o) with
  | false=>simp [hb] at h
  | true =>
   simp only [hb,cond_true] at h
   cases j with
   | zero =>
    simp only [List.getElem?_cons_zero,Option.some.injEq] at hx
    subst hx
    exact hb
   | succ j =>
    rw [show k+(j+1)=k+1+j by omega]
    exact ih h j x (by simpa using hx)
theorem Ko {P:Program} {n:Nat} {hint:List Nat} {ops:Array Oper} {l rest:List Oper} {sl:List bP} {I:List aR} (hl:ops.toList=l++rest) (hsl:gC P n ops.toList l=some sl) (hI:mkI hint l sl []=some I) (hs:Co I I 0=true) :
  DOk P n ops I/\I.length=l.length:=by
 obtain ⟨h1,h2⟩:=Tp l sl [] I [] rest (by simpa using hl) hsl hI rfl (by intro i x hx; simp at hx)
 have h3:I.length=l.length:=by
  have:=congrArg List.length hl
  simp only [List.length_append] at this
  omega
 refine ⟨⟨?_,?_,fun i x hx=>(h2 i x hx).2.1,fun i x hx=>(h2 i x hx).2.2.1,?_,fun i x hx=>(h2 i x hx).2.2.2.1,fun i x hx=>(h2 i x hx).2.2.2.2⟩,h3⟩
 ·have:ops.toList.length=ops.size:=by simp
  omega
 ·intro i o hlt ho
  obtain ⟨⟨o',e1,e2,e3⟩,_⟩:=h2 i I[i] (List.getElem?_eq_getElem hlt)
  have ho':ops.toList[i]?=some o:=by simpa using ho
  rw [ho'] at e1
  cases e1
  exact ⟨I[i],List.getElem?_eq_getElem hlt,e2,e3⟩
 ·intro i j x y t hx hy ht hd hne
  have:=Ny (Ml (M8 hs i x hx) t ht) j y hy hd (by omega)
  simpa using this
theorem Ki {P:Program} {n:Nat} {hint:List Nat} {ops:Array Oper} {t:cY} (h:wQ P n hint ops.toList=some t):P.follows .mixedOrders=true/\∃ I,DOk P n ops I/\I.length=ops.size/\eU I none [] t:=by
 unfold wQ at h
 cases hf:P.follows .mixedOrders with
 | false=>simp [hf] at h
 | true =>
 simp only [hf,cond_true] at h
 split at h
 ·rename_i sl hsl
  split at h
  ·rename_i I hI
   cases hs:Co I I 0 with
   | false=>simp [hs] at h
   | true =>
   simp only [hs,cond_true] at h
   obtain ⟨h1,h2⟩:=Ko (rest:=[]) (by simp) hsl hI hs
   exact ⟨rfl,I,h1,by simpa using h2,wP _ _ _ h⟩
  ·cases h
 ·cases h
def uC (m:Nat):Nat->Bool
 | 0=>true
 | n+1=>bif m.testBit n then uC m n else false
theorem Di {m:Nat}:∀ {n:Nat},uC m n=true->∀ i,i < n->m.testBit i=true:=by
 intro n
 induction n with
 | zero=>intro _ i hi; omega
 | succ n ih =>
  intro h i hi
  simp only [uC] at h
  cases hb:m.testBit n with
  | false=>simp [hb] at h
  | true =>
   simp only [hb,cond_true] at h
   by_cases e:i=n
   ·rw [e]; exact hb
   ·exact ih h i (by omega)
def vQ:Nat->List Oper->Bool
 | _,[]=>true
 | n,o::r=>bif bD (cK o) n && lQ (n+1) (cK o) then vQ (n+1) r else false
theorem F9:∀ {l:List Oper} {n:Nat},vQ n l=true->∀ j o,l[j]?=some o->n+j∈cK o/\∀ p∈cK o,p < n+j+1:=by
 intro l
 induction l with
 | nil=>intro n _ j o h; simp at h
 | cons a r ih =>
  intro n h j o ho
  simp only [vQ] at h
  cases hb:(bD (cK a) n && lQ (n+1) (cK a)) with
  | false=>simp [hb] at h
  | true =>
   simp only [hb,cond_true] at h
   simp only [Bool.and_eq_true] at hb
   cases j with
   | zero =>
    simp only [List.getElem?_cons_zero,Option.some.injEq] at ho
    subst ho
    exact ⟨dE.1 hb.1,pB hb.2⟩
   | succ j =>
    simp only [List.getElem?_cons_succ] at ho
    have:=ih h j o ho
    have e:n+1+j=n+(j+1):=by omega
    rw [e] at this
    exact this
def pD (P:Program) (n:Nat) (hint:List Nat) (ops:List Oper) (k:Nat):Option (cY×List bP) :=
 bif P.follows .mixedOrders then
  match ops.drop (ops.length - k) with
  | o::r=>match gC P n ops (ops.take (ops.length - k)),gC P n ops (o::r) with
   | some sl,some so=>match mkI hint (ops.take (ops.length - k)) sl [] with
    | some I=>bif Co I I 0 && lQ I.length (cK o) && uC (kZ I (cK o)) I.length && vQ I.length r then
      match rI I (I.length+1) [] with
      | some t=>some (t,so)
      | none=>none
     else none
    | none=>none
   | _,_=>none
  | []=>none
 else none
def rJ (P:Program) (n:Nat) (hint:List Nat) (ops:List Oper):Option (cY×List bP) :=
 match pD P n hint ops 1 with
 | some r=>some r
 | none=>match pD P n hint ops 2 with
  | some r=>some r
  | none=>match pD P n hint ops 3 with
   | some r=>some r
   | none=>pD P n hint ops 4
theorem H5 {P:Program} {n:Nat} {hint:List Nat} {ops:Array Oper} {t:cY} {so:List bP} {k:Nat} (h:pD P n hint ops.toList k=some (t,so)) :
  P.follows .mixedOrders=true/\∃ I o r,DOk P n ops I/\ops.toList.drop I.length=o::r/\eU I none [] t/\gC P n ops.toList (o::r)=some so/\(∀ p∈cK o,p < I.length)/\(∀ i,i < I.length->(kZ I (cK o)).testBit i=true) /\
   ∀ j o',r[j]?=some o'->I.length+j∈cK o'/\∀ p∈cK o',p < I.length+j+1:=by
 unfold pD at h
 cases hf:P.follows .mixedOrders with
 | false=>simp [hf] at h
 | true =>
 simp only [hf,cond_true] at h
 split at h
 ·rename_i o r ho
  split at h
  ·rename_i sl so' hsl hso
   split at h
   ·rename_i I hI
    cases hs:(Co I I 0 && lQ I.length (cK o) && uC (kZ I (cK o)) I.length && vQ I.length r) with
    | false=>simp [hs] at h
    | true =>
    simp only [hs,cond_true] at h
    simp only [Bool.and_eq_true] at hs
    obtain ⟨⟨⟨hs1,hs2⟩,hs3⟩,hs4⟩:=hs
    split at h
    ·rename_i t' ht
     simp only [Option.some.injEq,Prod.mk.injEq] at h
     obtain ⟨rfl,rfl⟩:=h
     have hl:ops.toList=ops.toList.take (ops.toList.length - k)++(o::r):=by rw [<- ho,List.take_append_drop]
     obtain ⟨h1,h2⟩:=Ko (rest:=o::r) hl hsl hI hs1
     refine ⟨rfl,I,o,r,h1,?_,wP _ _ _ ht,hso,pB hs2,Di hs3,F9 hs4⟩
     rw [h2,<- ho]
     congr 1
     rw [List.length_take]
     omega
    ·cases h
   ·cases h
  ·cases h
 ·cases h
theorem H4 {P:Program} {n:Nat} {hint:List Nat} {ops:Array Oper} {t:cY} {so:List bP} (h:rJ P n hint ops.toList=some (t,so)):∃ k,pD P n hint ops.toList k=some (t,so):=by
 unfold rJ at h
 split at h
 ·rename_i r hr; cases h; exact ⟨_,hr⟩
 ·split at h
  ·rename_i r hr; cases h; exact ⟨_,hr⟩
  ·split at h
   ·rename_i r hr; cases h; exact ⟨_,hr⟩
   ·exact ⟨_,h⟩
end Go.Eng
end
