/- A part of the proof. -/
import Derived.Test.YtpiolkcdfgiefaaGreatDoorEngYr
import Derived.Test.YtpiolkcdfgiefaaGreatDoorProg
import Derived.KernelRfl
section
namespace Go.Eng
open Go Go.RowKit
variable {P:Program}
theorem results_none {fn:Func} {t:Array Value} {w:World} (h:fn.results.toList=[]):(results fn t).run P w=.ok (.tuple #[]) w:=by
 have e:fn.results=#[]:=Array.toList_eq_nil_iff.1 h;simp [results,e]
theorem oN {w:World} {fn:FuncId} {tmps:Array Value} {ps:Array Tmp} {assign body:Code} {l:Nat} {r:Loop} (h:w.heap[l]?=some (.loop r)) :
  (Instr.enterLoop fn tmps ps assign body (some l)).run P w =
   .ok (w.heap.size,[]) (w.alloc (.loop { state:=.ready,pending:=none,fn,tmps,params:=ps,assign,body,defers:=r.defers })):=by
 unfold Instr.enterLoop;simp only [Sem.run_bind,run_getLoop h,run_newObj_alloc,Result.andThen,Sem.run_pure]
theorem Cy {C:Ctx} {μ:Nat->Option (Nat×Nat)} {hp:List (Nat×aT)} {nx n:Nat} {w:World} {args:SV} {vs:List Value} (hn:C.n=n) (hR:R (aN C μ hp w) args vs) (hok:oG args n) (hh:bO C μ hp nx w)
  (hle:C.R0.LeU (aN C μ hp w)) (hkd:Kd C.R0.w w) :
  dR C μ ⟨oL args 0,hp,nx⟩ { tmps:=vs.toArray++Array.replicate (n - vs.toArray.size) undef,defers:=[] } w:=by
 have hlen:=Io hok hR;refine ⟨?_,sN.nil _ _,?_,hh,hle,hkd⟩
 ·simp [hn]; omega
 ·intro s;rcases Ng (t:=vs.toArray++Array.replicate (n - vs.toArray.size) undef) 0 hR s with h1|h1
  ·simp only [bB,if_true,Nat.sub_zero] at h1;have:(vs.toArray++Array.replicate (n - vs.toArray.size) undef).getD s undef=vs.getD s undef:=by
    simp only [bN,aE,Array.getElem?_append,kA,fA];by_cases hs:s < vs.length
    ·simp [hs]
    ·simp only [hs,if_false,Array.getElem?_replicate];have:vs[s]?=none:=by simp; omega
     rw [this];split <;> rfl
   rw [this];exact h1
  ·rw [h1]; exact nQ _ _ _
theorem H3 {n i : Nat} {f : Operand} {f' : SX} {gid gn : Nat} {g : bH} {ps : Array Tmp} {a0 b0 : Code} {a' b' : bH} {fn : Func} {cg : Code} (hf : cX f = some f') (hfn : P.funcs[gid]? = some fn) (hname : (fn.name == "runtime.NumGoroutine") = false) (hbody : fn.body = some cg)
  (hgn:fn.ntmps=gn) (hres:fn.results.toList=[]) (hps:qU n ps.toList=true) (ihg:eG P gn cg g) (iha:eG P n a0 a') (ihb:eG P n b0 b') :
  eG P n (.rangeFunc f ps a0 b0) (.range i f' gid g gn ps.toList a' b'):=by
 intro C ro T st a w K Q hn hC hK hs he;obtain ⟨⟨μ,h⟩,hlab⟩:=hs;obtain ⟨fr,hp,nx⟩:=st;have hTd:T.dep=C.dep:=hC.tb.dep;have hx:=pY (E:=aN C μ hp w) (a:=a) (fr:=fr) (g:=none) (fun _ _ e=>by cases e) h.fr hf;simp only [evC] at he;split at he;rotate_left
 ·exact he.elim
 rename_i kf caps hgx;rw [hgx] at hx;cases hk1:Nat.beq kf gid with
 | false=>simp [hk1] at he
 | true =>
 cases hk3:Nat.blt kf FM with
 | false=>simp [hk1,hk3] at he
 | true =>
 cases hk2:Nat.blt nx FB with
 | false=>simp [hk1,hk2,hk3] at he
 | true =>
 have:=nbeq hk1;subst this;have hnx:nx < FB:=aM (n:=nx+1) hk2;simp only [hk1,hk2,hk3,Bool.and_self,cond_true] at he;obtain ⟨hok,he⟩:=he;simp only [R] at hx;obtain ⟨cs,hv,hcs⟩:=hx;have hv':=aC.1 hv;unfold fnV at hv';rw [hk3] at hv';simp only [cond_true] at hv';refine wpIn_rangeFunc ?_;intro fn0 hfn0
 -- the record is laid
 obtain ⟨wd,mark,dfr,hent,hbelow,hdf⟩:∃ wd mark dfr,(Instr.enterLoop fn0 a.tmps ps a0 b0 (WF ro).round).run P w=.ok (wd.heap.size,mark) (wd.alloc (.loop { state:=.ready,pending:=none,fn:=fn0,tmps:=a.tmps,params:=ps,assign:=a0,body:=b0,defers:=dfr })) /\
   Below w.heap.size w wd/\sN C.R0.w wd (mark++a.defers):=by
  rw [Fq];cases ro with
  | none =>
   have hb:Below w.heap.size w (w.alloc (.deferred (some []))):=(Below.refl _ _).alloc (aL _) _;refine ⟨w.alloc (.deferred (some [])),_,w.heap.size,by rw [run_enterLoop_outer,World.size_alloc],hb,?_⟩;have hd:=sV (Kd.kY hb) h.defers;refine ⟨bD.2 ⟨?_,hd.1⟩,?_⟩
   ·intro d hd' e;obtain ⟨D,e1,_,e3⟩:=h.defers.2 d hd';rw [e1] at e;cases e;have:=(aS.1 e3).1;omega
   ·intro d hd';rcases aI.1 hd' with rfl|hd'
    ·refine ⟨w.heap.size,rfl,?_,heap_alloc_new w _⟩;exact h.kd.size
    ·exact hd.2 d hd'
  | some l =>
   obtain ⟨r,hr⟩:=hC.ro l rfl;obtain ⟨r',hr'⟩:=h.kd.loop l r hr;exact ⟨w,[],r'.defers,oN hr',Below.refl _ _,by simpa using h.defers⟩
 obtain ⟨rec,hrec⟩:∃ rec:Loop,rec={ state:=.ready,pending:=none,fn:=fn0,tmps:=a.tmps,params:=ps,assign:=a0,body:=b0,defers:=dfr }:=⟨_,rfl⟩;rw [<- hrec] at hent;have hrec0:mT rec 0 (.loop rec):=by simp only [mT]; rw [hrec]
 obtain ⟨H1,hH1⟩:∃ H1:Nat->Nat->Obj->Prop,H1=fun l p o=>C.H l p o\/(l=C.dep/\mT rec p o):=⟨_,rfl⟩;have H1d:∀ l p o,H1 l p o->l < C.dep+1:=by
  intro l p o e;rw [hH1] at e;rcases e with e|⟨e,_⟩
  ·have:=C.Hd _ _ _ e; omega
  ·omega
 have H1l:∀ l p o,H1 l p o->∃ r,o=.loop r:=by
  intro l p o e;rw [hH1] at e;rcases e with e|⟨_,e⟩
  ·exact C.Hl _ _ _ e
  ·exact Be e
 have H1lt:∀ l p o,l < C.dep->(H1 l p o ↔ C.H l p o):=by
  intro l p o hl;rw [hH1];refine ⟨fun e=>e.resolve_right (fun e=>by omega),.inl⟩
 have H1at:∀ p o,H1 C.dep p o ↔ mT rec p o:=by
  intro p o;rw [hH1];refine ⟨fun e=>?_,fun e=>.inr ⟨rfl,e⟩⟩;rcases e with e|e
  ·have:=C.Hd _ _ _ e; omega
  ·exact e.2
 -- the context of the function that is ranged over
 have H1u:∀ l o o',H1 l 0 o->H1 l 0 o'->o=o':=by
  intro l o o' e e';rw [hH1] at e e';rcases e with e|⟨e0,e⟩ <;> rcases e' with e'|⟨e0',e'⟩
  ·exact C.Hu _ _ _ e e'
  ·have:=C.Hd _ _ _ e; omega
  ·have:=C.Hd _ _ _ e'; omega
  ·simp only [mT] at e e';rw [e,e']
 let C1:Ctx:={ C with H:=H1,dep:=C.dep+1,Hd:=H1d,Hl:=H1l,Hu:=H1u };have hd0:=h.hep.below hbelow;have hE0:=kT (C:=C) (μ:=μ) (hp:=hp) hbelow;obtain ⟨hd1,hE1⟩:=hd0.to (C':=C1) rfl rfl rfl (fun l p o e=>by show H1 l p o; rw [hH1]; exact .inl e) hd0.pin;obtain ⟨hE2,hd2⟩:=hd1.alloc hnx (.loop rec) (.hid C.dep 0) rfl 0 ((H1at 0 _).2 hrec0);obtain ⟨w1,hw1⟩:∃ w1,w1=wd.alloc (.loop rec):=⟨_,rfl⟩;obtain ⟨μ1,hμ1⟩:∃ μ1,μ1=upd μ nx (wd.heap.size,0):=⟨_,rfl⟩;rw [<- hw1,<- hμ1] at hE2 hd2;let C':Ctx:={ C1 with n:=gn,np:=fN hp,bnd:=nx+1,pin:=μ1,R0:=aN C1 μ1 ((nx,.hid C.dep 0)::hp) w1 };obtain ⟨hd3,hE3⟩:=hd2.to (C':=C') rfl rfl rfl (fun _ _ _ e=>e) (fun _ _ e=>e);have hEE:=((hE0.trans hE1).trans hE2).trans hE3;have hnxm:μ1 nx=some (wd.heap.size,0):=by rw [hμ1]; simp [upd]
 have hl1:w1.heap[wd.heap.size]?=some (.loop rec):=by rw [hw1]; exact World.alloc_heap_new wd _
 have hsz1:w.heap.size<=w1.heap.size:=hEE.kd.size;have hpinOk:sC C':=by
  intro id p e;have e':μ1 id=some p:=e;by_cases hlt:id < FB
  ·exact .inr ⟨hd3.nx id p e' hlt,hlt⟩
  ·left;obtain ⟨o,ho⟩:=hd3.fam id p e' (bJ.1 hlt);simp only [hget,hlt,if_false] at ho;split at ho
   ·rename_i q hq;simp only [fbase,hlt,if_false];rw [get?_cons] at hq;split at hq
    ·cases hq
    ·exact vJ hq
   ·cases ho
 have cExt:C.Ext C':=⟨Frm.refl _ _,fun _ h=>.inl h,iH _,H1lt,h.le.trans hEE.toLeU,h.kd.trans hEE.kd,fun id p e=>hEE.μ id p (h.hep.pin id p e)⟩;let T':Tb:=⟨T.fs,(T.dep,yF T ps.toList a' b' fr)::T.ys,fN hp,nx+1,T.dep+1⟩;have hT':xI P C' T':=by
  refine ⟨hC.tb.fs,?_,rfl,rfl,by show T.dep+1=C.dep+1; rw [hTd],⟨hC.tb.g.gok,hC.tb.g.gT⟩⟩;intro lab hd hys;have hys':get? ((T.dep,yF T ps.toList a' b' fr)::T.ys) lab=some hd:=hys;rw [get?_cons] at hys';split at hys'
  ·rename_i e;cases hys';rw [<- e,hTd];exact Cx (C':=C') (rec:=rec) (ps:=ps) iha ihb hC hn h hlab rfl rfl rfl rfl H1lt H1at hEE.toLeU hEE.kd (fun id p e=>hEE.μ id p e) hsz1 (by rw [hrec]) (by rw [hrec]) (by rw [hrec]) (by rw [hrec]) hps
  ·exact (hC.tb.ys lab hd hys').ext cExt
 have hbase:C'.w0.heap.size<=C'.R0.w.heap.size:=hd3.frm.size;have hC':Lb P C' none T':=⟨hpinOk,hT',hbase,fun l e=>by cases e⟩
 -- its arguments
 have hargs:R (aN C' μ1 ((nx,.hid C.dep 0)::hp) w1) (.cons (.yield nx) caps) (.func (.yield wd.heap.size) #[] #[]::cs):=by
  simp only [R];exact ⟨_,_,rfl,⟨_,_,hnxm,rfl⟩,lN hEE hcs⟩
 have rep:=Cy (C:=C') rfl hargs hok hd3 (Env.LeU.refl _) (Kd.refl _);have he':evC g T' ⟨oL (.cons (.yield nx) caps) 0,(nx,.hid T.dep 0)::hp,nx+1⟩ (fun e st' =>
   match e with
   | .exit _=>False
   | _=>match st' with
    | ⟨_,hp',nx'⟩=>bif oM T.dep (drop? hp' nx) then
     match get? hp' nx with
     | some (.hid l pd)=>bif Nat.beq l T.dep then
       match pd with
       | 0=>K .normal ⟨fr,drop? hp' nx,nx'⟩
       | 1=>False
       | 2=>K .ret ⟨fr,drop? hp' nx,nx'⟩
       | n+3=>K (.exit n) ⟨fr,drop? hp' nx,nx'⟩
      else False
     | _=>False
    else False):=he
 rw [hTd] at he';have hcall:(callFunc kf (#[.func (.yield wd.heap.size) #[] #[]]++cs.toArray)).run P w1=.ok (.enter kf (#[.func (.yield wd.heap.size) #[] #[]]++cs.toArray)) w1:=by
  simp [callFunc,hfn,hbody,ne_of_beq_false hname]
 refine ⟨wd.heap.size,mark,w1,{ target:=.fn (.func kf) cs.toArray,args:=#[.func (.yield wd.heap.size) #[] #[]] },w1,kf,#[.func (.yield wd.heap.size) #[] #[]]++cs.toArray,w1,by rw [hent,hw1],?_,fun f' _=>yS ro f',?_,fun hh=>(by rw [vV] at hh; cases hh),?_⟩
 ·simp only [resolve,hv'];simp [go_sem]
 ·have e1:#[Value.func (.yield wd.heap.size) #[] #[]]++cs.toArray=(Value.func (.yield wd.heap.size) #[] #[]::cs).toArray:=by simp
  rw [e1] at hcall ⊢;simpa [invoke] using hcall
 rw [vF];refine yV hfn hbody (Q:=fun e a2 w2=>∃ se st2,e=Ea se/\(match se with
   | .exit _=>False
   | _=>match st2 with
    | ⟨_,hp',nx'⟩=>bif oM C.dep (drop? hp' nx) then
     match get? hp' nx with
     | some (.hid l pd)=>bif Nat.beq l C.dep then
       match pd with
       | 0=>K .normal ⟨fr,drop? hp' nx,nx'⟩
       | 1=>False
       | 2=>K .ret ⟨fr,drop? hp' nx,nx'⟩
       | n+3=>K (.exit n) ⟨fr,drop? hp' nx,nx'⟩
      else False
     | _=>False
    else False)/\Stands C' st2 a2 w2) ?_ ?_
 ·have e1:#[Value.func (.yield wd.heap.size) #[] #[]]++cs.toArray=(Value.func (.yield wd.heap.size) #[] #[]::cs).toArray:=by simp
  rw [e1,hgn];refine ihg C' none T' ⟨oL (.cons (.yield nx) caps) 0,(nx,.hid C.dep 0)::hp,nx+1⟩ _ w1 _ _ rfl hC' ?_ ⟨⟨μ1,rep⟩,B4 _ _⟩ he';intro e st2 a2 w2 hk hs2;exact ⟨e,st2,rfl,hk,hs2⟩
 ·rintro e a2 w2 ⟨se,st2,rfl,hk,⟨⟨μ2,h2⟩,_⟩⟩;obtain ⟨fr2,hp2,nx2⟩:=st2;have core:(bif oM C.dep (drop? hp2 nx) then
     match get? hp2 nx with
     | some (.hid l pd)=>bif Nat.beq l C.dep then
       match pd with
       | 0=>K .normal ⟨fr,drop? hp2 nx,nx2⟩
       | 1=>False
       | 2=>K .ret ⟨fr,drop? hp2 nx,nx2⟩
       | n+3=>K (.exit n) ⟨fr,drop? hp2 nx,nx2⟩
      else False
     | _=>False
    else False)->∃ base,sN base w2 a2.defers/\∀ w'',Shut base w2 w''->∃ v,(results fn a2.tmps).run P w''=.ok v w''/\rangePost (WF ro) 0 P wd.heap.size Q { a with defers:=mark++a.defers } (.returned v) w'':=by
   intro hk;refine ⟨C'.R0.w,h2.defers,?_⟩;intro w3 hsh;refine ⟨_,results_none hres,?_⟩;cases hn1:oM C.dep (drop? hp2 nx) with
   | false=>simp [hn1] at hk
   | true =>
   simp only [hn1,cond_true] at hk;split at hk;rotate_left
   ·exact hk.elim
   rename_i l pd hg2;cases hb2:Nat.beq l C.dep with
   | false=>simp [hb2] at hk
   | true =>
   have:=nbeq hb2;subst this;simp only [hb2,cond_true] at hk;have hm2:μ2 nx=some (wd.heap.size,0):=h2.hep.pin nx _ hnxm;obtain ⟨hh3,hE4⟩:=h2.hep.shut hsh hbase;obtain ⟨o3,ho3,hH3⟩:=hh3.recAt hg2 hm2;have hro3:mT rec pd o3:=(H1at pd o3).1 hH3;obtain ⟨s3,p3,rfl⟩:∃ s p,o3=.loop { rec with state:=s,pending:=p }:=O0 hro3
   -- the record is exhausted,and let go
   obtain ⟨hE5,hh5⟩:=hh3.turn (l':=C.dep) (p':=1) (r':={ rec with state:=.exhausted,pending:=p3 }) hg2 hm2 ho3 ((H1at 1 _).2 ⟨_,_,rfl⟩);have hgd:get? (gQ hp2 nx (.hid C.dep 1)) nx=some (.hid C.dep 1):=by
    rw [get?_putH,get?_cons,if_pos rfl]
   have hdrop:drop? (gQ hp2 nx (.hid C.dep 1)) nx=drop? hp2 nx:=pA _ _ _;obtain ⟨hh6,hE6⟩:=hh5.Ln (C:=C) rfl rfl rfl (fun l p o hl e=>(H1lt l p o hl).1 e) (fun id p e=>h2.hep.pin id p (hEE.μ id p (h.hep.pin id p e))) hgd (by rw [hdrop]; exact hn1);rw [hdrop] at hh6 hE6;have hLeU:(aN C μ hp w).LeU (aN C μ2 (drop? hp2 nx) (w3.putObj wd.heap.size (.loop { rec with state:=.exhausted,pending:=p3 }))) :=
    hEE.toLeU.trans (h2.le.trans (hE4.toLeU.trans (hE5.toLeU.trans hE6.toLeU)))
   have hLeR:(aN C μ hp w).LeR (aN C μ2 (drop? hp2 nx) (w3.putObj wd.heap.size (.loop { rec with state:=.exhausted,pending:=p3 }))) :=
    ⟨hLeU,fun id p e=>h2.hep.pin id p (hEE.μ id p e)⟩
   -- what is below the rounds' world stands as it stood
   have kd3:∀ (b:Nat),b < w1.heap.size->w3.heap[b]?=w2.heap[b]?:=fun b hb=>hsh.block b hb;have kd1:Kd w1 w3:=Kd.shut (base:=w1) h2.kd hsh;have kd4:Kd w1 (w3.putObj wd.heap.size (.loop { rec with state:=.exhausted,pending:=p3 })):=kd1.trans (Jo ho3);have kdd:Kd wd w1:=by rw [hw1]; exact Kd.kY ((Below.refl _ _).alloc (aL _) _)
   have repF:dR C μ2 ⟨fr,drop? hp2 nx,nx2⟩ { a with defers:=mark++a.defers } (w3.putObj wd.heap.size (.loop { rec with state:=.exhausted,pending:=p3 })):=by
    refine ⟨h.size,sV (kdd.trans kd4) hdf,?_,hh6,h.le.trans hLeU,h.kd.trans (hEE.kd.trans kd4)⟩;intro s;have h1:=h.fr s;have hng:∀ d w x,look fr s≠.gd d w x:=fun d w x e=>by have:=hlab s d w x e; simp [eE] at this
    have h2:R (aN C μ hp w) (look fr s) [a.tmps.getD s undef]:=by
     cases hl:look fr s with
     | gd d w x=>exact absurd hl (hng d w x)
     | _=>simp only [hl] at h1; exact h1
    exact rJ (fQ hLeR h2) hng
   have hst:Stands C ⟨fr,drop? hp2 nx,nx2⟩ { a with defers:=mark++a.defers } (w3.putObj wd.heap.size (.loop { rec with state:=.exhausted,pending:=p3 })):=⟨⟨μ2,repF⟩,hlab⟩;have hend:∀ s3,s3≠.busy->w3.heap[wd.heap.size]?=some (.loop { rec with state:=s3,pending:=p3 })->(Instr.endLoop wd.heap.size).run P w3=.ok p3 (w3.putObj wd.heap.size (.loop { rec with state:=.exhausted,pending:=p3 })) :=
    fun s3 hs e=>run_endLoop (P:=P) e hs
   unfold mT at hro3;split at hro3
   ·injection hro3 with e1;obtain ⟨rfl,rfl⟩:s3=.ready/\p3=none:=by injection e1 with e1 e2; exact ⟨e1,e2⟩
    exact ⟨none,_,hend _ (by simp) ho3,hK _ _ _ _ hk hst⟩
   ·exact hk.elim
   ·injection hro3 with e1;obtain ⟨rfl,rfl⟩:s3=.done/\p3=some .ret:=by injection e1 with e1 e2; exact ⟨e1,e2⟩
    exact ⟨some .ret,_,hend _ (by simp) ho3,wpIn_ret (hK _ _ _ _ hk hst)⟩
   ·rename_i m;injection hro3 with e1;obtain ⟨rfl,rfl⟩:s3=.done/\p3=some (.exit m):=by injection e1 with e1 e2; exact ⟨e1,e2⟩
    exact ⟨some (.exit m),_,hend _ (by simp) ho3,wpIn_exit (hK _ _ _ _ hk hst)⟩
  cases se with
  | normal=>exact ⟨.inl rfl,core hk⟩
  | ret=>exact ⟨.inr rfl,core hk⟩
  | exit id=>exact hk.elim
theorem Aq {b:List (Nat×aT)}:∀ {a:List (Nat×aT)},qP a b=true->∀ n l p,get? a n=some (.hid l p)->get? b n=some (.hid l p):=by
 intro a;induction a with
 | nil=>intro _ n l p e; cases e
 | cons q r ih =>
  obtain ⟨m,o⟩:=q;intro h n l p e;have tail:qP r b=true:=by
   cases o <;> simp only [qP] at h <;> first
    | exact h
    | (split at h
       ·simp only [aO] at h; exact h.2
       ·cases h)
  rw [get?_cons] at e;by_cases hm:m=n
  ·rw [if_pos hm] at e;cases e;subst hm;simp only [qP] at h;split at h
   ·rename_i l' p' hg;simp only [aO] at h;rw [nbeq h.1.1,nbeq h.1.2];exact hg
   ·cases h
  ·rw [if_neg hm] at e;exact ih tail n l p e
theorem Oa:∀ {a:List (Nat×aT)},hid0s a=true->∀ n l p,get? a n=some (.hid l p)->p=0:=by
 intro a;induction a with
 | nil=>intro _ n l p e; cases e
 | cons q r ih =>
  obtain ⟨m,o⟩:=q;intro h n l p e;have tail:hid0s r=true:=by
   cases o <;> simp only [hid0s,aO] at h <;> first
    | exact h
    | exact h.2
  rw [get?_cons] at e;by_cases hm:m=n
  ·rw [if_pos hm] at e;cases e;simp only [hid0s,aO] at h;exact nbeq h.1
  ·rw [if_neg hm] at e;exact ih tail n l p e
theorem Ov {k:Nat}:∀ {a:List (Nat×aT)},Ct k a=true->get? a k=none/\drop? a k=a:=by
 intro a;induction a with
 | nil=>intro _; exact ⟨rfl,rfl⟩
 | cons q r ih =>
  obtain ⟨m,o⟩:=q;intro h;simp only [Ct] at h;cases hb:Nat.beq m k with
  | true=>simp [hb] at h
  | false =>
   simp only [hb] at h;obtain ⟨h1,h2⟩:=ih h;exact ⟨by simp only [get?,hb,cond_false]; exact h1,by simp only [drop?,hb,cond_false,h2]⟩
theorem Fa {n:Nat} {f:Operand} {f':SX} {ps:Array Tmp} {a0 b0:Code} {a' b':bH} (hf:cX f=some f') (hps:qU n ps.toList=true) (iha:eG P n a0 a') (ihb:eG P n b0 b') :
  eG P n (.rangeFunc f ps a0 b0) (.rangeY f' ps.toList a' b'):=by
 intro C ro T st a w K Q hn hC hK hs he;obtain ⟨⟨μ,h⟩,hlab⟩:=hs;obtain ⟨fr,hp,nx⟩:=st;have hTd:T.dep=C.dep:=hC.tb.dep;have hx:=pY (E:=aN C μ hp w) (a:=a) (fr:=fr) (g:=none) (fun _ _ e=>by cases e) h.fr hf;simp only [evC] at he;split at he;rotate_left
 ·exact he.elim
 rename_i kf caps hgx;rw [hgx] at hx;cases hk3:Nat.blt kf FM with
 | false=>simp [hk3] at he
 | true =>
 cases hk2:Nat.blt nx FB with
 | false=>simp [hk2,hk3] at he
 | true =>
 have hnx:nx < FB:=aM (n:=nx+1) hk2;simp only [hk2,hk3,Bool.and_self,cond_true] at he;split at he;rotate_left
 ·exact he.elim
 rename_i S hS;have hok:S.Ok P kf:=hC.tb.fs kf (.y S) hS;cases hz:hid0s hp with
 | false=>simp [hz] at he
 | true =>
 simp only [hz,cond_true,pJ] at he;obtain ⟨x,V,hf0,hx0,hsubc,hfo0,hfo1,hkeys,hstart,hround,hend0⟩:=he;have hF0:get? hp 0=some (.fam (S.F0 x)):=by
  unfold Jj at hf0;split at hf0
  ·rename_i F hF; rw [hF,hf0]
  ·exact hf0.elim
 have hnx0:nx≠0:=by
  have h1:0 < nx:=h.hep.keys _ _ hF0;omega
 simp only [R] at hx;obtain ⟨cs,hv,hcs⟩:=hx;have hv':=aC.1 hv;unfold fnV at hv';rw [hk3] at hv';simp only [cond_true] at hv';refine wpIn_rangeFunc ?_;intro fn0 hfn0
 -- the record is laid
 obtain ⟨wd,mark,dfr,hent,hbelow,hdf⟩:∃ wd mark dfr,(Instr.enterLoop fn0 a.tmps ps a0 b0 (WF ro).round).run P w=.ok (wd.heap.size,mark) (wd.alloc (.loop { state:=.ready,pending:=none,fn:=fn0,tmps:=a.tmps,params:=ps,assign:=a0,body:=b0,defers:=dfr })) /\
   Below w.heap.size w wd/\sN C.R0.w wd (mark++a.defers):=by
  rw [Fq];cases ro with
  | none =>
   have hb:Below w.heap.size w (w.alloc (.deferred (some []))):=(Below.refl _ _).alloc (aL _) _;refine ⟨w.alloc (.deferred (some [])),_,w.heap.size,by rw [run_enterLoop_outer,World.size_alloc],hb,?_⟩;have hd:=sV (Kd.kY hb) h.defers;refine ⟨bD.2 ⟨?_,hd.1⟩,?_⟩
   ·intro d hd' e;obtain ⟨D,e1,_,e3⟩:=h.defers.2 d hd';rw [e1] at e;cases e;have:=(aS.1 e3).1;omega
   ·intro d hd';rcases aI.1 hd' with rfl|hd'
    ·refine ⟨w.heap.size,rfl,?_,heap_alloc_new w _⟩;exact h.kd.size
    ·exact hd.2 d hd'
  | some l =>
   obtain ⟨r,hr⟩:=hC.ro l rfl;obtain ⟨r',hr'⟩:=h.kd.loop l r hr;exact ⟨w,[],r'.defers,oN hr',Below.refl _ _,by simpa using h.defers⟩
 obtain ⟨rec,hrec⟩:∃ rec:Loop,rec={ state:=.ready,pending:=none,fn:=fn0,tmps:=a.tmps,params:=ps,assign:=a0,body:=b0,defers:=dfr }:=⟨_,rfl⟩;rw [<- hrec] at hent;have hrec0:mT rec 0 (.loop rec):=by simp only [mT]; rw [hrec]
 obtain ⟨H1,hH1⟩:∃ H1:Nat->Nat->Obj->Prop,H1=fun l p o=>C.H l p o\/(l=C.dep/\mT rec p o):=⟨_,rfl⟩;have H1d:∀ l p o,H1 l p o->l < C.dep+1:=by
  intro l p o e;rw [hH1] at e;rcases e with e|⟨e,_⟩
  ·have:=C.Hd _ _ _ e; omega
  ·omega
 have H1l:∀ l p o,H1 l p o->∃ r,o=.loop r:=by
  intro l p o e;rw [hH1] at e;rcases e with e|⟨_,e⟩
  ·exact C.Hl _ _ _ e
  ·exact Be e
 have H1lt:∀ l p o,l < C.dep->(H1 l p o ↔ C.H l p o):=by
  intro l p o hl;rw [hH1];refine ⟨fun e=>e.resolve_right (fun e=>by omega),.inl⟩
 have H1at:∀ p o,H1 C.dep p o ↔ mT rec p o:=by
  intro p o;rw [hH1];refine ⟨fun e=>?_,fun e=>.inr ⟨rfl,e⟩⟩;rcases e with e|e
  ·have:=C.Hd _ _ _ e; omega
  ·exact e.2
 -- the context of the function that is ranged over
 have H1u:∀ l o o',H1 l 0 o->H1 l 0 o'->o=o':=by
  intro l o o' e e';rw [hH1] at e e';rcases e with e|⟨e0,e⟩ <;> rcases e' with e'|⟨e0',e'⟩
  ·exact C.Hu _ _ _ e e'
  ·have:=C.Hd _ _ _ e; omega
  ·have:=C.Hd _ _ _ e'; omega
  ·simp only [mT] at e e';rw [e,e']
 let C1:Ctx:={ C with H:=H1,dep:=C.dep+1,Hd:=H1d,Hl:=H1l,Hu:=H1u };have hd0:=h.hep.below hbelow;have hE0:=kT (C:=C) (μ:=μ) (hp:=hp) hbelow;obtain ⟨hd1,hE1⟩:=hd0.to (C':=C1) rfl rfl rfl (fun l p o e=>by show H1 l p o; rw [hH1]; exact .inl e) hd0.pin;obtain ⟨hE2,hd2⟩:=hd1.alloc hnx (.loop rec) (.hid C.dep 0) rfl 0 ((H1at 0 _).2 hrec0);obtain ⟨w1,hw1⟩:∃ w1,w1=wd.alloc (.loop rec):=⟨_,rfl⟩;obtain ⟨μ1,hμ1⟩:∃ μ1,μ1=upd μ nx (wd.heap.size,0):=⟨_,rfl⟩;rw [<- hw1,<- hμ1] at hE2 hd2;let C':Ctx:={ C1 with np:=fN hp,bnd:=nx+1,pin:=μ1,R0:=aN C1 μ1 ((nx,.hid C.dep 0)::hp) w1 };obtain ⟨hd3,hE3⟩:=hd2.to (C':=C') rfl rfl rfl (fun _ _ _ e=>e) (fun _ _ e=>e);have hEE:=((hE0.trans hE1).trans hE2).trans hE3;have hnxm:μ1 nx=some (wd.heap.size,0):=by rw [hμ1]; simp [upd]
 have hl1:w1.heap[wd.heap.size]?=some (.loop rec):=by rw [hw1]; exact World.alloc_heap_new wd _
 have hsz1:w.heap.size<=w1.heap.size:=hEE.kd.size;have hpinOk:sC C':=by
  intro id p e;have e':μ1 id=some p:=e;by_cases hlt:id < FB
  ·exact .inr ⟨hd3.nx id p e' hlt,hlt⟩
  ·left;obtain ⟨o,ho⟩:=hd3.fam id p e' (bJ.1 hlt);simp only [hget,hlt,if_false] at ho;split at ho
   ·rename_i q hq;simp only [fbase,hlt,if_false];rw [get?_cons] at hq;split at hq
    ·cases hq
    ·exact vJ hq
   ·cases ho
 have cExt:C.Ext C':=⟨Frm.refl _ _,fun _ h=>.inl h,iH _,H1lt,h.le.trans hEE.toLeU,h.kd.trans hEE.kd,fun id p e=>hEE.μ id p (h.hep.pin id p e)⟩;have hH:mC P C' C.dep (yF T ps.toList a' b' fr) :=
  Cx (C':=C') (rec:=rec) (ps:=ps) iha ihb hC hn h hlab rfl rfl rfl rfl H1lt H1at hEE.toLeU hEE.kd (fun id p e=>hEE.μ id p e) hsz1 (by rw [hrec]) (by rw [hrec]) (by rw [hrec]) (by rw [hrec]) hps
 have hY:YC C' μ1 ((nx,.hid C.dep 0)::hp) (nx+1) w1 wd.heap.size C.dep nx rec (S.F0 x):=by
  refine ⟨hd3,rfl,rfl,⟨hC.tb.g.gok,hC.tb.g.gT⟩,fun lb o o' e e'=>C'.Hu lb o o' e e',by rw [get?_cons,if_pos rfl],hnxm,(H1at 0 _).2 hrec0,fun m lb p e=>?_,by rw [get?_cons,if_neg hnx0]; exact hF0,hfo0⟩;rw [get?_cons] at e;split at e
  ·cases e; rfl
  ·exact Oa hz m lb p e
 have hkk:∀ v,sQ ((nx,.hid C.dep 0)::hp) ((nx,.hid C.dep 0)::V.hp v)/\oM C.dep (V.hp v)=true/\Ct nx (V.hp v)=true:=by
  intro v;have:=hkeys v;simp only [aO,hTd] at this;obtain ⟨⟨⟨k1,k2⟩,k3⟩,k4⟩:=this;refine ⟨fun m lb p=>?_,k3,k4⟩;rw [get?_cons,get?_cons];by_cases hm:nx=m
  ·rw [if_pos hm,if_pos hm]
  ·rw [if_neg hm,if_neg hm];exact ⟨Aq k2 m lb p,Aq k1 m lb p⟩
 have hround:∀ (i:Nat) (v:V.X) (g:Nat->Option Obj) (item:SV),V.I i v->(S.items x)[i]?=some item->isL item=true/\yF T ps.toList a' b' fr nx (fN ((0,.fam (cY g))::(nx,.hid T.dep 0)::V.hp v)) V.nx (T.dep+1) item ((0,.fam (cY g))::(nx,.hid T.dep 0)::V.hp v) V.nx fun go hp' nx' =>
   go=true/\∃ v',V.I (i+1) v'/\mM (fN hp) (nx+1) ⟨[],hp',nx'⟩ ⟨[],(0,.fam (cY g))::(nx,.hid T.dep 0)::V.hp v',V.nx⟩:=hround
 rw [hTd] at hsubc hstart hround;let V':Nc:=⟨V.X,V.I,fun v=>(nx,.hid C.dep 0)::V.hp v,V.nx⟩;have core:=Zt (P:=P) (V:=V') hok hY hpinOk rfl rfl hH hx0 (lN hEE hcs) hsubc (fun v=>(hkk v).1) hfo1
  hstart hround
 have hargs:(Value.func (.yield wd.heap.size) #[] #[]::cs).toArray=#[Value.func (.yield wd.heap.size) #[] #[]]++cs.toArray:=by simp
 rw [hargs] at core;refine ⟨wd.heap.size,mark,w1,{ target:=.fn (.func kf) cs.toArray,args:=#[.func (.yield wd.heap.size) #[] #[]] },w1,kf,#[.func (.yield wd.heap.size) #[] #[]]++cs.toArray,w1,by rw [hent,hw1],?_,fun f' _=>yS ro f',?_,fun hh=>(by rw [vV] at hh; cases hh),?_⟩
 ·simp only [resolve,hv'];simp [go_sem]
 ·have:=hok.call (#[Value.func (.yield wd.heap.size) #[] #[]]++cs.toArray) w1;simpa [invoke] using this
 rw [vF];refine core.mono ?_;intro e w3 he;cases e with
 | panicked c=>exact he.elim
 | outgrown=>exact he.elim
 | returned u =>
 obtain ⟨z,v,μ3,hz1,hI,hh3,hLe,hkd,hl3⟩:=he;have hk:=hend0 z v hz1 hI;obtain ⟨_,hn1,hn2⟩:=hkk v;have hl3':w3.heap[wd.heap.size]?=some (.loop { rec with state:=.ready,pending:=none }):=by rw [hl3]; simp only [mT] at hrec0; rw [<- hrec0]
 have hg3:get? ((0,aT.fam (S.F1 x z))::(nx,.hid C.dep 0)::V.hp v) nx=some (.hid C.dep 0):=by
  rw [get?_cons,if_neg (dY hnx0),get?_cons,if_pos rfl]
 have hm3:μ3 nx=some (wd.heap.size,0):=hh3.pin nx _ hnxm;obtain ⟨hE5,hh5⟩:=hh3.turn (l':=C.dep) (p':=1) (r':={ rec with state:=.exhausted,pending:=none }) hg3 hm3 hl3' ((H1at 1 _).2 ⟨_,_,rfl⟩);have hgd:get? (gQ ((0,aT.fam (S.F1 x z))::(nx,.hid C.dep 0)::V.hp v) nx (.hid C.dep 1)) nx=some (.hid C.dep 1):=by
  rw [get?_putH,get?_cons,if_pos rfl]
 have hdrop:drop? (gQ ((0,aT.fam (S.F1 x z))::(nx,.hid C.dep 0)::V.hp v) nx (.hid C.dep 1)) nx=(0,aT.fam (S.F1 x z))::V.hp v:=by
  rw [pA];have hb0:Nat.beq 0 nx=false:=by
   cases hb:Nat.beq 0 nx with
   | false=>rfl
   | true=>exact absurd (nbeq hb).symm hnx0
  simp only [drop?,hb0,cond_false,iL,cond_true,(Ov hn2).2]
 obtain ⟨hh6,hE6⟩:=hh5.Ln (C:=C) rfl rfl rfl (fun l p o hl e=>(H1lt l p o hl).1 e) (fun id p e=>hh3.pin id p (hEE.μ id p (h.hep.pin id p e))) hgd (by rw [hdrop]; exact hn1);rw [hdrop] at hh6 hE6;obtain ⟨w4,hw4⟩:∃ w4,w4=w3.putObj wd.heap.size (.loop { rec with state:=.exhausted,pending:=none }):=⟨_,rfl⟩;rw [<- hw4] at hh5 hE5 hh6 hE6;have hLe':(aN C' μ1 ((nx,.hid C.dep 0)::hp) w1).LeR (aN C' μ3 ((0,aT.fam (S.F1 x z))::(nx,.hid C.dep 0)::V.hp v) w3):=hLe;have hLeU:(aN C μ hp w).LeU (aN C μ3 ((0,aT.fam (S.F1 x z))::V.hp v) w4) :=
  hEE.toLeU.trans (hLe'.toLeU.trans (hE5.toLeU.trans hE6.toLeU))
 have hLeR:(aN C μ hp w).LeR (aN C μ3 ((0,aT.fam (S.F1 x z))::V.hp v) w4) :=
  ⟨hLeU,fun id p e=>hh3.pin id p (hEE.μ id p e)⟩
 have kd4:Kd w1 w4:=by rw [hw4]; exact hkd.trans (Jo hl3')
 have kdd:Kd wd w1:=by rw [hw1]; exact Kd.kY ((Below.refl _ _).alloc (aL _) _)
 have repF:dR C μ3 ⟨fr,(0,.fam (S.F1 x z))::V.hp v,V.nx⟩ { a with defers:=mark++a.defers } w4:=by
  refine ⟨h.size,sV (kdd.trans kd4) hdf,?_,hh6,h.le.trans hLeU,h.kd.trans (hEE.kd.trans kd4)⟩;intro s;have h1:=h.fr s;have hng:∀ d w x,look fr s≠.gd d w x:=fun d w x e=>by have:=hlab s d w x e; simp [eE] at this
  have h2:R (aN C μ hp w) (look fr s) [a.tmps.getD s undef]:=by
   cases hl:look fr s with
   | gd d w x=>exact absurd hl (hng d w x)
   | _=>simp only [hl] at h1; exact h1
  exact rJ (fQ hLeR h2) hng
 refine ⟨none,w4,?_,hK _ _ _ _ hk ⟨⟨μ3,repF⟩,hlab⟩⟩;rw [hw4];exact run_endLoop (P:=P) hl3' (by simp)
theorem Sq:∀ {n:Nat} {c:Code} {sc:bH},Tr P n c sc->eG P n c sc:=by
 intro n c sc h;induction h with
 | skip=>exact Kr _
 | region hl=>exact Fb hl
 | drawn hd=>exact Hy hd
 | drawnL hd=>exact E9 hd
 | seq _ _ ihx ihy=>exact O8 ihx ihy
 | cond hx _ _ ihy ihz=>exact Kn hx ihy ihz
 | join _ ih=>exact Kp ih
 | block _ ih=>exact Hw ih
 | scope _ ih=>exact H4 ih
 | label=>exact Hz
 | loop _ ih=>exact Kq ih
 | exit=>exact Ko _ _
 | ret=>exact O7 _
 | range hf h1 h2 h3 h4 h5 _ h6 _ _ ihg iha ihb=>exact H3 hf h1 h2 h3 h4 h5 h6 ihg iha ihb
 | rangeY hf h6 _ _ iha ihb=>exact Fa hf h6 iha ihb
end Go.Eng
end
section
namespace Go.Eng
open Go Go.RowKit
theorem dE (p x y:Bool) (n:Nat):cS p (.s n) (.c (.bool false)) x y=(p && x):=by cases p <;> simp [cS]
theorem iZ (p x y:Bool) (n:Nat):cS p (.c (.bool true)) (.s n) x y=(p || y):=by cases p <;> simp [cS]
inductive mD where
 | slot (n:Nat)
 | cell (a n:Nat) (agg:Bool)
 deriving Repr
def sU (P:Program):List ResultVar->Option (List mD)
 | []=>some []
 | .tmp t::r=>match sU P r with
  | some l=>some (.slot t::l)
  | none=>none
 | .cell a t::r=>match sU P r with
  | some l=>match P.info? t with
   | some i=>match P.underlying t with
    | some d=>bif nI d || i.size == 1 then some (.cell a i.size (nI d)::l) else none
    | none=>none
   | none=>none
  | none=>none
def evR (st:St):mD->(SV->Prop)->Prop
 | .slot n,k=>k (unlab none (look st.fr n))
 | .cell a n agg,k=>(Ah st.hp n agg (unlab none (look st.fr a))).holds k
def D0 (st:St):List mD->(SV->Prop)->Prop
 | [],k=>k .nil
 | r::l,k=>evR st r fun v=>D0 st l fun t=>k (.cons v t)
def yU:SV->SV
 | .cons h .nil=>h
 | l=>.tup l
def aAl (T:Tb) (sc:bH) (res:List mD) (args:SV) (hp:List (Nat×aT)) (nx:Nat) (K:SV->St->Prop):Prop :=
 evC sc T ⟨oL args 0,hp,nx⟩ fun e st =>
  match e with
  | .exit _=>False
  | _=>D0 st res fun l=>K (yU l) st
def Lt (np:List Nat) (tab:List (Nat×iA)) (sc:bH) (res:List mD) (args:SV) (hp:List (Nat×aT)) (nx:Nat) (K:SV->St->Prop):Prop :=
 evC sc ⟨tab,[],np,0,0⟩ ⟨oL args 0,hp,nx⟩ fun e st =>
  match e with
  | .exit _=>False
  | _=>D0 st res fun l=>K (yU l) st
def aB3 (tab:List (Nat×iA)) (sc:bH) (res:List mD) (fresh:Bool) (args want:SV):Prop :=
 Lt [] tab sc res args [] 0 fun sv st=>sub (match fresh with|true=>.strict|false=>.free) st.hp 200 sv want
def E2 (np:List Nat) (sv want:SV) (hp hp':List (Nat×aT)):List (Nat×Nat) :=
 let p0:=lV want sv (pins np);let p1:=rW hp hp' p0 p0
 rV hp hp' (rW hp hp' p1 p1)
theorem Hg (np:List Nat) (sv want:SV) (hp hp':List (Nat×aT)) (k:PK):Ba np sv want hp hp' k=k (E2 np sv want hp hp'):=by
 simp only [Ba,Hi,vN,A9,zD,E2]
def Ku (np:List Nat) (fresh:Bool) (sv:SV) (st:St) (want:SV) (h1:List (Nat×aT)) (nx1:Nat):Prop :=
 jQ h1 fun h1=>Ba np sv want st.hp h1 fun prs =>
 bif jT nx1 prs then bif uO st.hp h1 prs then bif vO prs np then
  sub ⟨prs,false,match fresh with|true=>false|false=>true,false⟩ st.hp 200 sv want/\sI ⟨prs,false,match fresh with|true=>false|false=>true,false⟩ nx1 prs st.hp h1
 else False else False else False
def cR (P:Program) (f:Nat) (G joins hint:List Nat) (rg:List (Nat×Nat×bH×Nat)):Option (bH×List mD×Nat) :=
 match P.funcs[f]? with
 | none=>none
 | some fn => match fn.name == "runtime.NumGoroutine" with
  | true=>none
  | false=>match fn.body with
   | none=>none
   | some c=>match sU P fn.results.toList with
    | none=>none
    | some res=>match kQ P fn.ntmps G joins hint rg c (0,0) with
     | none=>none
     | some (sc,_)=>some (sc,res,fn.ntmps)
section
variable {P:Program}
def yI (t:Array Value):ResultVar->Sem Value
 | .tmp x=>pure (t.getD x undef)
 | .cell c y=>do loadVar y (<- asAddr (t.getD c undef))
section
variable {C:Ctx}
theorem Nt {μ:Nat->Option (Nat×Nat)} {st:St} {a:Act} {w:World} (h:dR C μ st a w) (x:ResultVar) (l:List ResultVar) {s:mD} {r:List mD} (hc:sU P (x::l)=some (s::r)) {K:SV->Prop} (he:evR st s K) :
  ∃ sv v,K sv/\R (aN C μ st.hp w) sv [v] /\
   (yI a.tmps x).run P w=.ok v w:=by
 cases x with
 | tmp t =>
  simp only [sU] at hc;split at hc
  ·simp only [aJ,fY] at hc;obtain ⟨rfl,rfl⟩:=hc;exact ⟨_,_,he,De (fun _ _ e=>by cases e) (h.fr t),by simp [yI]⟩
  ·cases hc
 | cell c t =>
  simp only [sU] at hc;split at hc
  ·split at hc
   ·rename_i i hi;split at hc
    ·rename_i d hd;cases hk:nI d || i.size == 1 with
     | false=>simp [hk] at hc
     | true =>
      simp only [hk,cond_true,aJ,fY] at hc;obtain ⟨rfl,rfl⟩:=hc;simp only [evR] at he;have hx:R (aN C μ st.hp w) (unlab none (look st.fr c)) [a.tmps.getD c undef]:=De (fun _ _ e=>by cases e) (h.fr c);obtain ⟨s',hq,u,hu,hr⟩:=wF (P:=P) h.hep.obj hi hd hk hx he;refine ⟨s',u,hq,hr,?_⟩;generalize hv:a.tmps.getD c undef=v at hx hu;have:∃ ad,v=.pointer (some ad)/\ad.spot=none:=by
       unfold Ah at he;split at he
       ·rename_i heq; rw [heq] at hx; simp only [R] at hx; obtain ⟨b,c,_,hv⟩:=hx; exact ⟨_,by simpa using hv,rfl⟩
       ·rename_i heq; rw [heq] at hx; simp only [R] at hx; obtain ⟨b,c,_,hv⟩:=hx; exact ⟨_,by simpa using hv,rfl⟩
       ·rename_i heq; rw [heq] at hx; simp only [R] at hx; obtain ⟨b,c,_,hv,_⟩:=hx; exact ⟨_,by simpa using hv,rfl⟩
       ·exact he.elim
      obtain ⟨ad,rfl,had⟩:=this;simp [Instr.loadAt,Instr.sureAddr] at hu;simp only [yI,hv,asAddr,Sem.run_bind,Sem.run_pure,Result.andThen_ok];exact hu
    ·cases hc
   ·cases hc
  ·cases hc
theorem Ca {x:ResultVar} {l:List ResultVar} {res:List mD} (h:sU P (x::l)=some res):∃ s r,res=s::r/\sU P l=some r:=by
 cases hl:sU P l with
 | none=>cases x <;> simp [sU,hl] at h
 | some r =>
  cases x with
  | tmp t=>simp only [sU,hl,aJ] at h; exact ⟨_,_,h.symm,rfl⟩
  | cell c t =>
   cases hi:P.info? t with
   | none=>simp [sU,hl,hi] at h
   | some i =>
    cases hd:P.underlying t with
    | none=>simp [sU,hl,hi,hd] at h
    | some d =>
     simp only [sU,hl,hi,hd] at h;generalize (nI d || i.size == 1)=bb at h;cases bb with
     | false=>simp at h
     | true=>simp only [cond_true,aJ] at h; exact ⟨_,_,h.symm,rfl⟩
def En:SV->Bool
 | .nil=>true
 | .cons _ t=>En t
 | _=>false
theorem I6 {μ:Nat->Option (Nat×Nat)} {st:St} {a:Act} {w:World} (h:dR C μ st a w) :
  ∀ (l:List ResultVar) (res:List mD) (K:SV->Prop),sU P l=some res->D0 st res K ->
   ∃ sv vs,K sv/\En sv=true/\sv.len=vs.length/\R (aN C μ st.hp w) sv vs /\
    (l.mapM (yI a.tmps)).run P w=.ok vs w:=by
 intro l;induction l with
 | nil =>
  intro res K hc he;simp only [sU,aJ] at hc;subst hc;exact ⟨.nil,[],he,rfl,rfl,rfl,by simp⟩
 | cons x l ih =>
  intro res K hc he;obtain ⟨s,r,rfl,hr⟩:=Ca hc;simp only [D0] at he;obtain ⟨sv,v,hk,hR,hrun⟩:=Nt h x l hc he;obtain ⟨t,vs,hk',htl,hlen,hR',hrun'⟩:=ih r _ hr hk;refine ⟨.cons sv t,v::vs,hk',htl,by simp [SV.len,hlen],by simp only [R]; exact ⟨_,_,rfl,hR,hR'⟩,?_⟩;rw [List.mapM_cons];simp only [Sem.run_bind];rw [hrun];simp only [Result.andThen_ok];rw [hrun'];simp
end
theorem Hr {fn:Func} {t:Array Value} {vs:List Value} {w:World}
  (h:(fn.results.toList.mapM (yI t)).run P w=.ok vs w) :
  (results fn t).run P w=.ok (if vs.length=1 then vs.headD undef else .tuple vs.toArray) w:=by
 have e:results fn t=(do let vs <- fn.results.mapM (yI t); pure (if h:vs.size=1 then vs[0] else .tuple vs)):=rfl;rw [e,Array.mapM_eq_mapM_toList];simp only [Sem.run_bind,Sem.run_map,h]
 match vs with
 | []=>simp
 | [x]=>simp
 | x::y::r=>simp
theorem vD {f:Nat} {G joins hint:List Nat} {rg:List (Nat×Nat×bH×Nat)} {sc:bH} {res:List mD} {n:Nat} (hc:cR P f G joins hint rg=some (sc,res,n)) :
  ∃ fn c q, P.funcs[f]? = some fn /\ fn.body = some c /\ (fn.name == "runtime.NumGoroutine") = false /\ sU P fn.results.toList = some res /\ kQ P n G joins hint rg c (0, 0) = some (sc, q) /\ fn.ntmps = n := by
 unfold cR at hc;split at hc
 ·cases hc
 ·rename_i fn hf;split at hc
  ·cases hc
  ·rename_i hname;split at hc
   ·cases hc
   ·rename_i c hb;split at hc
    ·cases hc
    ·rename_i res' hres;split at hc
     ·cases hc
     ·rename_i sc' q hcode;simp only [aJ,cD] at hc;obtain ⟨rfl,rfl,rfl⟩:=hc;exact ⟨fn,c,q,hf,hb,hname,hres,hcode,rfl⟩
theorem lP.nil:lP P []:=fun i gid g gn e=>by cases e
theorem lP.cons {rg:List (Nat×Nat×bH×Nat)} (h:lP P rg) {i gid:Nat} {G joins hint:List Nat} {rg':List (Nat×Nat×bH×Nat)} {g:bH} {gn:Nat} (hrg':lP P rg') (hc:cR P gid G joins hint rg'=some (g,[],gn)):lP P ((i,gid,g,gn)::rg):=by
 intro j gid' g' gn' e;rw [get?_cons] at e;split at e
 ·cases e;obtain ⟨fn,c,q,hf,hb,hname,hres,hcode,hn⟩:=vD hc;refine ⟨fn,c,hf,hname,hb,hn,?_,Fv hrg' _ _ _ _ hcode⟩;cases hl:fn.results.toList with
  | nil=>rfl
  | cons x l=>rw [hl] at hres; obtain ⟨_,_,e,_⟩:=Ca hres; cases e
 ·exact h j gid' g' gn' e
theorem tR {f:Nat} {G joins hint:List Nat} {rg:List (Nat×Nat×bH×Nat)} {sc:bH} {res:List mD} {n:Nat} (hc:cR P f G joins hint rg=some (sc,res,n)) (args:Array Value) (w:World):(callFunc f args).run P w=.ok (.enter f args) w:=by
 obtain ⟨fn,c,q,hf,hb,hname,_⟩:=vD hc;simp [callFunc,hf,hb,ne_of_beq_false hname]
theorem Cb {f:Nat} {G joins hint:List Nat} {rg:List (Nat×Nat×bH×Nat)} {sc:bH} {res:List mD} {n:Nat} (hc:cR P f G joins hint rg=some (sc,res,n)) (hrg:lP P rg) {C:Ctx} (hn:C.n=n) (hpin:sC C) {w:World} (hR0:C.R0=kP (fun _=>False) w) (hw0:C.w0=w) {T:Tb} (htb:xI P C T) {args:SV} {vs:List Value} {μ:Nat->Option (Nat×Nat)} {hp:List (Nat×aT)} {nx:Nat} (hh:bO C μ hp nx w)
  (hR:R (aN C μ hp w) args vs) (hok:oG args n) {K:SV->St->Prop} (hev:aAl T sc res args hp nx K) {RR:Ending->World->Prop}
  (hfin:∀ sv st μ' w' v,K sv st->bO C μ' st.hp st.nx w'->R (aN C μ' st.hp w') sv [v]->Kd w w'->RR (.returned v) w'):Calls P f vs.toArray w RR:=by
 obtain ⟨fn,c,q,hf,hb,hname,hres,hcode,rfl⟩:=vD hc;have hst:=Cy (C:=C) hn hR hok hh (by rw [hR0]; exact ⟨fun _ h=>h.elim,fun _ h=>h.elim⟩) (by rw [hR0]; exact Kd.refl _);have hbase:C.w0.heap.size<=C.R0.w.heap.size:=by rw [hR0,hw0]; exact aL _
 refine yV hf hb (Q:=fun e a' w'=>∃ se st,e=Ea se/\(match se with
   | .exit _=>False
   | _=>D0 st res fun l=>K (yU l) st)/\Stands C st a' w') ?_ ?_
 ·refine Sq (Fv hrg _ _ _ _ hcode) C none T _ _ w _ _ hn ⟨hpin,htb,hbase,fun l e=>by cases e⟩ ?_ ⟨⟨μ,hst⟩,B4 _ _⟩ hev;intro e st a' w' hk hs;exact ⟨e,st,rfl,by cases e <;> exact hk,hs⟩
 rintro e a' w0' ⟨se,st,rfl,hk,⟨⟨μ',hrep0⟩,_⟩⟩;have fin:(D0 st res fun l=>K (yU l) st)->∃ base,sN base w0' a'.defers/\∀ w',Shut base w0' w'->∃ v,(results fn a'.tmps).run P w'=.ok v w'/\RR (.returned v) w':=by
  intro hk;refine ⟨C.R0.w,hrep0.defers,fun w' hsh=>?_⟩;obtain ⟨hh',hE⟩:=hrep0.hep.shut hsh hbase;let C2:Ctx:={ C with R0:=kP (fun _=>False) w' };have hrep:dR C2 μ' st ⟨a'.tmps,[]⟩ w':=by
   refine ⟨hrep0.size,sN.nil _ _,fun s=>?_,(hh'.to (C':=C2) rfl rfl rfl (fun _ _ _ e=>e) hh'.pin).1,⟨fun _ h=>h.elim,fun _ h=>h.elim⟩,Kd.refl _⟩;have h1:=hrep0.fr s;cases hl:look st.fr s with
   | gd d wt x =>
    rw [hl] at h1;exact ⟨fun e=>fQ hE (h1.1 e),h1.2⟩
   | _=>rw [hl] at h1; exact fQ hE h1
  obtain ⟨sv,vs,hsub,hil,hln,hRv,hrun⟩:=I6 hrep _ _ _ hres hk;refine ⟨_,Hr hrun,hfin _ _ μ' _ _ hsub hh' ?_ (by have:=Kd.shut hrep0.kd hsh; rw [hR0] at this; exact this)⟩;have hRv:R (aN C μ' st.hp w') sv vs:=hRv;cases sv with
  | nil=>simp only [R] at hRv; subst hRv; simp [yU,R]
  | cons hh tt =>
   cases tt with
   | nil =>
    simp only [R] at hRv;obtain ⟨v,xs,rfl,h1,rfl⟩:=hRv;simpa [yU] using h1
   | ints=>simp [En] at hil
   | _ =>
    have:vs.length≠1:=by
     simp only [R] at hRv;obtain ⟨v,xs,rfl,h1,h2⟩:=hRv;first
      | (simp only [SV.len] at hln; simp at hln ⊢
         intro e; subst e; simp at h2; done)
      | (obtain ⟨y,ys,rfl,_⟩:=h2; simp)
    simp only [this,if_false,yU,R];exact ⟨vs,rfl,by simpa [R] using hRv⟩
  | _=>simp [En] at hil
 cases se with
 | normal=>exact ⟨.inl rfl,fin hk⟩
 | ret=>exact ⟨.inr rfl,fin hk⟩
 | exit id=>exact hk.elim
theorem Fw {f:Nat} {G joins hint:List Nat} {rg:List (Nat×Nat×bH×Nat)} {sc:bH} {res:List mD} {n:Nat} (hc:cR P f G joins hint rg=some (sc,res,n)) (hrg:lP P rg) {C:Ctx} (hn:C.n=n) (hpin:sC C) (hbnd:C.bnd=0) (hdep:C.dep=0) {w:World} (hR0:C.R0=kP (fun _=>False) w) (hw0:C.w0=w) (hgc:uY C)
  {tab:List (Nat×iA)} (htab:aZ P tab) {args:SV} {vs:List Value} {μ:Nat->Option (Nat×Nat)} {hp:List (Nat×aT)} {nx:Nat} (hh:bO C μ hp nx w)
  (hR:R (aN C μ hp w) args vs) (hok:oG args n) {K:SV->St->Prop} (hev:Lt C.np tab sc res args hp nx K) {RR:Ending->World->Prop}
  (hfin:∀ sv st μ' w' v,K sv st->bO C μ' st.hp st.nx w'->R (aN C μ' st.hp w') sv [v]->Kd w w'->RR (.returned v) w'):Calls P f vs.toArray w RR :=
 Cb hc hrg hn hpin hR0 hw0 (T:=⟨tab,[],C.np,0,0⟩) ⟨htab,(fun _ _ e=>by cases e),rfl,hbnd.symm,hdep.symm,hgc⟩ hh hR hok hev hfin
theorem mS (n:Nat):hget [] n=none:=by unfold hget; split <;> rfl
theorem bO.start (C:Ctx) (h:C.pin=fun _=>none):bO C (fun _=>none) [] 0 C.w0:=by
 refine ⟨⟨?_,?_⟩,?_,?_,?_,?_,?_,?_,Frm.refl _ _,fun _ _ _ e=>(by cases e)⟩
 ·intro id o e; cases e
 ·intro id o e; rw [mS] at e; cases e
 ·intro id id' o o' b c c' e; rw [mS] at e; cases e
 ·intro id o b c e; rw [mS] at e; cases e
 ·intro id o e; cases e
 ·intro id p e; cases e
 ·intro id p e; cases e
 ·intro id p e; rw [h] at e; cases e
theorem Spec.uR {f:Nat} {S:Spec} {G joins hint:List Nat} {rg:List (Nat×Nat×bH×Nat)} {sc:bH} {res:List mD} {n:Nat} (hc:cR P f G joins hint rg=some (sc,res,n)) (hrg:lP P rg)
  (tab:S.X->List (Nat×iA)) (htab:∀ x,S.pre x->aZ P (tab x))
  (h:∀ x,S.pre x->oG (S.args x) n/\aB3 (tab x) sc res S.fresh (S.args x) (S.res x)):S.Ok P f:=by
 refine ⟨tR hc,?_⟩;intro x w vs U hU hgv hpre hR;obtain ⟨hok,hev⟩:=h x hpre;let C:Ctx:=⟨n,w,fun _=>False,U,fun _=>none,[],0,H0,0,fun _ _ _ h=>h.elim,fun _ _ _ h=>h.elim,fun _ _ _ h=>h.elim,kP (fun _=>False) w⟩;have hR':R (aN C (fun _=>none) [] w) (S.args x) vs :=
  fQ (E:=kP U w) (E':=aN C (fun _=>none) [] w) ⟨⟨fun b hb=>show Ufor C (fun _=>none) [] w b from ⟨(hU b hb).1,.inl hb,(fun _ _ _ _ e=>by cases e),(hU b hb).2⟩,fun _ _=>rfl⟩,fun _ _ e=>by cases e⟩ hR
 refine Fw hc hrg (C:=C) rfl (fun id p e=>by cases e) rfl rfl rfl rfl ⟨hgv,fun _ _ h=>h⟩ (htab x hpre) (bO.start C rfl) hR' hok hev ?_;intro sv st μ' w' v hsub hh hR1 _;refine ⟨?_,hh.frm.below⟩;refine mJ (E:=aN C μ' st.hp w') (hp:=st.hp) ?_ hh.obj 200 _ _ _ hsub hR1;have tracked:∀ id o b c,(∀ l p,o≠.hid l p)->hget st.hp id=some o->μ' id=some (b,c)->w.heap.size<=b/\b < w'.heap.size/\Plain w' b:=by
  intro id o b c hn h1 h2;rcases hh.mine id o b c h1 h2 with h3|h3
  ·exact h3.elim
  ·exact ⟨h3,hh.lt h1 h2,hh.obj.plain h1 h2 hn⟩
 cases hfr:S.fresh with
 | true =>
  refine ⟨fun e=>?_,fun _ _ _ e=>?_,fun _ _ _ _ e=>?_,rfl,fun id o b c hn h1 h2 _=>show Kh true U w w' b from .inr (tracked id o b c hn h1 h2)⟩
  ·cases e
  ·cases e
  ·cases e
 | false =>
  refine ⟨fun _=>⟨fun b hb=>?_,fun _ _=>rfl⟩,fun _ _ _ e=>?_,fun _ _ _ _ e=>?_,rfl,fun id o b c hn h1 h2 _=>show Kh false U w w' b from .inr (tracked id o b c hn h1 h2)⟩
  ·obtain ⟨h1,h2,_,h4⟩:=hb;rcases h2 with h2|h2|h2
   ·exact .inl ⟨rfl,h2⟩
   ·exact h2.elim
   ·exact .inr ⟨h2,h1,h4⟩
  ·cases e
  ·cases e
theorem bU.uR {f:Nat} {S:bU} {G joins hint:List Nat} {rg:List (Nat×Nat×bH×Nat)} {sc:bH} {res:List mD} {n:Nat} (hc:cR P f G joins hint rg=some (sc,res,n)) (hrg:lP P rg)
  (tab:S.X->List (Nat×iA)) (htab:∀ x,S.pre x->aZ P (tab x))
  (h:∀ x,S.pre x->oG (S.args x) n/\Lt (upto S.nx0) (tab x) sc res (S.args x) (S.h0 x) S.nx0 fun sv st=>∃ y,S.post x y/\Ku (upto S.nx0) S.fresh sv st (S.res x y) (S.h1 x y) S.nx1):S.Ok P f:=by
 refine ⟨tR hc,?_⟩;intro x w μ vs T U hU hgc hh0 hpre hR;obtain ⟨hok,hev⟩:=h x hpre;let C:Ctx:=⟨n,w,T,U,μ,upto S.nx0,0,H0,0,fun _ _ _ h=>h.elim,fun _ _ _ h=>h.elim,fun _ _ _ h=>h.elim,kP (fun _=>False) w⟩;have hC:bO C μ (S.h0 x) S.nx0 w:=(hh0.to (C':=C) rfl rfl rfl (fun _ _ _ e=>e) hh0.pin).1;have hpin:sC C:=by
  intro id p e;have e':μ id=some p:=e;by_cases hlt:id < FB
  ·left; simp only [fbase,hlt,if_true]; exact wT.2 (hC.nx id p e' hlt)
  ·left;simp only [fbase,hlt,if_false];obtain ⟨o,ho⟩:=hC.fam id p e' (bJ.1 hlt);simp only [hget,hlt,if_false] at ho;split at ho
   ·rename_i f' hf'; exact wT.2 (hC.keys _ _ hf')
   ·cases ho
 have hR':R (aN C μ (S.h0 x) w) (S.args x) vs:=hR;refine Fw hc hrg (C:=C) rfl hpin rfl rfl rfl rfl ⟨hgc.gok,hgc.gT⟩ (htab x hpre) hC hR' hok hev ?_;intro sv st μ1 w' v hk hh hR1 hkd;obtain ⟨y,hpost,hsub⟩:=hk;unfold Ku at hsub;simp only [pJ,Hg] at hsub;generalize hprs:E2 (upto S.nx0) sv (S.res x y) st.hp (S.h1 x y)=prs at hsub;try simp only at hsub
 cases hk1:jT S.nx1 prs with
 | false=>simp [hk1] at hsub
 | true =>
  cases hfm:uO st.hp (S.h1 x y) prs with
  | false=>simp [hk1,hfm] at hsub
  | true =>
   cases hpi:vO prs (upto S.nx0) with
   | false=>simp [hk1,hfm,hpi] at hsub
   | true =>
    simp only [hk1,hfm,hpi,cond_true] at hsub;obtain ⟨hs1,hs2⟩:=hsub;obtain ⟨μ',k1,k2,k3,k4,k5,k6,k7,k8,k9⟩:=Ff 0 hh hk1 hfm hs2 (fun _ _ _ h=>by omega) (bB _);let C':Ctx:=dW w T (Ufresh S.fresh U) μ S.nx0;have hF:(aN C μ1 st.hp w').Freed ⟨prs,false,match S.fresh with|true=>false|false=>true,false⟩ st.hp (aN C' μ' (S.h1 x y) w'):=by
     refine ⟨?_,k2,k3,rfl,?_⟩
     ·intro hlo;have hfr:S.fresh=false:=by
       cases e:S.fresh with
       | true=>rw [e] at hlo; cases hlo
       | false=>rfl
      refine ⟨?_,fun _ _=>rfl⟩;intro b hb;refine ⟨hb.1,?_,?_,hb.2.2.2⟩
      ·rcases hb.2.1 with h1|h1|h1
       ·exact .inl ⟨hfr,h1⟩
       ·exact .inr (.inl h1)
       ·exact .inr (.inr h1)
      ·intro i o' c' hg hm;obtain ⟨m,o,_,ho,e,_⟩:=k1 i o' hg;rw [e] at hm;exact hb.2.2.1 m o c' ho hm
     ·intro id o b c hn hg hm hkp;have hm':μ1 id=some (b,c):=hm;refine ⟨hh.lt hg hm',?_,?_,hh.obj.plain hg hm' hn⟩
      ·rcases hh.mine id o b c hg hm' with h1|h1
       ·exact .inr (.inl h1)
       ·exact .inr (.inr h1)
      ·intro i o' c2 hg' hm2;obtain ⟨m,oi,hp1,ho,e,_⟩:=k1 i o' hg';rw [e] at hm2;have:=hh.inj _ _ _ _ _ _ _ hg ho hm' hm2;subst this;exact k8 _ _ _ hg (by simpa [kept,Keep.keep] using hkp) hp1
    have hsb:∀ s t vs,sub ⟨prs,false,match S.fresh with|true=>false|false=>true,false⟩ st.hp 200 s t->R (aN C μ1 st.hp w') s vs->R (aN C' μ' (S.h1 x y) w') t vs:=fun s t vs=>mJ hF hh.obj 200 s t vs;refine ⟨y,μ',hpost,?_,hsb _ _ _ hs1 hR1,hkd⟩;refine ⟨⟨fun id o hg=>(k6 id o hg).2,?_⟩,?_,?_,fun id o hg=>(k6 id o hg).1,k4,k5,R2 (C:=C) hpin hk1 (Bb hpi) hh.pin k2 k3 k9,hh.frm,sub_pos hh hk1 k1⟩
    ·intro i o' hg;obtain ⟨m,o,_,ho,e,hso⟩:=k1 i o' hg;obtain ⟨b,cp,z,e1,e2,e3⟩:=hh.obj.obj m o ho;exact ⟨b,cp,z,e.trans e1,e2,yL hF.le hsb (fun e=>by cases e) hso e3⟩
    ·intro i i' o1 o2 b c1 c2 g1 g2 m1 m2;obtain ⟨d1,p1,q1,ho1,e1,_⟩:=k1 i o1 g1;obtain ⟨d2,p2,q2,ho2,e2,_⟩:=k1 i' o2 g2;rw [e1] at m1;rw [e2] at m2;have:=hh.inj _ _ _ _ _ _ _ ho1 ho2 m1 m2;subst this;exact k7 _ _ _ q1 q2
    ·intro i o' b c hg hm;obtain ⟨d,o,_,ho,e,_⟩:=k1 i o' hg;rw [e] at hm;exact hh.mine _ _ _ _ ho hm
theorem aZ.nil:aZ P []:=fun f S h=>by cases h
theorem aZ.p {f:Nat} {S:Spec} {r:List (Nat×iA)} (h:S.Ok P f) (hr:aZ P r):aZ P ((f,.p S)::r):=by
 intro g T e;rw [get?_cons] at e;split at e
 ·rename_i hh; cases e; subst hh; exact h
 ·exact hr g T e
theorem aZ.o {f:Nat} {r:List (Nat×iA)} (hr:aZ P r):aZ P ((f,.own)::r):=by
 intro g T e;rw [get?_cons] at e;split at e
 ·rename_i hh; cases e; trivial
 ·exact hr g T e
theorem aZ.y {f:Nat} {S:sR} {r:List (Nat×iA)} (h:S.Ok P f) (hr:aZ P r):aZ P ((f,.y S)::r):=by
 intro g T e;rw [get?_cons] at e;split at e
 ·rename_i hh; cases e; subst hh; exact h
 ·exact hr g T e
theorem aZ.m {f:Nat} {S:bU} {r:List (Nat×iA)} (h:S.Ok P f) (hr:aZ P r):aZ P ((f,.m S)::r):=by
 intro g T e;rw [get?_cons] at e;split at e
 ·rename_i hh; cases e; subst hh; exact h
 ·exact hr g T e
end
end Go.Eng
end
section
open Go Go.Eng Go.Proofs
set_option maxRecDepth 100000
namespace L3
def Bs (f:Nat->Int) (v:Int) (n:Nat):Int:=match (List.range n).find? (fun i=>decide (v=f i)) with
 | some i=>i
 | none=>-1
theorem X8 {f:Nat->Int} {v:Int} {n k:Nat} (hk:k < n) (he:v=f k) (h:∀ j,j < k->v≠f j):Bs f v n=k:=by
 unfold Bs;rw [dZ.2 ⟨by simpa using he,by simpa using hk,fun j hj=>by simpa using h j hj⟩]
theorem X9 {f:Nat->Int} {v:Int} {n:Nat} (h:∀ j,j < n->v≠f j):Bs f v n=-1:=by
 unfold Bs;rw [fM.2 fun j hj=>by simpa using h j (by simpa using hj)]
theorem Ud {f:Nat->Int} {v:Int} {n:Nat}:decide (Bs f v n>=0)=decide (∃ i,i < n/\f i=v):=by
 rw [cA,decide_eq_true_iff,decide_eq_true_iff];unfold Bs;split
 ·rename_i i hi;have:=dZ.1 hi;exact ⟨fun _=>⟨i,by simpa using this.2.1,by simpa using (of_decide_eq_true this.1).symm⟩,fun _=>jE i⟩
 ·rename_i hi;have:=fM.1 hi;constructor
  ·intro h; exact absurd h (by decide)
  ·rintro ⟨i,h1,h2⟩;exact absurd (this i (by simpa using h1)) (by simp [h2])
def Em:SV->Option (Nat×(Nat->Int))
 | .slice _ n enc=>some (n,fun i=>match enc i with
  | .cons (.int _ x) _=>x
  | _=>0)
 | .slit _ els=>some (els.len,fun i=>match nV els i with
  | .cons (.int _ x) _=>x
  | _=>0)
 | .nilsl=>some (0,fun _=>0)
 | _=>none
theorem sub_one (k:Keep) (hp:List (Nat×aT)) (m:Nat) (q:IntKind) (x:Int):sub k hp (m+3) (.cons (.int q x) .nil) (.cons (.int q x) .nil):=⟨⟨rfl,rfl⟩,trivial⟩
def g154:List Nat:=[7,9,1,0,16,5,8,4]
def c154:bH :=
 .seq (.region g154 [(zo 4 (.move (cj 0)))]) (.seq (.seq (.region g154 [(mv 6 0),(zo 7 (.lenSl (.s 6))),(zo 8 (.move (cj 0)))]) (.block 0 (.loop 0 [9,10,5,11,12,13,14,15,16,17,4,18,8] (.seq (.region g154 [(zo 9 (.bin (.lss) (.s 8) (.s 7)))]) (.seq (.cond (.s 9) .skip (.exit 0)) (.seq (.block 1 (.seq (.region g154 [(mv 10 8),(mv 5 10)]) (.seq (.region g154 [(mv 11 1),(mv 12 0),(mv 13 5),(zo 14 (.idxSl 1 (.s 12) (.s 13))),(ld 15 14),(zo 16 (.bin (.eql) (.s 11) (.s 15)))]) (.cond (.s 16) (.seq (.region g154 [(mv 17 5),(mv 4 17)]) .ret) .skip)))) (.region g154 [(zo 18 (.bin (.add) (.s 8) (cj 1))),(mv 8 18)]))))))) (.seq (.region g154 [(zo 4 (.move (cj (-1))))]) .ret))
theorem e154:cR Tryz.prog 154 g154 [] [] []=some (c154,[.slot 4],19):=by kernel_rfl
def Yj:Eng.Spec where
 X:=Nat×(Nat->Int)×Int
 args:=fun x=>.cons (.slice 1 x.1 fun i=>.cons (.int .i64 (x.2.1 i)) .nil) (.cons (.int .i64 x.2.2) .nil)
 pre:=fun x=>x.1<=1000000
 res:=fun x=>.int .i64 (Bs x.2.1 x.2.2 x.1)
 inst:=fun s=>match s with
  | .cons l (.cons (.int _ v) _)=>match Em l with
   | some (n,f)=>some (n,f,v)
   | none=>none
  | _=>none
theorem Yk:Yj.Ok Tryz.prog 154:=by
 refine Eng.Spec.uR e154 .nil (fun _=>[]) (fun _ _=>aZ.nil) ?_;rintro ⟨n,f,v⟩ (hn:n<=1000000);refine ⟨trivial,?_⟩;refine ⟨⟨Nat,fun k=>k<=n/\∀ j,j < k->v≠f j,fun k=>[(8,.int .i64 (k:Int))],fun _=>[],fun k=>n - k⟩,0,⟨bB _,fun j hj=>absurd hj (bP j)⟩,?_,?_⟩
 ·repeat' (first|apply aA|exact trivial|exact rfl|exact fun (j:Nat) (hj:j < _)=>Or.inl (sub_one _ _ _ _ _)|fail)
 rintro (k:Nat) ⟨(hk:k<=n),(hf:∀ j,j < k->v≠f j)⟩;repeat' (first|refine aA ?_ ?_)
 ·refine fun (hg:decide ((k:Int) < (n:Int))=true)=>?_;have h1:(k:Int) < (n:Int):=of_decide_eq_true hg;have h0:(0:Int)<=(k:Int):=by omega
  have b1:-9223372036854775808<=(k:Int)+1:=by omega
  have b2:(k:Int)+1<=9223372036854775807:=by omega
  have hkl:k < n:=by omega
  repeat' (first|refine aA ?_ ?_)
  ·exact h0
  ·exact h1
  ·refine fun (hv:decide (v=f (k:Int).toNat)=true)=>?_;have e:(k:Int)=Bs f v n:=(X8 hkl (of_decide_eq_true hv) hf).symm;repeat' (first|apply aA|exact rfl|exact e)
  ·refine fun (hv:decide (v=f (k:Int).toNat)=false)=>?_;have hne:v≠f k:=of_decide_eq_false hv;repeat' (first|refine aA ?_ ?_)
   ·exact b1
   ·exact b2
   refine aB (k+1) ?_;repeat' (first|apply aA|exact trivial|exact rfl)
   ·exact hkl
   ·refine fun j hj=>?_;by_cases e:j=k
    ·rw [e]; exact hne
    ·exact hf j (by omega)
   ·exact fun (j:Nat) (hj:j < _)=>Or.inl (sub_one _ _ _ _ _)
   ·show n - (k+1) < n - k;omega
 ·refine fun (hg:decide ((k:Int) < (n:Int))=false)=>?_;have h1:¬ (k:Int) < (n:Int):=of_decide_eq_false hg;have hkl:k=n:=by omega
  subst hkl;have e:-1=Bs f v k:=(X9 hf).symm;repeat' (first|apply aA|exact rfl|exact e)
def g137:List Nat:=[0,1,4]
def c137:bH :=
 .seq (.region g137 [(zo 4 (.move cF))]) (.seq (.region g137 [(mv 5 0),(mv 6 1),(zo 7 (.call (.c (.fn 154)) [.s 5,.s 6])),(zo 8 (.bin (.geq) (.s 7) (cj 0))),(mv 4 8)]) .ret)
theorem e137:cR Tryz.prog 137 g137 [] [] []=some (c137,[.slot 4],9):=by kernel_rfl
def Z9:Eng.Spec where
 X:=Nat×(Nat->Int)×Int
 args:=fun x=>.cons (.slice 1 x.1 fun i=>.cons (.int .i64 (x.2.1 i)) .nil) (.cons (.int .i64 x.2.2) .nil)
 pre:=fun x=>x.1<=1000000
 res:=fun x=>.bool (decide (∃ i,i < x.1/\x.2.1 i=x.2.2))
 inst:=Yj.inst
theorem Xs:Z9.Ok Tryz.prog 137:=by
 refine Eng.Spec.uR e137 .nil (fun _=>[(154,.p Yj)]) (fun _ _=>aZ.p Yk aZ.nil) ?_;rintro ⟨n,f,v⟩ (hn:n<=1000000);refine ⟨trivial,?_⟩;have e:decide (Bs f v n>=0)=decide (∃ i,i < n/\f i=v):=Ud;repeat' (first|apply aA|exact trivial|exact rfl|exact fun (j:Nat) (hj:j < _)=>Or.inl (sub_one _ _ _ _ _)|exact hn|exact e)
end L3
end
