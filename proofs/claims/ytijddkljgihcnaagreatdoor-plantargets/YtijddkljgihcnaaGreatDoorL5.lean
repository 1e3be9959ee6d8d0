/- A part of the proof. -/
import Derived.Test.YtijddkljgihcnaaGreatDoorEngV
import Derived.Test.YtijddkljgihcnaaGreatDoorProg
import Derived.KernelRfl
import Derived.Shelf.Small.Strs
import Derived.Shelf.Strings.Prefix
import Derived.Ground.NamesProg
section
namespace Go.Eng
open Go Go.RowKit
variable {P:Program}
theorem results_none {fn:Func} {t:Array Value} {w:World} (h:fn.results.toList=[]):(results fn t).run P w=.ok (.tuple #[]) w:=by
 have e:fn.results=#[]:=Array.toList_eq_nil_iff.1 h
 simp [results,e]
theorem mB {w:World} {fn:FuncId} {tmps:Array Value} {ps:Array Tmp} {assign body:Code} {l:Nat} {r:Loop} (h:w.heap[l]?=some (.loop r)) :
  (Instr.enterLoop fn tmps ps assign body (some l)).run P w =
   .ok (w.heap.size,[]) (w.alloc (.loop { state:=.ready,pending:=none,fn,tmps,params:=ps,assign,body,defers:=r.defers })):=by
 unfold Instr.enterLoop
 simp only [Sem.run_bind,run_getLoop h,run_newObj_alloc,Result.andThen,Sem.run_pure]
theorem vC {C:Ctx} {μ:Nat->Option (Nat×Nat)} {hp:List (Nat×aG)} {nx n:Nat} {w:World} {args:SV} {vs:List Value} (hn:C.n=n) (hR:R (aC C μ hp w) args vs) (hok:iW args n) (hh:aL C μ hp nx w)
  (hle:C.R0.LeU (aC C μ hp w)) (hkd:Kd C.R0.w w) :
  aY C μ ⟨iI args 0,hp,nx⟩ { tmps:=vs.toArray++Array.replicate (n - vs.toArray.size) undef,defers:=[] } w:=by
 have hlen:=A5 hok hR
 refine ⟨?_,oO.nil _ _,?_,hh,hle,hkd⟩
 ·simp [hn]; omega
 ·intro s
  rcases Ep (t:=vs.toArray++Array.replicate (n - vs.toArray.size) undef) 0 hR s with h1|h1
  ·simp only [Nat.zero_le,if_true,Nat.sub_zero] at h1
   have:(vs.toArray++Array.replicate (n - vs.toArray.size) undef).getD s undef=vs.getD s undef:=by
    simp only [Array.getD_eq_getD_getElem?,List.getD_eq_getElem?_getD,Array.getElem?_append,List.getElem?_toArray,List.size_toArray]
    by_cases hs:s < vs.length
    ·simp [hs]
    ·simp only [hs,if_false,Array.getElem?_replicate]
     have:vs[s]?=none:=by simp; omega
     rw [this]
     split <;> rfl
   rw [this]
   exact h1
  ·rw [h1]; exact mS _ _ _
theorem Al {n i : Nat} {f : Operand} {f' : SX} {gid gn : Nat} {g : aH} {ps : Array Tmp} {a0 b0 : Code} {a' b' : aH} {fn : Func} {cg : Code} (hf : cX f = some f') (hfn : P.funcs[gid]? = some fn) (hname : (fn.name == "runtime.NumGoroutine") = false) (hbody : fn.body = some cg)
  (hgn:fn.ntmps=gn) (hres:fn.results.toList=[]) (hps:nO n ps.toList=true) (ihg:bJ P gn cg g) (iha:bJ P n a0 a') (ihb:bJ P n b0 b') :
  bJ P n (.rangeFunc f ps a0 b0) (.range i f' gid g gn ps.toList a' b'):=by
 intro C ro T st a w K Q hn hC hK hs he
 obtain ⟨⟨μ,h⟩,hlab⟩:=hs
 obtain ⟨fr,hp,nx⟩:=st
 have hTd:T.dep=C.dep:=hC.tb.dep
 have hx:=iT (E:=aC C μ hp w) (a:=a) (fr:=fr) (g:=none) (fun _ _ e=>by cases e) h.fr hf
 simp only [evC] at he
 split at he
 rotate_left
 ·exact he.elim
 rename_i kf caps hgx
 rw [hgx] at hx
 cases hk1:Nat.beq kf gid with
 | false=>simp [hk1] at he
 | true =>
 cases hk3:Nat.blt kf FM with
 | false=>simp [hk1,hk3] at he
 | true =>
 cases hk2:Nat.blt nx FB with
 | false=>simp [hk1,hk2,hk3] at he
 | true =>
 have:=nbeq hk1
 subst this
 have hnx:nx < FB:=Nat.le_of_ble_eq_true (n:=nx+1) hk2
 simp only [hk1,hk2,hk3,Bool.and_self,cond_true] at he
 obtain ⟨hok,he⟩:=he
 simp only [R] at hx
 obtain ⟨cs,hv,hcs⟩:=hx
 have hv':=List.singleton_inj.1 hv
 unfold fnV at hv'
 rw [hk3] at hv'
 simp only [cond_true] at hv'
 refine wpIn_rangeFunc ?_
 intro fn0 hfn0
 -- the record is laid
 obtain ⟨wd,mark,dfr,hent,hbelow,hdf⟩:∃ wd mark dfr,(Instr.enterLoop fn0 a.tmps ps a0 b0 (WF ro).round).run P w=.ok (wd.heap.size,mark) (wd.alloc (.loop { state:=.ready,pending:=none,fn:=fn0,tmps:=a.tmps,params:=ps,assign:=a0,body:=b0,defers:=dfr })) /\
   Below w.heap.size w wd/\oO C.R0.w wd (mark++a.defers):=by
  rw [G0]
  cases ro with
  | none =>
   have hb:Below w.heap.size w (w.alloc (.deferred (some []))):=(Below.refl _ _).alloc (Nat.le_refl _) _
   refine ⟨w.alloc (.deferred (some [])),_,w.heap.size,by rw [run_enterLoop_outer,World.size_alloc],hb,?_⟩
   have hd:=sF (Kd.gB hb) h.defers
   refine ⟨List.pairwise_cons.2 ⟨?_,hd.1⟩,?_⟩
   ·intro d hd' e
    obtain ⟨D,e1,_,e3⟩:=h.defers.2 d hd'
    rw [e1] at e
    cases e
    have:=(Array.getElem?_eq_some_iff.1 e3).1
    omega
   ·intro d hd'
    rcases List.mem_cons.1 hd' with rfl|hd'
    ·refine ⟨w.heap.size,rfl,?_,heap_alloc_new w _⟩
     exact h.kd.size
    ·exact hd.2 d hd'
  | some l =>
   obtain ⟨r,hr⟩:=hC.ro l rfl
   obtain ⟨r',hr'⟩:=h.kd.loop l r hr
   exact ⟨w,[],r'.defers,mB hr',Below.refl _ _,by simpa using h.defers⟩
 obtain ⟨rec,hrec⟩:∃ rec:Loop,rec={ state:=.ready,pending:=none,fn:=fn0,tmps:=a.tmps,params:=ps,assign:=a0,body:=b0,defers:=dfr }:=⟨_,rfl⟩
 rw [<- hrec] at hent
 have hrec0:iM rec 0 (.loop rec):=by simp only [iM]; rw [hrec]
 obtain ⟨H1,hH1⟩:∃ H1:Nat->Nat->Obj->Prop,H1=fun l p o=>C.H l p o\/(l=C.dep/\iM rec p o):=⟨_,rfl⟩
 have H1d:∀ l p o,H1 l p o->l < C.dep+1:=by
  intro l p o e
  rw [hH1] at e
  rcases e with e|⟨e,_⟩
  ·have:=C.Hd _ _ _ e; omega
  ·omega
 have H1l:∀ l p o,H1 l p o->∃ r,o=.loop r:=by
  intro l p o e
  rw [hH1] at e
  rcases e with e|⟨_,e⟩
  ·exact C.Hl _ _ _ e
  ·exact Cs e
 have H1lt:∀ l p o,l < C.dep->(H1 l p o ↔ C.H l p o):=by
  intro l p o hl
  rw [hH1]
  refine ⟨fun e=>e.resolve_right (fun e=>by omega),.inl⟩
 have H1at:∀ p o,H1 C.dep p o ↔ iM rec p o:=by
  intro p o
  rw [hH1]
  refine ⟨fun e=>?_,fun e=>.inr ⟨rfl,e⟩⟩
  rcases e with e|e
  ·have:=C.Hd _ _ _ e; omega
  ·exact e.2
 -- the context of the function that is ranged over
 let C1:Ctx:={ C with H:=H1,dep:=C.dep+1,Hd:=H1d,Hl:=H1l }
 have hd0:=h.hep.below hbelow
 have hE0:=eF (C:=C) (μ:=μ) (hp:=hp) hbelow
 obtain ⟨hd1,hE1⟩:=hd0.to (C':=C1) rfl rfl rfl (fun l p o e=>by show H1 l p o; rw [hH1]; exact .inl e) hd0.pin
 obtain ⟨hE2,hd2⟩:=hd1.alloc hnx (.loop rec) (.hid C.dep 0) rfl 0 ((H1at 0 _).2 hrec0)
 obtain ⟨w1,hw1⟩:∃ w1,w1=wd.alloc (.loop rec):=⟨_,rfl⟩
 obtain ⟨μ1,hμ1⟩:∃ μ1,μ1=upd μ nx (wd.heap.size,0):=⟨_,rfl⟩
 rw [<- hw1,<- hμ1] at hE2 hd2
 let C':Ctx:={ C1 with n:=gn,np:=fO hp,bnd:=nx+1,pin:=μ1,R0:=aC C1 μ1 ((nx,.hid C.dep 0)::hp) w1 }
 obtain ⟨hd3,hE3⟩:=hd2.to (C':=C') rfl rfl rfl (fun _ _ _ e=>e) (fun _ _ e=>e)
 have hEE:=((hE0.trans hE1).trans hE2).trans hE3
 have hnxm:μ1 nx=some (wd.heap.size,0):=by rw [hμ1]; simp [upd]
 have hl1:w1.heap[wd.heap.size]?=some (.loop rec):=by rw [hw1]; exact World.alloc_heap_new wd _
 have hsz1:w.heap.size<=w1.heap.size:=hEE.kd.size
 have hpinOk:uD C':=by
  intro id p e
  have e':μ1 id=some p:=e
  by_cases hlt:id < FB
  ·exact .inr ⟨hd3.nx id p e' hlt,hlt⟩
  ·left
   obtain ⟨o,ho⟩:=hd3.fam id p e' (Nat.not_lt.1 hlt)
   simp only [hget,hlt,if_false] at ho
   split at ho
   ·rename_i q hq
    simp only [fbase,hlt,if_false]
    rw [get?_cons] at hq
    split at hq
    ·cases hq
    ·exact sL hq
   ·cases ho
 have cExt:C.Ext C':=⟨rfl,rfl,rfl,Nat.le_succ _,H1lt,h.le.trans hEE.toLeU,h.kd.trans hEE.kd,fun id p e=>hEE.μ id p (h.hep.pin id p e)⟩
 let T':Tb:=⟨T.fs,(T.dep,xD T ps.toList a' b' fr)::T.ys,fO hp,nx+1,T.dep+1⟩
 have hT':rT P C' T':=by
  refine ⟨hC.tb.fs,?_,rfl,rfl,by show T.dep+1=C.dep+1; rw [hTd],⟨hC.tb.g.gok,hC.tb.g.gT⟩⟩
  intro lab hd hys
  have hys':get? ((T.dep,xD T ps.toList a' b' fr)::T.ys) lab=some hd:=hys
  rw [get?_cons] at hys'
  split at hys'
  ·rename_i e
   cases hys'
   rw [<- e,hTd]
   exact Fy (C':=C') (rec:=rec) (ps:=ps) iha ihb hC hn h hlab rfl rfl rfl rfl H1lt H1at hEE.toLeU hEE.kd (fun id p e=>hEE.μ id p e) hsz1 (by rw [hrec]) (by rw [hrec]) (by rw [hrec]) (by rw [hrec]) hps
  ·exact (hC.tb.ys lab hd hys').ext cExt
 have hbase:C'.w0.heap.size<=C'.R0.w.heap.size:=hd3.frm.size
 have hC':Dj P C' none T':=⟨hpinOk,hT',hbase,fun l e=>by cases e⟩
 -- its arguments
 have hargs:R (aC C' μ1 ((nx,.hid C.dep 0)::hp) w1) (.cons (.yield nx) caps) (.func (.yield wd.heap.size) #[] #[]::cs):=by
  simp only [R]
  exact ⟨_,_,rfl,⟨_,_,hnxm,rfl⟩,eL hEE hcs⟩
 have rep:=vC (C:=C') rfl hargs hok hd3 (Env.LeU.refl _) (Kd.refl _)
 have he':evC g T' ⟨iI (.cons (.yield nx) caps) 0,(nx,.hid T.dep 0)::hp,nx+1⟩ (fun e st' =>
   match e with
   | .exit _=>False
   | _=>match st' with
    | ⟨_,hp',nx'⟩=>bif jI T.dep (drop? hp' nx) then
     match get? hp' nx with
     | some (.hid l pd)=>bif Nat.beq l T.dep then
       match pd with
       | 0=>K .normal ⟨fr,drop? hp' nx,nx'⟩
       | 1=>False
       | 2=>K .ret ⟨fr,drop? hp' nx,nx'⟩
       | n+3=>K (.exit n) ⟨fr,drop? hp' nx,nx'⟩
      else False
     | _=>False
    else False):=he
 rw [hTd] at he'
 have hcall:(callFunc kf (#[.func (.yield wd.heap.size) #[] #[]]++cs.toArray)).run P w1=.ok (.enter kf (#[.func (.yield wd.heap.size) #[] #[]]++cs.toArray)) w1:=by
  simp [callFunc,hfn,hbody,ne_of_beq_false hname]
 refine ⟨wd.heap.size,mark,w1,{ target:=.fn (.func kf) cs.toArray,args:=#[.func (.yield wd.heap.size) #[] #[]] },w1,kf,#[.func (.yield wd.heap.size) #[] #[]]++cs.toArray,w1,by rw [hent,hw1],?_,fun f' _=>rV ro f',?_,fun hh=>(by rw [rU] at hh; cases hh),?_⟩
 ·simp only [resolve,hv']
  simp [go_sem]
 ·have e1:#[Value.func (.yield wd.heap.size) #[] #[]]++cs.toArray=(Value.func (.yield wd.heap.size) #[] #[]::cs).toArray:=by simp
  rw [e1] at hcall ⊢
  simpa [invoke] using hcall
 rw [sD]
 refine qJ hfn hbody (Q:=fun e a2 w2=>∃ se st2,e=wA se/\(match se with
   | .exit _=>False
   | _=>match st2 with
    | ⟨_,hp',nx'⟩=>bif jI C.dep (drop? hp' nx) then
     match get? hp' nx with
     | some (.hid l pd)=>bif Nat.beq l C.dep then
       match pd with
       | 0=>K .normal ⟨fr,drop? hp' nx,nx'⟩
       | 1=>False
       | 2=>K .ret ⟨fr,drop? hp' nx,nx'⟩
       | n+3=>K (.exit n) ⟨fr,drop? hp' nx,nx'⟩
      else False
     | _=>False
    else False)/\Stands C' st2 a2 w2) ?_ ?_
 ·have e1:#[Value.func (.yield wd.heap.size) #[] #[]]++cs.toArray=(Value.func (.yield wd.heap.size) #[] #[]::cs).toArray:=by simp
  rw [e1,hgn]
  refine ihg C' none T' ⟨iI (.cons (.yield nx) caps) 0,(nx,.hid C.dep 0)::hp,nx+1⟩ _ w1 _ _ rfl hC' ?_ ⟨⟨μ1,rep⟩,uI _ _⟩ he'
  intro e st2 a2 w2 hk hs2
  exact ⟨e,st2,rfl,hk,hs2⟩
 ·rintro e a2 w2 ⟨se,st2,rfl,hk,⟨⟨μ2,h2⟩,_⟩⟩
  obtain ⟨fr2,hp2,nx2⟩:=st2
  have core:(bif jI C.dep (drop? hp2 nx) then
     match get? hp2 nx with
     | some (.hid l pd)=>bif Nat.beq l C.dep then
       match pd with
       | 0=>K .normal ⟨fr,drop? hp2 nx,nx2⟩
       | 1=>False
       | 2=>K .ret ⟨fr,drop? hp2 nx,nx2⟩
       | n+3=>K (.exit n) ⟨fr,drop? hp2 nx,nx2⟩
      else False
     | _=>False
    else False)->∃ base,oO base w2 a2.defers/\∀ w'',Shut base w2 w''->∃ v,(results fn a2.tmps).run P w''=.ok v w''/\rangePost (WF ro) 0 P wd.heap.size Q { a with defers:=mark++a.defers } (.returned v) w'':=by
   intro hk
   refine ⟨C'.R0.w,h2.defers,?_⟩
   intro w3 hsh
   refine ⟨_,results_none hres,?_⟩
   cases hn1:jI C.dep (drop? hp2 nx) with
   | false=>simp [hn1] at hk
   | true =>
   simp only [hn1,cond_true] at hk
   split at hk
   rotate_left
   ·exact hk.elim
   rename_i l pd hg2
   cases hb2:Nat.beq l C.dep with
   | false=>simp [hb2] at hk
   | true =>
   have:=nbeq hb2
   subst this
   simp only [hb2,cond_true] at hk
   have hm2:μ2 nx=some (wd.heap.size,0):=h2.hep.pin nx _ hnxm
   obtain ⟨hh3,hE4⟩:=h2.hep.shut hsh hbase
   obtain ⟨o3,ho3,hH3⟩:=hh3.recAt hg2 hm2
   have hro3:iM rec pd o3:=(H1at pd o3).1 hH3
   obtain ⟨s3,p3,rfl⟩:∃ s p,o3=.loop { rec with state:=s,pending:=p }:=Fz hro3
   -- the record is exhausted,and let go
   obtain ⟨hE5,hh5⟩:=hh3.turn (l':=C.dep) (p':=1) (r':={ rec with state:=.exhausted,pending:=p3 }) hg2 hm2 ho3 ((H1at 1 _).2 ⟨_,_,rfl⟩)
   have hgd:get? (eJ hp2 nx (.hid C.dep 1)) nx=some (.hid C.dep 1):=by
    rw [get?_putH,get?_cons,if_pos rfl]
   have hdrop:drop? (eJ hp2 nx (.hid C.dep 1)) nx=drop? hp2 nx:=jF _ _ _
   obtain ⟨hh6,hE6⟩:=hh5.Lx (C:=C) rfl rfl rfl (fun l p o hl e=>(H1lt l p o hl).1 e) (fun id p e=>h2.hep.pin id p (hEE.μ id p (h.hep.pin id p e))) hgd (by rw [hdrop]; exact hn1)
   rw [hdrop] at hh6 hE6
   have hLeU:(aC C μ hp w).LeU (aC C μ2 (drop? hp2 nx) (w3.putObj wd.heap.size (.loop { rec with state:=.exhausted,pending:=p3 }))) :=
    hEE.toLeU.trans (h2.le.trans (hE4.toLeU.trans (hE5.toLeU.trans hE6.toLeU)))
   have hLeR:(aC C μ hp w).LeR (aC C μ2 (drop? hp2 nx) (w3.putObj wd.heap.size (.loop { rec with state:=.exhausted,pending:=p3 }))) :=
    ⟨hLeU,fun id p e=>h2.hep.pin id p (hEE.μ id p e)⟩
   -- what is below the rounds' world stands as it stood
   have kd3:∀ (b:Nat),b < w1.heap.size->w3.heap[b]?=w2.heap[b]?:=fun b hb=>hsh.block b hb
   have kd1:Kd w1 w3:=by
    have k2:Kd w1 w2:=h2.kd
    refine ⟨by rw [hsh.size]; exact k2.size,fun b r e=>?_,fun b ds e=>?_⟩
    ·obtain ⟨r',e'⟩:=k2.loop b r e
     exact ⟨r',(kd3 b (Array.getElem?_eq_some_iff.1 e).1).trans e'⟩
    ·exact (kd3 b (Array.getElem?_eq_some_iff.1 e).1).trans (k2.dfr b ds e)
   have kd4:Kd w1 (w3.putObj wd.heap.size (.loop { rec with state:=.exhausted,pending:=p3 })):=kd1.trans (Ir ho3)
   have kdd:Kd wd w1:=by rw [hw1]; exact Kd.gB ((Below.refl _ _).alloc (Nat.le_refl _) _)
   have repF:aY C μ2 ⟨fr,drop? hp2 nx,nx2⟩ { a with defers:=mark++a.defers } (w3.putObj wd.heap.size (.loop { rec with state:=.exhausted,pending:=p3 })):=by
    refine ⟨h.size,sF (kdd.trans kd4) hdf,?_,hh6,h.le.trans hLeU,h.kd.trans (hEE.kd.trans kd4)⟩
    intro s
    have h1:=h.fr s
    have hng:∀ d w x,look fr s≠.gd d w x:=fun d w x e=>by have:=hlab s d w x e; simp [bV] at this
    have h2:R (aC C μ hp w) (look fr s) [a.tmps.getD s undef]:=by
     cases hl:look fr s with
     | gd d w x=>exact absurd hl (hng d w x)
     | _=>simp only [hl] at h1; exact h1
    exact kP (cJ hLeR h2) hng
   have hst:Stands C ⟨fr,drop? hp2 nx,nx2⟩ { a with defers:=mark++a.defers } (w3.putObj wd.heap.size (.loop { rec with state:=.exhausted,pending:=p3 })):=⟨⟨μ2,repF⟩,hlab⟩
   have hend:∀ s3,s3≠.busy->w3.heap[wd.heap.size]?=some (.loop { rec with state:=s3,pending:=p3 })->(Instr.endLoop wd.heap.size).run P w3=.ok p3 (w3.putObj wd.heap.size (.loop { rec with state:=.exhausted,pending:=p3 })) :=
    fun s3 hs e=>run_endLoop (P:=P) e hs
   unfold iM at hro3
   split at hro3
   ·injection hro3 with e1
    obtain ⟨rfl,rfl⟩:s3=.ready/\p3=none:=by injection e1 with e1 e2; exact ⟨e1,e2⟩
    exact ⟨none,_,hend _ (by simp) ho3,hK _ _ _ _ hk hst⟩
   ·exact hk.elim
   ·injection hro3 with e1
    obtain ⟨rfl,rfl⟩:s3=.done/\p3=some .ret:=by injection e1 with e1 e2; exact ⟨e1,e2⟩
    exact ⟨some .ret,_,hend _ (by simp) ho3,wpIn_ret (hK _ _ _ _ hk hst)⟩
   ·rename_i m
    injection hro3 with e1
    obtain ⟨rfl,rfl⟩:s3=.done/\p3=some (.exit m):=by injection e1 with e1 e2; exact ⟨e1,e2⟩
    exact ⟨some (.exit m),_,hend _ (by simp) ho3,wpIn_exit (hK _ _ _ _ hk hst)⟩
  cases se with
  | normal=>exact ⟨.inl rfl,core hk⟩
  | ret=>exact ⟨.inr rfl,core hk⟩
  | exit id=>exact hk.elim
theorem Kc:∀ {n:Nat} {c:Code} {sc:aH},Tr P n c sc->bJ P n c sc:=by
 intro n c sc h
 induction h with
 | skip=>exact C6 _
 | region hl=>exact xK hl
 | drawn hd=>exact Aj hd
 | drawnL hd=>exact xJ hd
 | seq _ _ ihx ihy=>exact Gg ihx ihy
 | cond hx _ _ ihy ihz=>exact Cy hx ihy ihz
 | join _ ih=>exact C4 ih
 | block _ ih=>exact Ai ih
 | scope _ ih=>exact Am ih
 | label=>exact Ak
 | loop _ ih=>exact C5 ih
 | exit=>exact Cz _ _
 | ret=>exact Gf _
 | range hf h1 h2 h3 h4 h5 _ h6 _ _ ihg iha ihb=>exact Al hf h1 h2 h3 h4 h5 h6 ihg iha ihb
end Go.Eng
end
section
namespace Go.Eng
open Go Go.RowKit
theorem aF (p x y:Bool) (n:Nat):aE p (.s n) (.c (.bool false)) x y=(p && x):=by cases p <;> simp [aE]
theorem aD (p x y:Bool) (n:Nat):aE p (.c (.bool true)) (.s n) x y=(p || y):=by cases p <;> simp [aE]
inductive fY where
 | slot (n:Nat)
 | cell (a n:Nat) (agg:Bool)
 deriving Repr
def kQ (P:Program):List ResultVar->Option (List fY)
 | []=>some []
 | .tmp t::r=>match kQ P r with
  | some l=>some (.slot t::l)
  | none=>none
 | .cell a t::r=>match kQ P r with
  | some l=>match P.info? t with
   | some i=>match P.underlying t with
    | some d=>bif fB d || i.size == 1 then some (.cell a i.size (fB d)::l) else none
    | none=>none
   | none=>none
  | none=>none
def evR (st:St):fY->(SV->Prop)->Prop
 | .slot n,k=>k (unlab none (look st.fr n))
 | .cell a n agg,k=>(sJ st.hp n agg (unlab none (look st.fr a))).holds k
def Bm (st:St):List fY->(SV->Prop)->Prop
 | [],k=>k .nil
 | r::l,k=>evR st r fun v=>Bm st l fun t=>k (.cons v t)
def rX:SV->SV
 | .cons h .nil=>h
 | l=>.tup l
def Dx (np:List Nat) (tab:List (Nat×cL)) (sc:aH) (res:List fY) (args:SV) (hp:List (Nat×aG)) (nx:Nat) (K:SV->St->Prop):Prop :=
 evC sc ⟨tab,[],np,0,0⟩ ⟨iI args 0,hp,nx⟩ fun e st =>
  match e with
  | .exit _=>False
  | _=>Bm st res fun l=>K (rX l) st
def W1 (tab:List (Nat×cL)) (sc:aH) (res:List fY) (fresh:Bool) (args want:SV):Prop :=
 Dx [] tab sc res args [] 0 fun sv st=>sub (match fresh with|true=>.strict|false=>.free) st.hp 200 sv want
def wZ (np:List Nat) (sv want:SV) (hp hp':List (Nat×aG)):List (Nat×Nat) :=
 let p0:=eG want sv (pins np)
 let p1:=jX hp hp' p0 p0
 jW hp hp' (jX hp hp' p1 p1)
theorem zU (np:List Nat) (sv want:SV) (hp hp':List (Nat×aG)) (k:PK):tB np sv want hp hp' k=k (wZ np sv want hp hp'):=by
 simp only [tB,zW,nG,tA,qU,wZ]
def Db (np:List Nat) (fresh:Bool) (sv:SV) (st:St) (want:SV) (h1:List (Nat×aG)) (nx1:Nat):Prop :=
 jP h1 fun h1=>tB np sv want st.hp h1 fun prs =>
 bif dB nx1 prs then bif mK st.hp h1 prs then bif nH prs np then
  sub ⟨prs,false,match fresh with|true=>false|false=>true,false⟩ st.hp 200 sv want/\kG ⟨prs,false,match fresh with|true=>false|false=>true,false⟩ nx1 prs st.hp h1
 else False else False else False
def aI (P:Program) (f:Nat) (G joins hint:List Nat) (rg:List (Nat×Nat×aH×Nat)):Option (aH×List fY×Nat) :=
 match P.funcs[f]? with
 | none=>none
 | some fn => match fn.name == "runtime.NumGoroutine" with
  | true=>none
  | false=>match fn.body with
   | none=>none
   | some c=>match kQ P fn.results.toList with
    | none=>none
    | some res=>match dQ P fn.ntmps G joins hint rg c (0,0) with
     | none=>none
     | some (sc,_)=>some (sc,res,fn.ntmps)
section
variable {P:Program}
def pZ (t:Array Value):ResultVar->Sem Value
 | .tmp x=>pure (t.getD x undef)
 | .cell c y=>do loadVar y (<- asAddr (t.getD c undef))
section
variable {C:Ctx}
theorem E1 {μ:Nat->Option (Nat×Nat)} {st:St} {a:Act} {w:World} (h:aY C μ st a w) (x:ResultVar) (l:List ResultVar) {s:fY} {r:List fY} (hc:kQ P (x::l)=some (s::r)) {K:SV->Prop} (he:evR st s K) :
  ∃ sv v,K sv/\R (aC C μ st.hp w) sv [v] /\
   (pZ a.tmps x).run P w=.ok v w:=by
 cases x with
 | tmp t =>
  simp only [kQ] at hc
  split at hc
  ·simp only [Option.some.injEq,List.cons.injEq] at hc
   obtain ⟨rfl,rfl⟩:=hc
   exact ⟨_,_,he,vI (fun _ _ e=>by cases e) (h.fr t),by simp [pZ]⟩
  ·cases hc
 | cell c t =>
  simp only [kQ] at hc
  split at hc
  ·split at hc
   ·rename_i i hi
    split at hc
    ·rename_i d hd
     cases hk:fB d || i.size == 1 with
     | false=>simp [hk] at hc
     | true =>
      simp only [hk,cond_true,Option.some.injEq,List.cons.injEq] at hc
      obtain ⟨rfl,rfl⟩:=hc
      simp only [evR] at he
      have hx:R (aC C μ st.hp w) (unlab none (look st.fr c)) [a.tmps.getD c undef]:=vI (fun _ _ e=>by cases e) (h.fr c)
      obtain ⟨s',hq,u,hu,hr⟩:=nV (P:=P) h.hep.obj hi hd hk hx he
      refine ⟨s',u,hq,hr,?_⟩
      generalize hv:a.tmps.getD c undef=v at hx hu
      have:∃ ad,v=.pointer (some ad)/\ad.spot=none:=by
       unfold sJ at he
       split at he
       ·rename_i heq; rw [heq] at hx; simp only [R] at hx; obtain ⟨b,c,_,hv⟩:=hx; exact ⟨_,by simpa using hv,rfl⟩
       ·rename_i heq; rw [heq] at hx; simp only [R] at hx; obtain ⟨b,c,_,hv⟩:=hx; exact ⟨_,by simpa using hv,rfl⟩
       ·rename_i heq; rw [heq] at hx; simp only [R] at hx; obtain ⟨b,c,_,hv,_⟩:=hx; exact ⟨_,by simpa using hv,rfl⟩
       ·exact he.elim
      obtain ⟨ad,rfl,had⟩:=this
      simp [Instr.loadAt,Instr.sureAddr] at hu
      simp only [pZ,hv,asAddr,Sem.run_bind,Sem.run_pure,Result.andThen_ok]
      exact hu
    ·cases hc
   ·cases hc
  ·cases hc
theorem uM {x:ResultVar} {l:List ResultVar} {res:List fY} (h:kQ P (x::l)=some res):∃ s r,res=s::r/\kQ P l=some r:=by
 cases hl:kQ P l with
 | none=>cases x <;> simp [kQ,hl] at h
 | some r =>
  cases x with
  | tmp t=>simp only [kQ,hl,Option.some.injEq] at h; exact ⟨_,_,h.symm,rfl⟩
  | cell c t =>
   cases hi:P.info? t with
   | none=>simp [kQ,hl,hi] at h
   | some i =>
    cases hd:P.underlying t with
    | none=>simp [kQ,hl,hi,hd] at h
    | some d =>
     simp only [kQ,hl,hi,hd] at h
     generalize (fB d || i.size == 1)=bb at h
     cases bb with
     | false=>simp at h
     | true=>simp only [cond_true,Option.some.injEq] at h; exact ⟨_,_,h.symm,rfl⟩
def wG:SV->Bool
 | .nil=>true
 | .cons _ t=>wG t
 | _=>false
theorem Bn {μ:Nat->Option (Nat×Nat)} {st:St} {a:Act} {w:World} (h:aY C μ st a w) :
  ∀ (l:List ResultVar) (res:List fY) (K:SV->Prop),kQ P l=some res->Bm st res K ->
   ∃ sv vs,K sv/\wG sv=true/\sv.len=vs.length/\R (aC C μ st.hp w) sv vs /\
    (l.mapM (pZ a.tmps)).run P w=.ok vs w:=by
 intro l
 induction l with
 | nil =>
  intro res K hc he
  simp only [kQ,Option.some.injEq] at hc
  subst hc
  exact ⟨.nil,[],he,rfl,rfl,rfl,by simp⟩
 | cons x l ih =>
  intro res K hc he
  obtain ⟨s,r,rfl,hr⟩:=uM hc
  simp only [Bm] at he
  obtain ⟨sv,v,hk,hR,hrun⟩:=E1 h x l hc he
  obtain ⟨t,vs,hk',htl,hlen,hR',hrun'⟩:=ih r _ hr hk
  refine ⟨.cons sv t,v::vs,hk',htl,by simp [SV.len,hlen],by simp only [R]; exact ⟨_,_,rfl,hR,hR'⟩,?_⟩
  rw [List.mapM_cons]
  simp only [Sem.run_bind]
  rw [hrun]
  simp only [Result.andThen_ok]
  rw [hrun']
  simp
end
theorem Ab {fn:Func} {t:Array Value} {vs:List Value} {w:World}
  (h:(fn.results.toList.mapM (pZ t)).run P w=.ok vs w) :
  (results fn t).run P w=.ok (if vs.length=1 then vs.headD undef else .tuple vs.toArray) w:=by
 have e:results fn t=(do let vs <- fn.results.mapM (pZ t); pure (if h:vs.size=1 then vs[0] else .tuple vs)):=rfl
 rw [e,Array.mapM_eq_mapM_toList]
 simp only [Sem.run_bind,Sem.run_map,h]
 match vs with
 | []=>simp
 | [x]=>simp
 | x::y::r=>simp
theorem mW {f:Nat} {G joins hint:List Nat} {rg:List (Nat×Nat×aH×Nat)} {sc:aH} {res:List fY} {n:Nat} (hc:aI P f G joins hint rg=some (sc,res,n)) :
  ∃ fn c q, P.funcs[f]? = some fn /\ fn.body = some c /\ (fn.name == "runtime.NumGoroutine") = false /\ kQ P fn.results.toList = some res /\ dQ P n G joins hint rg c (0, 0) = some (sc, q) /\ fn.ntmps = n := by
 unfold aI at hc
 split at hc
 ·cases hc
 ·rename_i fn hf
  split at hc
  ·cases hc
  ·rename_i hname
   split at hc
   ·cases hc
   ·rename_i c hb
    split at hc
    ·cases hc
    ·rename_i res' hres
     split at hc
     ·cases hc
     ·rename_i sc' q hcode
      simp only [Option.some.injEq,Prod.mk.injEq] at hc
      obtain ⟨rfl,rfl,rfl⟩:=hc
      exact ⟨fn,c,q,hf,hb,hname,hres,hcode,rfl⟩
theorem eZ.nil:eZ P []:=fun i gid g gn e=>by cases e
theorem eZ.cons {rg:List (Nat×Nat×aH×Nat)} (h:eZ P rg) {i gid:Nat} {G joins hint:List Nat} {rg':List (Nat×Nat×aH×Nat)} {g:aH} {gn:Nat} (hrg':eZ P rg') (hc:aI P gid G joins hint rg'=some (g,[],gn)):eZ P ((i,gid,g,gn)::rg):=by
 intro j gid' g' gn' e
 rw [get?_cons] at e
 split at e
 ·cases e
  obtain ⟨fn,c,q,hf,hb,hname,hres,hcode,hn⟩:=mW hc
  refine ⟨fn,c,hf,hname,hb,hn,?_,yE hrg' _ _ _ _ hcode⟩
  cases hl:fn.results.toList with
  | nil=>rfl
  | cons x l=>rw [hl] at hres; obtain ⟨_,_,e,_⟩:=uM hres; cases e
 ·exact h j gid' g' gn' e
theorem Dq {f:Nat} {G joins hint:List Nat} {rg:List (Nat×Nat×aH×Nat)} {sc:aH} {res:List fY} {n:Nat} (hc:aI P f G joins hint rg=some (sc,res,n)) (args:Array Value) (w:World):(callFunc f args).run P w=.ok (.enter f args) w:=by
 obtain ⟨fn,c,q,hf,hb,hname,_⟩:=mW hc
 simp [callFunc,hf,hb,ne_of_beq_false hname]
theorem yF {f:Nat} {G joins hint:List Nat} {rg:List (Nat×Nat×aH×Nat)} {sc:aH} {res:List fY} {n:Nat} (hc:aI P f G joins hint rg=some (sc,res,n)) (hrg:eZ P rg) {C:Ctx} (hn:C.n=n) (hpin:uD C) (hbnd:C.bnd=0) (hdep:C.dep=0) {w:World} (hR0:C.R0=eM (fun _=>False) w) (hw0:C.w0=w) (hgc:Az C)
  {tab:List (Nat×cL)} (htab:aA P tab) {args:SV} {vs:List Value} {μ:Nat->Option (Nat×Nat)} {hp:List (Nat×aG)} {nx:Nat} (hh:aL C μ hp nx w)
  (hR:R (aC C μ hp w) args vs) (hok:iW args n) {K:SV->St->Prop} (hev:Dx C.np tab sc res args hp nx K) {RR:Ending->World->Prop}
  (hfin:∀ sv st μ' w' v,K sv st->aL C μ' st.hp st.nx w'->R (aC C μ' st.hp w') sv [v]->RR (.returned v) w'):Calls P f vs.toArray w RR:=by
 obtain ⟨fn,c,q,hf,hb,hname,hres,hcode,rfl⟩:=mW hc
 have hst:=vC (C:=C) hn hR hok hh (by rw [hR0]; exact ⟨fun _ h=>h.elim,fun _ h=>h.elim⟩) (by rw [hR0]; exact Kd.refl _)
 have hbase:C.w0.heap.size<=C.R0.w.heap.size:=by rw [hR0,hw0]; exact Nat.le_refl _
 refine qJ hf hb (Q:=fun e a' w'=>∃ se st,e=wA se/\(match se with
   | .exit _=>False
   | _=>Bm st res fun l=>K (rX l) st)/\Stands C st a' w') ?_ ?_
 ·refine Kc (yE hrg _ _ _ _ hcode) C none ⟨tab,[],C.np,0,0⟩ _ _ w _ _ hn ⟨hpin,⟨htab,(fun _ _ e=>by cases e),rfl,hbnd.symm,hdep.symm,hgc⟩,hbase,fun l e=>by cases e⟩ ?_ ⟨⟨μ,hst⟩,uI _ _⟩ hev
  intro e st a' w' hk hs
  exact ⟨e,st,rfl,by cases e <;> exact hk,hs⟩
 rintro e a' w0' ⟨se,st,rfl,hk,⟨⟨μ',hrep0⟩,_⟩⟩
 have fin:(Bm st res fun l=>K (rX l) st)->∃ base,oO base w0' a'.defers/\∀ w',Shut base w0' w'->∃ v,(results fn a'.tmps).run P w'=.ok v w'/\RR (.returned v) w':=by
  intro hk
  refine ⟨C.R0.w,hrep0.defers,fun w' hsh=>?_⟩
  obtain ⟨hh',hE⟩:=hrep0.hep.shut hsh hbase
  let C2:Ctx:={ C with R0:=eM (fun _=>False) w' }
  have hrep:aY C2 μ' st ⟨a'.tmps,[]⟩ w':=by
   refine ⟨hrep0.size,oO.nil _ _,fun s=>?_,(hh'.to (C':=C2) rfl rfl rfl (fun _ _ _ e=>e) hh'.pin).1,⟨fun _ h=>h.elim,fun _ h=>h.elim⟩,Kd.refl _⟩
   have h1:=hrep0.fr s
   cases hl:look st.fr s with
   | gd d wt x =>
    rw [hl] at h1
    exact ⟨fun e=>cJ hE (h1.1 e),h1.2⟩
   | _=>rw [hl] at h1; exact cJ hE h1
  obtain ⟨sv,vs,hsub,hil,hln,hRv,hrun⟩:=Bn hrep _ _ _ hres hk
  refine ⟨_,Ab hrun,hfin _ _ μ' _ _ hsub hh' ?_⟩
  have hRv:R (aC C μ' st.hp w') sv vs:=hRv
  cases sv with
  | nil=>simp only [R] at hRv; subst hRv; simp [rX,R]
  | cons hh tt =>
   cases tt with
   | nil =>
    simp only [R] at hRv
    obtain ⟨v,xs,rfl,h1,rfl⟩:=hRv
    simpa [rX] using h1
   | ints=>simp [wG] at hil
   | _ =>
    have:vs.length≠1:=by
     simp only [R] at hRv
     obtain ⟨v,xs,rfl,h1,h2⟩:=hRv
     first
      | (simp only [SV.len] at hln; simp at hln ⊢
         intro e; subst e; simp at h2; done)
      | (obtain ⟨y,ys,rfl,_⟩:=h2; simp)
    simp only [this,if_false,rX,R]
    exact ⟨vs,rfl,by simpa [R] using hRv⟩
  | _=>simp [wG] at hil
 cases se with
 | normal=>exact ⟨.inl rfl,fin hk⟩
 | ret=>exact ⟨.inr rfl,fin hk⟩
 | exit id=>exact hk.elim
theorem eP (n:Nat):hget [] n=none:=by unfold hget; split <;> rfl
theorem aL.start (C:Ctx) (h:C.pin=fun _=>none):aL C (fun _=>none) [] 0 C.w0:=by
 refine ⟨⟨?_,?_⟩,?_,?_,?_,?_,?_,?_,Frm.refl _ _⟩
 ·intro id o e; cases e
 ·intro id o e; rw [eP] at e; cases e
 ·intro id id' o o' b c c' e; rw [eP] at e; cases e
 ·intro id o b c e; rw [eP] at e; cases e
 ·intro id o e; cases e
 ·intro id p e; cases e
 ·intro id p e; cases e
 ·intro id p e; rw [h] at e; cases e
theorem Spec.cY {f:Nat} {S:Spec} {G joins hint:List Nat} {rg:List (Nat×Nat×aH×Nat)} {sc:aH} {res:List fY} {n:Nat} (hc:aI P f G joins hint rg=some (sc,res,n)) (hrg:eZ P rg)
  (tab:S.X->List (Nat×cL)) (htab:∀ x,S.pre x->aA P (tab x))
  (h:∀ x,S.pre x->iW (S.args x) n/\W1 (tab x) sc res S.fresh (S.args x) (S.res x)):S.Ok P f:=by
 refine ⟨Dq hc,?_⟩
 intro x w vs U hU hgv hpre hR
 obtain ⟨hok,hev⟩:=h x hpre
 let C:Ctx:=⟨n,w,fun _=>False,U,fun _=>none,[],0,H0,0,fun _ _ _ h=>h.elim,fun _ _ _ h=>h.elim,eM (fun _=>False) w⟩
 have hR':R (aC C (fun _=>none) [] w) (S.args x) vs :=
  cJ (E:=eM U w) (E':=aC C (fun _=>none) [] w) ⟨⟨fun b hb=>show Ufor C (fun _=>none) [] w b from ⟨(hU b hb).1,.inl hb,(fun _ _ _ _ e=>by cases e),(hU b hb).2⟩,fun _ _=>rfl⟩,fun _ _ e=>by cases e⟩ hR
 refine yF hc hrg (C:=C) rfl (fun id p e=>by cases e) rfl rfl rfl rfl ⟨hgv,fun _ _ h=>h⟩ (htab x hpre) (aL.start C rfl) hR' hok hev ?_
 intro sv st μ' w' v hsub hh hR1
 refine ⟨?_,hh.frm.below⟩
 refine fU (E:=aC C μ' st.hp w') (hp:=st.hp) ?_ hh.obj 200 _ _ _ hsub hR1
 have tracked:∀ id o b c,hget st.hp id=some o->μ' id=some (b,c)->w.heap.size<=b/\b < w'.heap.size/\Plain w' b:=by
  intro id o b c h1 h2
  rcases hh.mine id o b c h1 h2 with h3|h3
  ·exact h3.elim
  ·exact ⟨h3,hh.lt h1 h2,hh.obj.plain h1 h2⟩
 cases hfr:S.fresh with
 | true =>
  refine ⟨fun e=>?_,fun _ _ _ e=>?_,fun _ _ _ _ e=>?_,rfl,fun id o b c h1 h2 _=>show Ct true U w w' b from .inr (tracked id o b c h1 h2)⟩
  ·cases e
  ·cases e
  ·cases e
 | false =>
  refine ⟨fun _=>⟨fun b hb=>?_,fun _ _=>rfl⟩,fun _ _ _ e=>?_,fun _ _ _ _ e=>?_,rfl,fun id o b c h1 h2 _=>show Ct false U w w' b from .inr (tracked id o b c h1 h2)⟩
  ·obtain ⟨h1,h2,_,h4⟩:=hb
   rcases h2 with h2|h2|h2
   ·exact .inl ⟨rfl,h2⟩
   ·exact h2.elim
   ·exact .inr ⟨h2,h1,h4⟩
  ·cases e
  ·cases e
theorem bZ.cY {f:Nat} {S:bZ} {G joins hint:List Nat} {rg:List (Nat×Nat×aH×Nat)} {sc:aH} {res:List fY} {n:Nat} (hc:aI P f G joins hint rg=some (sc,res,n)) (hrg:eZ P rg)
  (tab:S.X->List (Nat×cL)) (htab:∀ x,S.pre x->aA P (tab x))
  (h:∀ x,S.pre x->iW (S.args x) n/\Dx (upto S.nx0) (tab x) sc res (S.args x) (S.h0 x) S.nx0 fun sv st=>∃ y,S.post x y/\Db (upto S.nx0) S.fresh sv st (S.res x y) (S.h1 x y) S.nx1):S.Ok P f:=by
 refine ⟨Dq hc,?_⟩
 intro x w μ vs T U hU hgc hh0 hpre hR
 obtain ⟨hok,hev⟩:=h x hpre
 let C:Ctx:=⟨n,w,T,U,μ,upto S.nx0,0,H0,0,fun _ _ _ h=>h.elim,fun _ _ _ h=>h.elim,eM (fun _=>False) w⟩
 have hC:aL C μ (S.h0 x) S.nx0 w:=(hh0.to (C':=C) rfl rfl rfl (fun _ _ _ e=>e) hh0.pin).1
 have hpin:uD C:=by
  intro id p e
  have e':μ id=some p:=e
  by_cases hlt:id < FB
  ·left; simp only [fbase,hlt,if_true]; exact zM.2 (hC.nx id p e' hlt)
  ·left
   simp only [fbase,hlt,if_false]
   obtain ⟨o,ho⟩:=hC.fam id p e' (Nat.not_lt.1 hlt)
   simp only [hget,hlt,if_false] at ho
   split at ho
   ·rename_i f' hf'; exact zM.2 (hC.keys _ _ hf')
   ·cases ho
 have hR':R (aC C μ (S.h0 x) w) (S.args x) vs:=hR
 refine yF hc hrg (C:=C) rfl hpin rfl rfl rfl rfl ⟨hgc.gok,hgc.gT⟩ (htab x hpre) hC hR' hok hev ?_
 intro sv st μ1 w' v hk hh hR1
 obtain ⟨y,hpost,hsub⟩:=hk
 unfold Db at hsub
 simp only [jQ,zU] at hsub
 generalize hprs:wZ (upto S.nx0) sv (S.res x y) st.hp (S.h1 x y)=prs at hsub
 try simp only at hsub
 cases hk1:dB S.nx1 prs with
 | false=>simp [hk1] at hsub
 | true =>
  cases hfm:mK st.hp (S.h1 x y) prs with
  | false=>simp [hk1,hfm] at hsub
  | true =>
   cases hpi:nH prs (upto S.nx0) with
   | false=>simp [hk1,hfm,hpi] at hsub
   | true =>
    simp only [hk1,hfm,hpi,cond_true] at hsub
    obtain ⟨hs1,hs2⟩:=hsub
    obtain ⟨μ',k1,k2,k3,k4,k5,k6,k7,k8,k9⟩:=xP 0 hh hk1 hfm hs2 (fun _ _ _ h=>by omega) (Nat.zero_le _)
    let C':Ctx:=bT w T (Ufresh S.fresh U) μ S.nx0
    have hF:(aC C μ1 st.hp w').Freed ⟨prs,false,match S.fresh with|true=>false|false=>true,false⟩ st.hp (aC C' μ' (S.h1 x y) w'):=by
     refine ⟨?_,k2,k3,rfl,?_⟩
     ·intro hlo
      have hfr:S.fresh=false:=by
       cases e:S.fresh with
       | true=>rw [e] at hlo; cases hlo
       | false=>rfl
      refine ⟨?_,fun _ _=>rfl⟩
      intro b hb
      refine ⟨hb.1,?_,?_,hb.2.2.2⟩
      ·rcases hb.2.1 with h1|h1|h1
       ·exact .inl ⟨hfr,h1⟩
       ·exact .inr (.inl h1)
       ·exact .inr (.inr h1)
      ·intro i o' c' hg hm
       obtain ⟨m,o,_,ho,e,_⟩:=k1 i o' hg
       rw [e] at hm
       exact hb.2.2.1 m o c' ho hm
     ·intro id o b c hg hm hkp
      have hm':μ1 id=some (b,c):=hm
      refine ⟨hh.lt hg hm',?_,?_,hh.obj.plain hg hm'⟩
      ·rcases hh.mine id o b c hg hm' with h1|h1
       ·exact .inr (.inl h1)
       ·exact .inr (.inr h1)
      ·intro i o' c2 hg' hm2
       obtain ⟨m,oi,hp1,ho,e,_⟩:=k1 i o' hg'
       rw [e] at hm2
       have:=hh.inj _ _ _ _ _ _ _ hg ho hm' hm2
       subst this
       exact k8 _ _ _ hg (by simpa [kept,Keep.keep] using hkp) hp1
    have hsb:∀ s t vs,sub ⟨prs,false,match S.fresh with|true=>false|false=>true,false⟩ st.hp 200 s t->R (aC C μ1 st.hp w') s vs->R (aC C' μ' (S.h1 x y) w') t vs:=fun s t vs=>fU hF hh.obj 200 s t vs
    refine ⟨y,μ',hpost,?_,hsb _ _ _ hs1 hR1⟩
    refine ⟨⟨fun id o hg=>(k6 id o hg).2,?_⟩,?_,?_,fun id o hg=>(k6 id o hg).1,k4,k5,Jo (C:=C) hpin hk1 (tC hpi) hh.pin k2 k3 k9,hh.frm⟩
    ·intro i o' hg
     obtain ⟨m,o,_,ho,e,hso⟩:=k1 i o' hg
     obtain ⟨b,cp,z,e1,e2,e3⟩:=hh.obj.obj m o ho
     exact ⟨b,cp,z,e.trans e1,e2,qE hF.le hsb (fun e=>by cases e) hso e3⟩
    ·intro i i' o1 o2 b c1 c2 g1 g2 m1 m2
     obtain ⟨d1,p1,q1,ho1,e1,_⟩:=k1 i o1 g1
     obtain ⟨d2,p2,q2,ho2,e2,_⟩:=k1 i' o2 g2
     rw [e1] at m1
     rw [e2] at m2
     have:=hh.inj _ _ _ _ _ _ _ ho1 ho2 m1 m2
     subst this
     exact k7 _ _ _ q1 q2
    ·intro i o' b c hg hm
     obtain ⟨d,o,_,ho,e,_⟩:=k1 i o' hg
     rw [e] at hm
     exact hh.mine _ _ _ _ ho hm
theorem aA.nil:aA P []:=fun f S h=>by cases h
theorem aA.p {f:Nat} {S:Spec} {r:List (Nat×cL)} (h:S.Ok P f) (hr:aA P r):aA P ((f,.p S)::r):=by
 intro g T e
 rw [get?_cons] at e
 split at e
 ·rename_i hh; cases e; subst hh; exact h
 ·exact hr g T e
theorem aA.o {f:Nat} {r:List (Nat×cL)} (hr:aA P r):aA P ((f,.own)::r):=by
 intro g T e
 rw [get?_cons] at e
 split at e
 ·rename_i hh; cases e; trivial
 ·exact hr g T e
theorem aA.m {f:Nat} {S:bZ} {r:List (Nat×cL)} (h:S.Ok P f) (hr:aA P r):aA P ((f,.m S)::r):=by
 intro g T e
 rw [get?_cons] at e
 split at e
 ·rename_i hh; cases e; subst hh; exact h
 ·exact hr g T e
end
end Go.Eng
end
section
open Go Go.Eng Go.Proofs
set_option maxRecDepth 100000
namespace L1
theorem Jb {a:Bool} (h:a=false) (h2:a=true):False:=by rw [h] at h2; cases h2
def gC (s:List UInt8) (c:Int) (f:Nat->Int) (j:Nat):Int:=bif s.any (fun b=>Nat.beq b.toNat j) then c else f j
def g129:List Nat:=[11,0,1,4]
def c129:aH :=
 .seq (.region g129 [(zo 4 (.move (cj 0)))]) (.seq (.seq (.region g129 [(mv 5 1),(mv 6 0),(zo 7 (.nilCheck (.s 6))),(fa 8 0 7),(ld 9 8),(zo 10 (.lenStr (.s 9))),(zo 11 (.bin (.geq) (.s 5) (.s 10)))]) (.cond (.s 11) (.seq (.region g129 [(zo 4 (.move (cj 0)))]) .ret) .skip)) (.seq (.drawn g129 (.pure 0 (mv 12 0) (.pure 1 (mv 13 0) (.pure 2 (zo 14 (.nilCheck (.s 13))) (.pure 3 (fa 15 0 14) (.pure 4 (ld 16 15) (.pure 5 (mv 17 1) (.pure 6 (zo 18 (.idxStr (.s 16) (.s 17))) (.pure 7 (zo 19 (.nilCheck (.s 12))) (.pure 8 (fa 20 1 19) (.pure 9 (zo 21 (.idxArr 256 1 (.s 20) (.s 18))) (.pure 10 (ld 22 21) (.pure 11 (mv 4 22) .done))))))))))))) .ret))
theorem e129:aI Tryz.prog 129 g129 [] [] []=some (c129,[.slot 4],23):=by kernel_rfl
def AtX:=List UInt8×(Nat->Int)×Int
def atV (t:List UInt8) (f:Nat->Int) (i:Int):Int:=bif decide (i>=(t.length:Int)) then 0 else f (t.getD i.toNat 0).toNat
def atS:Eng.Spec where
 X:=AtX
 args:=fun x=>.cons (.cptr (.cons (.str x.1) (.ints .i64 256 x.2.1 .nil))) (.cons (.int .i64 x.2.2) .nil)
 pre:=fun x=>0<=x.2.2
 res:=fun x=>.int .i64 (atV x.1 x.2.1 x.2.2)
 inst:=fun s=>match s with
  | .cons (.cptr (.cons (.str t) (.ints _ _ f _))) (.cons (.int _ i) _)=>some (t,f,i)
  | _=>none
theorem Hb:atS.Ok Tryz.prog 129:=by
 refine Eng.Spec.cY e129 .nil (fun _=>[]) (fun _ _=>aA.nil) ?_
 rintro ⟨t,f,i⟩ (h0:0<=i)
 refine ⟨trivial,?_⟩
 repeat' (first|apply And.intro|exact trivial|exact rfl)
 ·refine fun (hg:decide ((t.length:Int)<=i)=true)=>?_
  have e:0=atV t f i:=by
   unfold atV
   rw [show decide (i>=(t.length:Int))=true from hg]; rfl
  repeat' (first|apply And.intro|exact trivial|exact rfl|exact e)
 ·refine fun (hg:decide ((t.length:Int)<=i)=false)=>?_
  have h1:i < (t.length:Int):=Int.not_le.1 (of_decide_eq_false hg)
  have h2:(0:Int)<=((t.getD i.toNat 0).toNat:Int):=by omega
  have h3:((t.getD i.toNat 0).toNat:Int) < 256:=by have:=(t.getD i.toNat 0).toNat_lt; omega
  have e:f ((t.getD i.toNat 0).toNat:Int).toNat=atV t f i:=by
   unfold atV
   rw [show decide (i>=(t.length:Int))=false from hg]; rfl
  repeat' (first|apply And.intro|exact trivial|exact rfl|exact h0|exact h1|exact h2|exact h3|exact e)
def g127:List Nat:=[9,0,1,2,5]
def c127:aH :=
 .seq (.region g127 [(zo 5 (.move (cj 0)))]) (.block 0 (.loop 0 [6,7,8,9,12,13,14,15,16,10,11,5] (.seq (.seq (.region g127 [(mv 6 5),(mv 7 0),(zo 8 (.lenStr (.s 7))),(zo 9 (.bin (.lss) (.s 6) (.s 8)))]) (.cond (.s 9) .skip (.exit 0))) (.seq (.block 1 (.region g127 [(mv 12 0),(mv 13 5),(zo 14 (.idxStr (.s 12) (.s 13))),(mv 15 1),(zo 16 (.idxArr 256 1 (.s 2) (.s 14))),⟨none,none,.store 1 (.s 16) (.s 15),[]⟩])) (.region g127 [(mv 10 5),(zo 11 (.bin (.add) (.s 10) (cj 1))),(mv 5 11)])))))
theorem e127:aI Tryz.prog 127 g127 [] [] []=some (c127,[],17):=by kernel_rfl
theorem J3 {c:Int} {f:Nat->Int} {i:Nat} {s:List UInt8}:f i=gC (s.take 0) c f i:=by simp [gC]
theorem J4 {s:List UInt8} {c:Int} {f:Nat->Int} {k:Nat} (h:k < s.length) (i:Nat):(bif Nat.beq i (((s.getD (k:Int).toNat 0).toNat:Int).toNat+0) then c else gC (s.take k) c f i)=gC (s.take (k+1)) c f i:=by
 unfold gC
 rw [List.take_succ_eq_append_getElem h,List.any_append]
 simp only [Int.toNat_natCast,Nat.add_zero,List.getD_eq_getElem?_getD,List.getElem?_eq_getElem h,Option.getD_some,List.any_cons,List.any_nil,Bool.or_false]
 by_cases e:i=s[k].toNat
 ·subst e
  rw [Nat.beq_refl]
  simp
 ·have h1:Nat.beq i s[k].toNat=false:=by
   cases hb:Nat.beq i s[k].toNat with
   | false=>rfl
   | true=>exact absurd (nbeq hb) e
  have h2:Nat.beq s[k].toNat i=false:=by
   cases hb:Nat.beq s[k].toNat i with
   | false=>rfl
   | true=>exact absurd (nbeq hb).symm e
  rw [h1,h2]
  simp
def J2:Eng.bZ where
 X:=List UInt8×Int×(Nat->Int)
 Y:=Nat->Int
 args:=fun x=>.cons (.str x.1) (.cons (.int .i64 x.2.1) (.cons (.own 0 0) .nil))
 pre:=fun x=>x.1.length<=1000
 h0:=fun x=>[(0,.cells 134 (.ints .i64 256 x.2.2 .nil))]
 nx0:=1
 post:=fun x y=>y=gC x.1 x.2.1 x.2.2
 res:=fun _ _=>.tup .nil
 h1:=fun _ y=>[(0,.cells 134 (.ints .i64 256 y .nil))]
 nx1:=1
theorem Cv:J2.Ok Tryz.prog 127:=by
 refine Eng.bZ.cY e127 .nil (fun _=>[]) (fun _ _=>aA.nil) ?_
 rintro ⟨s,c,f⟩ (hs:s.length<=1000)
 refine ⟨trivial,?_⟩
 repeat' (first|apply And.intro|exact trivial|exact rfl)
 refine ⟨⟨Nat,fun k=>k<=s.length,fun k=>[(5,.int .i64 (k:Int))],fun k=>[(0,.cells 134 (.ints .i64 256 (gC (s.take k) c f) .nil))],fun k=>s.length - k⟩,0,Nat.zero_le _,?_,?_⟩
 ·repeat' (first|apply And.intro|exact trivial|exact rfl|exact fun (i:Nat) (_:i < 256)=>J3)
 rintro (k:Nat) (hk:k<=s.length)
 repeat' (first|apply And.intro|exact trivial|exact rfl)
 ·refine fun (hg:decide ((k:Int) < (s.length:Int))=true)=>?_
  have h1:(k:Int) < (s.length:Int):=of_decide_eq_true hg
  have h0:(0:Int)<=(k:Int):=by omega
  have h2:(0:Int)<=((s.getD (k:Int).toNat 0).toNat:Int):=by omega
  have h3:((s.getD (k:Int).toNat 0).toNat:Int) < 256:=by have:=(s.getD (k:Int).toNat 0).toNat_lt; omega
  have h4:((s.getD (k:Int).toNat 0).toNat:Int).toNat < 256 - 0:=by omega
  have b1:-9223372036854775808<=(k:Int)+1:=by omega
  have b2:(k:Int)+1<=9223372036854775807:=by omega
  have hkl:k < s.length:=by omega
  repeat' (first|apply And.intro|exact trivial|exact rfl)
  ·exact h0
  ·exact h1
  ·exact h2
  ·exact h3
  ·exact h4
  ·exact b1
  ·exact b2
  refine Exists.intro (k+1) ?_
  repeat' (first|apply And.intro|exact trivial|exact rfl)
  ·show k+1<=s.length
   exact hkl
  ·exact fun (i:Nat) (_:i < 256)=>J4 hkl i
  ·show s.length - (k+1) < s.length - k
   omega
 ·refine fun (hg:decide ((k:Int) < (s.length:Int))=false)=>?_
  have h1:¬ (k:Int) < (s.length:Int):=of_decide_eq_false hg
  have hkl:k=s.length:=by omega
  subst hkl
  repeat' (first|apply And.intro|exact trivial|exact rfl|(refine Exists.intro (gC s c f) ?_))
  exact fun (i:Nat) (_:i < 256)=>by rw [List.take_length]
end L1
end
section
open Go Go.Eng Go.Proofs L1
set_option maxRecDepth 100000
namespace L2
def f0:Nat->Int:=fun _=>0
def t1:List UInt8:=[97,98,99,100,101,102,103,104,105,106,107,108,109,110,111,112,113,114,115,116,117,118,119,120,121,122,65,66,67,68,69,70,71,72,73,74,75,76,77,78,79,80,81,82,83,84,85,86,87,88,89,90]
def f1:Nat->Int:=gC t1 3 f0
def t2:List UInt8:=[48,49,50,51,52,53,54,55,56,57]
def f2:Nat->Int:=gC t2 4 f1
def t3:List UInt8:=[95]
def f3:Nat->Int:=gC t3 5 f2
def t4:List UInt8:=[32,9,10]
def f4:Nat->Int:=gC t4 1 f3
def t5:List UInt8:=[35]
def f5:Nat->Int:=gC t5 2 f4
def t6:List UInt8:=[34]
def f6:Nat->Int:=gC t6 6 f5
def t7:List UInt8:=[33]
def f7:Nat->Int:=gC t7 7 f6
def t8:List UInt8:=[60,62]
def f8:Nat->Int:=gC t8 8 f7
def t9:List UInt8:=[59,44,46,58,40,41,91,93,123,125,61,43,45]
def f9:Nat->Int:=gC t9 9 f8
abbrev cls:=f9
def g91:List Nat:=[2,1,0]
def c91:aH :=
 .seq (.region g91 [(zo 0 (.alloc 134 (.zeros .i64 256 .nil)))]) (.seq (.region g91 [(zo 1 (.alloc 134 (.zeros .i64 256 .nil)))]) (.seq (.region g91 [(zo 3 (.mkfn 127 [.s 1])),(mv 2 3)]) (.seq (.region g91 [(mv 4 2),(zo 5 (.call (.s 4) [.c (.str [97,98,99,100,101,102,103,104,105,106,107,108,109,110,111,112,113,114,115,116,117,118,119,120,121,122,65,66,67,68,69,70,71,72,73,74,75,76,77,78,79,80,81,82,83,84,85,86,87,88,89,90]),cj 3]))]) (.seq (.region g91 [(mv 6 2),(zo 7 (.call (.s 6) [.c (.str [48,49,50,51,52,53,54,55,56,57]),cj 4]))]) (.seq (.region g91 [(mv 8 2),(zo 9 (.call (.s 8) [.c (.str [95]),cj 5]))]) (.seq (.region g91 [(mv 10 2),(zo 11 (.call (.s 10) [.c (.str [32,9,10]),cj 1]))]) (.seq (.region g91 [(mv 12 2),(zo 13 (.call (.s 12) [.c (.str [35]),cj 2]))]) (.seq (.region g91 [(mv 14 2),(zo 15 (.call (.s 14) [.c (.str [34]),cj 6]))]) (.seq (.region g91 [(mv 16 2),(zo 17 (.call (.s 16) [.c (.str [33]),cj 7]))]) (.seq (.region g91 [(mv 18 2),(zo 19 (.call (.s 18) [.c (.str [60,62]),cj 8]))]) (.seq (.region g91 [(mv 20 2),(zo 21 (.call (.s 20) [.c (.str [59,44,46,58,40,41,91,93,123,125,61,43,45]),cj 9]))]) (.seq (.region g91 [(zo 22 (.load 256 true (.s 1))),⟨none,none,.store 256 (.s 0) (.s 22),[]⟩]) .ret))))))))))))
theorem e91:aI Tryz.prog 91 g91 [] [] []=some (c91,[.cell 0 256 true],23):=by kernel_rfl
def Tx:Eng.Spec where
 X:=Unit
 args:=fun _=>.nil
 pre:=fun _=>True
 res:=fun _=>.agg (.ints .i64 256 cls .nil)
 inst:=fun _=>some ()
theorem Pu:Tx.Ok Tryz.prog 91:=by
 refine Eng.Spec.cY e91 .nil (fun _=>[(127,.m J2)]) (fun _ _=>aA.m Cv aA.nil) ?_
 rintro ⟨⟩ _
 refine ⟨trivial,?_⟩
 refine Exists.intro (t1,3,f0) (Exists.intro [1] ?_)
 repeat' (first|apply And.intro|exact trivial|exact rfl|exact (by decide:t1.length<=1000)|exact fun (i:Nat) (_:i < 256)=>rfl)
 refine fun (y1:Nat->Int) (hy1:y1=gC t1 3 f0)=>?_
 repeat' (first|apply And.intro|exact trivial|exact rfl)
 refine Exists.intro (t2,4,y1) (Exists.intro [1] ?_)
 repeat' (first|apply And.intro|exact trivial|exact rfl|exact (by decide:t2.length<=1000)|exact fun (i:Nat) (_:i < 256)=>rfl)
 refine fun (y2:Nat->Int) (hy2:y2=gC t2 4 y1)=>?_
 repeat' (first|apply And.intro|exact trivial|exact rfl)
 refine Exists.intro (t3,5,y2) (Exists.intro [1] ?_)
 repeat' (first|apply And.intro|exact trivial|exact rfl|exact (by decide:t3.length<=1000)|exact fun (i:Nat) (_:i < 256)=>rfl)
 refine fun (y3:Nat->Int) (hy3:y3=gC t3 5 y2)=>?_
 repeat' (first|apply And.intro|exact trivial|exact rfl)
 refine Exists.intro (t4,1,y3) (Exists.intro [1] ?_)
 repeat' (first|apply And.intro|exact trivial|exact rfl|exact (by decide:t4.length<=1000)|exact fun (i:Nat) (_:i < 256)=>rfl)
 refine fun (y4:Nat->Int) (hy4:y4=gC t4 1 y3)=>?_
 repeat' (first|apply And.intro|exact trivial|exact rfl)
 refine Exists.intro (t5,2,y4) (Exists.intro [1] ?_)
 repeat' (first|apply And.intro|exact trivial|exact rfl|exact (by decide:t5.length<=1000)|exact fun (i:Nat) (_:i < 256)=>rfl)
 refine fun (y5:Nat->Int) (hy5:y5=gC t5 2 y4)=>?_
 repeat' (first|apply And.intro|exact trivial|exact rfl)
 refine Exists.intro (t6,6,y5) (Exists.intro [1] ?_)
 repeat' (first|apply And.intro|exact trivial|exact rfl|exact (by decide:t6.length<=1000)|exact fun (i:Nat) (_:i < 256)=>rfl)
 refine fun (y6:Nat->Int) (hy6:y6=gC t6 6 y5)=>?_
 repeat' (first|apply And.intro|exact trivial|exact rfl)
 refine Exists.intro (t7,7,y6) (Exists.intro [1] ?_)
 repeat' (first|apply And.intro|exact trivial|exact rfl|exact (by decide:t7.length<=1000)|exact fun (i:Nat) (_:i < 256)=>rfl)
 refine fun (y7:Nat->Int) (hy7:y7=gC t7 7 y6)=>?_
 repeat' (first|apply And.intro|exact trivial|exact rfl)
 refine Exists.intro (t8,8,y7) (Exists.intro [1] ?_)
 repeat' (first|apply And.intro|exact trivial|exact rfl|exact (by decide:t8.length<=1000)|exact fun (i:Nat) (_:i < 256)=>rfl)
 refine fun (y8:Nat->Int) (hy8:y8=gC t8 8 y7)=>?_
 repeat' (first|apply And.intro|exact trivial|exact rfl)
 refine Exists.intro (t9,9,y8) (Exists.intro [1] ?_)
 repeat' (first|apply And.intro|exact trivial|exact rfl|exact (by decide:t9.length<=1000)|exact fun (i:Nat) (_:i < 256)=>rfl)
 refine fun (y9:Nat->Int) (hy9:y9=gC t9 9 y8)=>?_
 repeat' (first|apply And.intro|exact trivial|exact rfl)
 have e:y9=cls:=by rw [hy9,hy8,hy7,hy6,hy5,hy4,hy3,hy2,hy1]; rfl
 exact fun (i:Nat) (_:i < 256)=>congrFun e i
end L2
end
section
open Go Go.Eng Go.Proofs
set_option maxRecDepth 100000
namespace L3
def tT (f:Nat->Int) (v:Int) (n:Nat):Int:=match (List.range n).find? (fun i=>decide (v=f i)) with
 | some i=>i
 | none=>-1
theorem Qc {f:Nat->Int} {v:Int} {n k:Nat} (hk:k < n) (he:v=f k) (h:∀ j,j < k->v≠f j):tT f v n=k:=by
 unfold tT
 rw [List.find?_range_eq_some.2 ⟨by simpa using he,by simpa using hk,fun j hj=>by simpa using h j hj⟩]
theorem Qd {f:Nat->Int} {v:Int} {n:Nat} (h:∀ j,j < n->v≠f j):tT f v n=-1:=by
 unfold tT
 rw [List.find?_eq_none.2 fun j hj=>by simpa using h j (by simpa using hj)]
theorem Mc {f:Nat->Int} {v:Int} {n:Nat}:decide (tT f v n>=0)=decide (∃ i,i < n/\f i=v):=by
 rw [Bool.eq_iff_iff,decide_eq_true_iff,decide_eq_true_iff]
 unfold tT
 split
 ·rename_i i hi
  have:=List.find?_range_eq_some.1 hi
  exact ⟨fun _=>⟨i,by simpa using this.2.1,by simpa using (of_decide_eq_true this.1).symm⟩,fun _=>Int.natCast_nonneg i⟩
 ·rename_i hi
  have:=List.find?_eq_none.1 hi
  constructor
  ·intro h; exact absurd h (by decide)
  ·rintro ⟨i,h1,h2⟩
   exact absurd (this i (by simpa using h1)) (by simp [h2])
def sP:SV->Option (Nat×(Nat->Int))
 | .slice _ n enc=>some (n,fun i=>match enc i with
  | .cons (.int _ x) _=>x
  | _=>0)
 | .slit _ els=>some (els.len,fun i=>match aJ els i with
  | .cons (.int _ x) _=>x
  | _=>0)
 | .nilsl=>some (0,fun _=>0)
 | _=>none
theorem sub_one (k:Keep) (hp:List (Nat×aG)) (m:Nat) (q:IntKind) (x:Int):sub k hp (m+3) (.cons (.int q x) .nil) (.cons (.int q x) .nil):=⟨⟨rfl,rfl⟩,trivial⟩
def g62:List Nat:=[7,9,1,0,16,5,8,4]
def c62:aH :=
 .seq (.region g62 [(zo 4 (.move (cj 0)))]) (.seq (.seq (.region g62 [(mv 6 0),(zo 7 (.lenSl (.s 6))),(zo 8 (.move (cj 0)))]) (.block 0 (.loop 0 [9,10,5,11,12,13,14,15,16,17,4,18,8] (.seq (.region g62 [(zo 9 (.bin (.lss) (.s 8) (.s 7)))]) (.seq (.cond (.s 9) .skip (.exit 0)) (.seq (.block 1 (.seq (.region g62 [(mv 10 8),(mv 5 10)]) (.seq (.region g62 [(mv 11 1),(mv 12 0),(mv 13 5),(zo 14 (.idxSl 1 (.s 12) (.s 13))),(ld 15 14),(zo 16 (.bin (.eql) (.s 11) (.s 15)))]) (.cond (.s 16) (.seq (.region g62 [(mv 17 5),(mv 4 17)]) .ret) .skip)))) (.region g62 [(zo 18 (.bin (.add) (.s 8) (cj 1))),(mv 8 18)]))))))) (.seq (.region g62 [(zo 4 (.move (cj (-1))))]) .ret))
theorem e62:aI Tryz.prog 62 g62 [] [] []=some (c62,[.slot 4],19):=by kernel_rfl
def Qs:Eng.Spec where
 X:=Nat×(Nat->Int)×Int
 args:=fun x=>.cons (.slice 1 x.1 fun i=>.cons (.int .i64 (x.2.1 i)) .nil) (.cons (.int .i64 x.2.2) .nil)
 pre:=fun x=>x.1<=1000000
 res:=fun x=>.int .i64 (tT x.2.1 x.2.2 x.1)
 inst:=fun s=>match s with
  | .cons l (.cons (.int _ v) _)=>match sP l with
   | some (n,f)=>some (n,f,v)
   | none=>none
  | _=>none
theorem Qt:Qs.Ok Tryz.prog 62:=by
 refine Eng.Spec.cY e62 .nil (fun _=>[]) (fun _ _=>aA.nil) ?_
 rintro ⟨n,f,v⟩ (hn:n<=1000000)
 refine ⟨trivial,?_⟩
 repeat' (first|apply And.intro|exact trivial|exact rfl)
 refine ⟨⟨Nat,fun k=>k<=n/\∀ j,j < k->v≠f j,fun k=>[(8,.int .i64 (k:Int))],fun _=>[],fun k=>n - k⟩,0,⟨Nat.zero_le _,fun j hj=>absurd hj (Nat.not_lt_zero j)⟩,?_,?_⟩
 ·repeat' (first|apply And.intro|exact trivial|exact rfl|exact fun (j:Nat) (hj:j < _)=>Or.inl (sub_one _ _ _ _ _))
 rintro (k:Nat) ⟨(hk:k<=n),(hf:∀ j,j < k->v≠f j)⟩
 repeat' (first|apply And.intro|exact trivial|exact rfl)
 ·refine fun (hg:decide ((k:Int) < (n:Int))=true)=>?_
  have h1:(k:Int) < (n:Int):=of_decide_eq_true hg
  have h0:(0:Int)<=(k:Int):=by omega
  have b1:-9223372036854775808<=(k:Int)+1:=by omega
  have b2:(k:Int)+1<=9223372036854775807:=by omega
  have hkl:k < n:=by omega
  repeat' (first|apply And.intro|exact trivial|exact rfl)
  ·exact h0
  ·exact h1
  ·refine fun (hv:decide (v=f (k:Int).toNat)=true)=>?_
   have e:(k:Int)=tT f v n:=(Qc hkl (of_decide_eq_true hv) hf).symm
   repeat' (first|apply And.intro|exact trivial|exact rfl|exact e)
  ·refine fun (hv:decide (v=f (k:Int).toNat)=false)=>?_
   have hne:v≠f k:=of_decide_eq_false hv
   repeat' (first|apply And.intro|exact trivial|exact rfl)
   ·exact b1
   ·exact b2
   refine Exists.intro (k+1) ?_
   repeat' (first|apply And.intro|exact trivial|exact rfl)
   ·exact hkl
   ·refine fun j hj=>?_
    by_cases e:j=k
    ·rw [e]; exact hne
    ·exact hf j (by omega)
   ·exact fun (j:Nat) (hj:j < _)=>Or.inl (sub_one _ _ _ _ _)
   ·show n - (k+1) < n - k
    omega
 ·refine fun (hg:decide ((k:Int) < (n:Int))=false)=>?_
  have h1:¬ (k:Int) < (n:Int):=of_decide_eq_false hg
  have hkl:k=n:=by omega
  subst hkl
  have e:-1=tT f v k:=(Qd hf).symm
  repeat' (first|apply And.intro|exact trivial|exact rfl|exact e)
def g40:List Nat:=[0,1,4]
def c40:aH :=
 .seq (.region g40 [(zo 4 (.move cF))]) (.seq (.region g40 [(mv 5 0),(mv 6 1),(zo 7 (.call (.c (.fn 62)) [.s 5,.s 6])),(zo 8 (.bin (.geq) (.s 7) (cj 0))),(mv 4 8)]) .ret)
theorem e40:aI Tryz.prog 40 g40 [] [] []=some (c40,[.slot 4],9):=by kernel_rfl
def Ls:Eng.Spec where
 X:=Nat×(Nat->Int)×Int
 args:=fun x=>.cons (.slice 1 x.1 fun i=>.cons (.int .i64 (x.2.1 i)) .nil) (.cons (.int .i64 x.2.2) .nil)
 pre:=fun x=>x.1<=1000000
 res:=fun x=>.bool (decide (∃ i,i < x.1/\x.2.1 i=x.2.2))
 inst:=Qs.inst
theorem Bd:Ls.Ok Tryz.prog 40:=by
 refine Eng.Spec.cY e40 .nil (fun _=>[(62,.p Qs)]) (fun _ _=>aA.p Qt aA.nil) ?_
 rintro ⟨n,f,v⟩ (hn:n<=1000000)
 refine ⟨trivial,?_⟩
 have e:decide (tT f v n>=0)=decide (∃ i,i < n/\f i=v):=Mc
 repeat' (first|apply And.intro|exact trivial|exact rfl|exact fun (j:Nat) (hj:j < _)=>Or.inl (sub_one _ _ _ _ _)|exact hn|exact e)
end L3
end
section
open Go Go.Eng Go.Proofs L1 L2 L3
set_option maxRecDepth 100000
namespace L4
def lZ (f:Nat->Int) (n:Nat) (cs:Nat->Int) (b:UInt8):Bool:=decide (∃ i,i < n/\cs i=f b.toNat)
structure WX where
 t:List UInt8
 f:Nat->Int
 i:Int
 n:Nat
 cs:Nat->Int
def whl (x:WX):Nat:=((x.t.drop x.i.toNat).takeWhile (lZ x.f x.n x.cs)).length
theorem tw {p:UInt8->Bool}:∀ (l:List UInt8) (k:Nat),k<=(l.takeWhile p).length->(k < (l.takeWhile p).length ↔ ∃ b,l[k]?=some b/\p b=true):=by
 intro l
 induction l with
 | nil=>intro k _; simp
 | cons a l ih =>
  intro k hk
  cases hp:p a with
  | false =>
   rw [List.takeWhile_cons_of_neg (by simp [hp])] at hk ⊢
   have:k=0:=by simpa using hk
   subst this
   simp [hp]
  | true =>
   rw [List.takeWhile_cons_of_pos hp] at hk ⊢
   cases k with
   | zero=>simp [hp]
   | succ k =>
    have:=ih k (by simpa using hk)
    simpa using this
theorem qG {x:WX}:whl x<=x.t.length - x.i.toNat:=by
 unfold whl
 have:=(List.takeWhile_prefix (lZ x.f x.n x.cs) (l:=x.t.drop x.i.toNat)).length_le
 simpa using this
theorem tP {t:List UInt8} {f:Nat->Int} {i:Int} {n:Nat} {cs:Nat->Int} {k:Nat} (h0:0<=i) (hk:k<=whl ⟨t,f,i,n,cs⟩) :
  aE (decide (i+(k:Int) < (t.length:Int))) (.s 19) cF (decide (∃ j,j < n/\cs j=atV t f (i+(k:Int)))) false=decide (k < whl ⟨t,f,i,n,cs⟩):=by
 show (decide (i+(k:Int) < (t.length:Int)) && decide (∃ j,j < n/\cs j=atV t f (i+(k:Int))))=_
 rw [Bool.eq_iff_iff,Bool.and_eq_true,decide_eq_true_iff,decide_eq_true_iff,decide_eq_true_iff]
 unfold whl at hk ⊢
 rw [tw _ _ hk]
 dsimp only
 rw [List.getElem?_drop]
 have e:(i+(k:Int)).toNat=i.toNat+k:=by omega
 constructor
 ·rintro ⟨h1,h2⟩
  have h3:i.toNat+k < t.length:=by omega
  refine ⟨t[i.toNat+k],List.getElem?_eq_getElem h3,?_⟩
  unfold lZ
  unfold atV at h2
  rw [show decide (i+(k:Int)>=(t.length:Int))=false from decide_eq_false (by omega),cond_false,e,List.getD_eq_getElem?_getD,List.getElem?_eq_getElem h3] at h2
  exact decide_eq_true h2
 ·rintro ⟨b,h1,h2⟩
  obtain ⟨h3,rfl⟩:=List.getElem?_eq_some_iff.1 h1
  refine ⟨by omega,?_⟩
  unfold lZ at h2
  unfold atV
  rw [show decide (i+(k:Int)>=(t.length:Int))=false from decide_eq_false (by omega),cond_false,e,List.getD_eq_getElem?_getD,List.getElem?_eq_getElem h3]
  exact of_decide_eq_true h2
def g128:List Nat:=[2,0,20,1,6]
def c128:aH :=
 .seq (.region g128 [(zo 6 (.move (cj 0)))]) (.seq (.block 0 (.loop 0 [7,8,9,10,11,12,13,14,15,16,17,18,19,20,21,22,1] (.seq (.seq (.region g128 [(mv 7 1),(mv 8 0),(zo 9 (.nilCheck (.s 8))),(fa 10 0 9),(ld 11 10),(zo 12 (.lenStr (.s 11))),(zo 13 (.bin (.lss) (.s 7) (.s 12))),(mv 14 13),(mg 15 14 true 2),(mg 16 14 true 0),(mg 17 14 true 1),(zg 18 14 true (.call (.c (.fn 129)) [.s 16,.s 17])),(zg 19 14 true (.call (.c (.fn 40)) [.s 15,.s 18])),(zo 20 (.pick (.s 14) (.s 19) cF))]) (.cond (.s 20) .skip (.exit 0))) (.block 1 (.region g128 [(mv 21 1),(zo 22 (.bin (.add) (.s 21) (cj 1))),(mv 1 22)]))))) (.seq (.region g128 [(mv 23 1),(mv 6 23)]) .ret))
theorem e128:aI Tryz.prog 128 g128 [] [] []=some (c128,[.slot 6],24):=by kernel_rfl
def Tn:Eng.Spec where
 X:=WX
 args:=fun x=>.cons (.cptr (.cons (.str x.t) (.ints .i64 256 x.f .nil))) (.cons (.int .i64 x.i) (.cons (.slice 1 x.n fun i=>.cons (.int .i64 (x.cs i)) .nil) .nil))
 pre:=fun x=>0<=x.i/\x.i<=(x.t.length:Int)/\x.t.length<=1000000/\x.n<=1000000
 res:=fun x=>.int .i64 (x.i+(whl x:Nat))
 inst:=fun s=>match s with
  | .cons (.cptr (.cons (.str t) (.ints _ _ f _))) (.cons (.int _ i) (.cons l _))=>match sP l with
   | some (n,cs)=>some ⟨t,f,i,n,cs⟩
   | none=>none
  | _=>none
theorem K6:Tn.Ok Tryz.prog 128:=by
 refine Eng.Spec.cY e128 .nil (fun _=>[(129,.p atS),(40,.p Ls)]) (fun _ _=>aA.p Hb (aA.p Bd aA.nil)) ?_
 rintro ⟨t,f,i,n,cs⟩ ⟨(h0:0<=i),(h1:i<=(t.length:Int)),(h2:t.length<=1000000),(h3:n<=1000000)⟩
 refine ⟨trivial,?_⟩
 repeat' (first|apply And.intro|exact trivial|exact rfl|exact fun (j:Nat) (hj:j < _)=>Or.inl (sub_one _ _ _ _ _))
 refine ⟨⟨Nat,fun k=>k<=whl ⟨t,f,i,n,cs⟩,fun k=>[(1,.int .i64 (i+(k:Int)))],fun _=>[],fun k=>whl ⟨t,f,i,n,cs⟩ - k⟩,0,Nat.zero_le _,?_,?_⟩
 ·repeat' (first|apply And.intro|exact trivial|exact rfl|exact fun (j:Nat) (_:j < 256)=>rfl|exact fun (j:Nat) (hj:j < _)=>Or.inl (sub_one _ _ _ _ _)|exact (Int.add_zero i).symm)
 rintro (k:Nat) (hk:k<=whl ⟨t,f,i,n,cs⟩)
 have hik:0<=i+(k:Int):=by omega
 repeat' (first|apply And.intro|exact trivial|exact rfl|exact fun (j:Nat) (_:j < 256)=>rfl|exact fun (j:Nat) (hj:j < _)=>Or.inl (sub_one _ _ _ _ _)|exact hik|exact h3|refine fun (_:decide (i+(k:Int) < (t.length:Int))=true)=>?_)
 ·refine fun hg=>?_
  have hg:aE (decide (i+(k:Int) < (t.length:Int))) (.s 19) cF (decide (∃ j,j < n/\cs j=atV t f (i+(k:Int)))) false=true:=hg
  rw [tP h0 hk] at hg
  have hlt:=of_decide_eq_true hg
  have hle:=qG (x:=⟨t,f,i,n,cs⟩)
  have hle:whl ⟨t,f,i,n,cs⟩<=t.length - i.toNat:=hle
  have b1:-9223372036854775808<=i+(k:Int)+1:=by omega
  have b2:i+(k:Int)+1<=9223372036854775807:=by omega
  repeat' (first|apply And.intro|exact trivial|exact rfl|exact fun (j:Nat) (_:j < 256)=>rfl|exact fun (j:Nat) (hj:j < _)=>Or.inl (sub_one _ _ _ _ _))
  ·exact b1
  ·exact b2
  have e2:i+(k:Int)+1=i+((k+1:Nat):Int):=by omega
  refine Exists.intro (k+1) ?_
  repeat' (first|apply And.intro|exact trivial|exact rfl|exact fun (j:Nat) (_:j < 256)=>rfl|exact fun (j:Nat) (hj:j < _)=>Or.inl (sub_one _ _ _ _ _)|exact e2)
  ·exact hlt
  ·show whl ⟨t,f,i,n,cs⟩ - (k+1) < whl ⟨t,f,i,n,cs⟩ - k
   omega
 ·refine fun hg=>?_
  have hg:aE (decide (i+(k:Int) < (t.length:Int))) (.s 19) cF (decide (∃ j,j < n/\cs j=atV t f (i+(k:Int)))) false=false:=hg
  rw [tP h0 hk] at hg
  have hlt:=of_decide_eq_false hg
  have e:i+(k:Int)=i+(whl ⟨t,f,i,n,cs⟩:Nat):=by omega
  repeat' (first|apply And.intro|exact trivial|exact rfl|exact e)
end L4
end
section
namespace Go.Eng
open Go Go.RowKit Go.Proofs Go.Shelf
theorem mQ {P:Program} {f:Nat} {S:Spec} (hc:∀ args w,(callFunc f args).run P w=.ok (.enter f args) w)
  (h:∀ (x:S.X) (w:World) (vs:List Value) (U:Nat->Prop),GV w->S.pre x->R (eM U w) (S.args x) vs ->
   ∃ v,Calls P f vs.toArray w (fun e w'=>e=.returned v/\w'=w)/\∀ E,R E (S.res x) [v]):S.Ok P f:=by
 refine ⟨hc,?_⟩
 intro x w vs U hU hgv hp hR
 obtain ⟨v,h1,h2⟩:=h x w vs U hgv hp hR
 refine h1.mono ?_
 rintro e w' ⟨rfl,rfl⟩
 exact ⟨h2 _,Below.refl _ _⟩
def hM:Spec where
 X:=List UInt8×Int
 args:=fun x=>.cons (.str x.1) (.cons (.int .u8 x.2) .nil)
 pre:=fun _=>True
 res:=fun x=>.int .i64 (Lib.indexByte x.1 x.2.toNat.toUInt8)
 inst:=fun s=>match s with
  | .cons (.str t) (.cons (.int _ c) _)=>some (t,c)
  | _=>none
theorem wE {P:Program} {ρ:Ren} (L:Lays.n137 P ρ) (hc:∀ args w,(callFunc (ρ.f 137) args).run P w=.ok (.enter (ρ.f 137) args) w):hM.Ok P (ρ.f 137):=by
 refine mQ hc ?_
 rintro ⟨t,c⟩ w vs U _ _ hR
 simp only [hM,R] at hR
 obtain ⟨v1,r1,rfl,h1,v2,r2,rfl,h2,rfl⟩:=hR
 obtain rfl:=List.singleton_inj.1 h1
 obtain rfl:=List.singleton_inj.1 h2
 exact ⟨_,Any.strings_IndexByte L ⟨t.toArray⟩ c w,fun E=>by simp only [hM,R]⟩
def gZ:Spec where
 X:=List UInt8×List UInt8
 args:=fun x=>.cons (.str x.1) (.cons (.str x.2) .nil)
 pre:=fun _=>True
 res:=fun x=>.bool (Lib.hasPrefix x.1 x.2)
 inst:=fun s=>match s with
  | .cons (.str t) (.cons (.str c) _)=>some (t,c)
  | _=>none
theorem wD {P:Program} {ρ:Ren} (L:Lays.n99 P ρ) (hc:∀ args w,(callFunc (ρ.f 99) args).run P w=.ok (.enter (ρ.f 99) args) w):gZ.Ok P (ρ.f 99):=by
 refine mQ hc ?_
 rintro ⟨t,c⟩ w vs U _ _ hR
 simp only [gZ,R] at hR
 obtain ⟨v1,r1,rfl,h1,v2,r2,rfl,h2,rfl⟩:=hR
 obtain rfl:=List.singleton_inj.1 h1
 obtain rfl:=List.singleton_inj.1 h2
 exact ⟨_,Any.strings_HasPrefix L ⟨t.toArray⟩ ⟨c.toArray⟩ w,fun E=>by simp only [gZ,R]⟩
end Go.Eng
end
section
namespace Go.Proofs
open Go.Shelf
def Tryz.zC:Go.Shelf.Ren:=⟨fun|137=>130|217=>190|266=>228|n=>n,fun|9=>9|5=>5|3=>3|n=>n,fun n=>n⟩
theorem Tryz.lays137:Go.Proofs.Lays.n137 Tryz.prog Tryz.zC:={
 mixed:=by kernel_rfl
 f137:=Tryz.func130.trans (congrArg some (by kernel_rfl))
 f217:=Tryz.func190.trans (congrArg some (by kernel_rfl))
 f266:=Tryz.func228.trans (congrArg some (by kernel_rfl))
 t3:=Tryz.underlying3
 a3:=Tryz.isAgg3
 z3:=Tryz.sizeOf3
 v3:=Tryz.zeroValue3
 t5:=Tryz.underlying5
 a5:=Tryz.isAgg5
 z5:=Tryz.sizeOf5
 v5:=Tryz.zeroValue5
 t9:=Tryz.underlying9
 a9:=Tryz.isAgg9
 z9:=Tryz.sizeOf9
 v9:=Tryz.zeroValue9 }
def Tryz.Ca:Go.Shelf.Ren:=⟨fun|99=>133|206=>197|n=>n,fun|9=>9|4=>4|3=>3|n=>n,fun n=>n⟩
theorem Tryz.lays99:Go.Proofs.Lays.n99 Tryz.prog Tryz.Ca:={
 mixed:=by kernel_rfl
 f99:=Tryz.func133.trans (congrArg some (by kernel_rfl))
 f206:=Tryz.func197.trans (congrArg some (by kernel_rfl))
 t3:=Tryz.underlying3
 a3:=Tryz.isAgg3
 z3:=Tryz.sizeOf3
 v3:=Tryz.zeroValue3
 t4:=Tryz.underlying4
 a4:=Tryz.isAgg4
 z4:=Tryz.sizeOf4
 v4:=Tryz.zeroValue4
 t9:=Tryz.underlying9
 a9:=Tryz.isAgg9
 z9:=Tryz.sizeOf9
 v9:=Tryz.zeroValue9 }
end Go.Proofs
open Go Go.Eng Go.Proofs
namespace L5
theorem indexByte:hM.Ok Tryz.prog 130:=wE Tryz.lays137 (enters_of Tryz.lays137.f137 (by kernel_rfl) rfl)
theorem hasPrefix:gZ.Ok Tryz.prog 133:=wD Tryz.lays99 (enters_of Tryz.lays99.f99 (by kernel_rfl) rfl)
end L5
end
