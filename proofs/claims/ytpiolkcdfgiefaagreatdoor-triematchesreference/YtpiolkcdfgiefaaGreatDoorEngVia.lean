/- A part of the proof. -/
import Derived.Test.YtpiolkcdfgiefaaGreatDoorEngYr
import Derived.Test.YtpiolkcdfgiefaaGreatDoorProg
import Derived.KernelRfl
section
set_option maxHeartbeats 10000000
namespace Go.Eng
open Go Go.RowKit
variable {P:Program}
theorem results_none{fn:Func}{t:Array Value}{w:World}(h:fn.results.toList=[]):(results fn t).run P w=.ok (.tuple #[]) w:=by
 simp_all[Array.toList_eq_nil_iff,results]
theorem nQ{w:World}{fn:FuncId}{tmps:Array Value}{ps:Array Tmp}{assign body:Code}{l:Nat}{r:Loop}(h:w.heap[l]?=some (.loop r)) :
  (Instr.enterLoop fn tmps ps assign body (some l)).run P w =
   .ok (w.heap.size,[]) (w.alloc (.loop { state:=.ready,pending:=none,fn,tmps,params:=ps,assign,body,defers:=r.defers })):=by
 unfold Instr.enterLoop;simp_all[Sem.run_bind,run_getLoop,Result.andThen]
theorem Cx{C:Ctx}{μ:Nat->Option (Nat×Nat)}{hp:List (Nat×aL)}{nx n:Nat}{w:World}{args:SV}{vs:List Value}(hn:C.n=n)(hR:R (aG C μ hp w) args vs)(hok:nH args n)(hh:bD C μ hp nx w)
  (hle:C.R0.LeU (aG C μ hp w)) (hkd:Kd C.R0.w w) :
  cR C μ ⟨nN args 0,hp,nx⟩ { tmps:=vs.toArray++Array.replicate (n-vs.toArray.size) undef,defers:=[] } w:=by
 have hlen:=Io hok hR;refine⟨?_,rS.nil _ _,?_,hh,hle,hkd⟩
 .simp [*]
 .intro s;rcases Nu (t:=vs.toArray++Array.replicate (n-vs.toArray.size) undef) 0 hR s with h1|h1
  .simp only [aS,if_true,Nat.sub_zero]at h1;have:(vs.toArray++Array.replicate (n-vs.toArray.size) undef).getD s undef=vs.getD s undef:=by
    simp only[dK,aK,Array.getElem?_append,List.getElem?_toArray,gE]
    grind
   grind
  grind[mS]
theorem H4 {n i : Nat} {f : Operand} {f' : SX} {gid gn : Nat} {g : aY} {ps : Array Tmp} {a0 b0 : Code} {a' b' : aY} {fn : Func} {cg : Code} (hf : cX f = some f') (hfn : P.funcs[gid]? = some fn) (hname : (fn.name == "runtime.NumGoroutine") = false) (hbody : fn.body = some cg)
  (hgn:fn.ntmps=gn) (hres:fn.results.toList=[]) (hps:pY n ps.toList=true) (ihg:dM P gn cg g) (iha:dM P n a0 a') (ihb:dM P n b0 b') :
  dM P n (.rangeFunc f ps a0 b0) (.range i f' gid g gn ps.toList a' b'):=by
 intro C ro T st a w K Q hn hC hK hs he;obtain⟨⟨μ,h⟩,hlab⟩:=hs;obtain⟨fr,hp,nx⟩:=st;have hTd:T.dep=C.dep:=hC.tb.dep;have hx:=oW (E:=aG C μ hp w) (a:=a) (fr:=fr) (g:=none) (λ_ _ e=>by cases e) h.fr hf;simp only[evC]at he;split at he;rotate_left
 .exact he.elim
 rename_i kf caps hgx;rw[hgx]at hx;cases hk1:Nat.beq kf gid with
 |false=>grind
 |true =>
 cases hk3:Nat.blt kf FM with
 |false=>grind
 |true =>
 cases hk2:Nat.blt nx FB with
 |false=>grind
 |true =>
 have:=nbeq hk1;subst this;have hnx:nx<FB:=aQ (n:=nx+1) hk2;simp only[hk1,hk2,hk3,Bool.and_self,cond_true]at he;obtain⟨hok,he⟩:=he;simp only[R]at hx;obtain⟨cs,hv,hcs⟩:=hx;have hv':=aC.1 hv;unfold fnV at hv';rw[hk3]at hv';simp only[cond_true]at hv';refine wpIn_rangeFunc ?_;intro fn0 hfn0
 -- the record is laid
 obtain⟨wd,mark,dfr,hent,hbelow,hdf⟩:∃wd mark dfr,(Instr.enterLoop fn0 a.tmps ps a0 b0 (WF ro).round).run P w=.ok (wd.heap.size,mark) (wd.alloc (.loop { state:=.ready,pending:=none,fn:=fn0,tmps:=a.tmps,params:=ps,assign:=a0,body:=b0,defers:=dfr })) /\
   Below w.heap.size w wd/\rS C.R0.w wd (mark++a.defers):=by
  rw[Fu];cases ro with
  |none =>
   have hb:Below w.heap.size w (w.alloc (.deferred (some []))):=(Below.refl _ _).alloc (aN _) _;refine⟨w.alloc (.deferred (some [])),_,w.heap.size,by rw[run_enterLoop_outer,World.size_alloc],hb,?_⟩;have hd:=rY (Kd.jR hb) h.defers;refine⟨aT.2 ⟨?_,hd.1⟩,?_⟩
   .intro d hd' e;obtain⟨D,e1,_,e3⟩:=h.defers.2 d hd'
    grind
   .intro d hd';rcases aR.1 hd' with rfl|hd'
    .refine ⟨w.heap.size,rfl,?_,heap_alloc_new w _⟩;exact h.kd.size
    .exact hd.2 d hd'
  |some l =>
   obtain⟨r,hr⟩:=hC.ro l rfl;obtain⟨r',hr'⟩:=h.kd.loop l r hr;exact⟨w,[],r'.defers,nQ hr',Below.refl _ _,by simpa using h.defers⟩
 obtain⟨rec,hrec⟩:∃rec:Loop,rec={ state:=.ready,pending:=none,fn:=fn0,tmps:=a.tmps,params:=ps,assign:=a0,body:=b0,defers:=dfr }:=⟨_,rfl⟩;rw[<- hrec]at hent;have hrec0:mA rec 0 (.loop rec):=by grind[mA]
 obtain⟨H1,hH1⟩:∃H1:Nat->Nat->Obj->Prop,H1=λl p o=>C.H l p o\/(l=C.dep/\mA rec p o):=⟨_,rfl⟩;have H1d:∀l p o,H1 l p o->l<C.dep+1:=by
  intro l p o e;rw[hH1]at e;rcases e with e|⟨e,_⟩
  .have:=C.Hd _ _ _ e; omega
  .omega
 have H1l:∀l p o,H1 l p o->∃r,o=.loop r:=by
  intro l p o e;rw[hH1]at e;rcases e with e|⟨_,e⟩
  .exact C.Hl _ _ _ e
  .exact A5 e
 have H1lt:∀l p o,l<C.dep->(H1 l p o↔C.H l p o):=by
  grind
 have H1at:∀p o,H1 C.dep p o↔mA rec p o:=by
  intro p o;rw[hH1];refine⟨λe=>?_,(by grind)⟩;rcases e with e|e
  .have:=C.Hd _ _ _ e; omega
  .exact e.2
 -- the context of the function that is ranged over
 have H1u:∀l o o',H1 l 0 o->H1 l 0 o'->o=o':=by
  intro l o o' e e';rw[hH1]at e e';rcases e with e|⟨e0,e⟩<;>rcases e' with e'|⟨e0',e'⟩
  .exact C.Hu _ _ _ e e'
  .have:=C.Hd _ _ _ e; omega
  .have:=C.Hd _ _ _ e'; omega
  grind[mA]
 let C1:Ctx:={ C with H:=H1,dep:=C.dep+1,Hd:=H1d,Hl:=H1l,Hu:=H1u };have hd0:=h.hep.below hbelow;have hE0:=jM (C:=C) (μ:=μ) (hp:=hp) hbelow;obtain⟨hd1,hE1⟩:=hd0.to (C':=C1) rfl rfl rfl (by grind) hd0.pin;obtain⟨hE2,hd2⟩:=hd1.alloc hnx (.loop rec) (.hid C.dep 0) rfl 0 ((H1at 0 _).2 hrec0);obtain⟨w1,hw1⟩:∃w1,w1=wd.alloc (.loop rec):=⟨_,rfl⟩;obtain⟨μ1,hμ1⟩:∃μ1,μ1=upd μ nx (wd.heap.size,0):=⟨_,rfl⟩;rw[<- hw1,<- hμ1]at hE2 hd2;let C':Ctx:={ C1 with n:=gn,np:=eT hp,bnd:=nx+1,pin:=μ1,R0:=aG C1 μ1 ((nx,.hid C.dep 0)::hp) w1 };obtain⟨hd3,hE3⟩:=hd2.to (C':=C') rfl rfl rfl (λ_ _ _ e=>e) (λ_ _ e=>e);have hEE:=((hE0.trans hE1).trans hE2).trans hE3;have hnxm:μ1 nx=some (wd.heap.size,0):=by simp_all[upd]
 have hl1:w1.heap[wd.heap.size]?=some (.loop rec):=by grind[World.alloc_heap_new]
 have hsz1:w.heap.size<=w1.heap.size:=hEE.kd.size;have hpinOk:rH C':=by
  intro id p e;have e':μ1 id=some p:=e;by_cases hlt:id<FB
  .exact .inr ⟨hd3.nx id p e' hlt,hlt⟩
  .left;obtain⟨o,ho⟩:=hd3.fam id p e' (bJ.1 hlt);simp only[hget,hlt,if_false]at ho;split at ho
   .rename_i q hq;simp only[fbase,hlt,if_false]
    grind[get?_cons,uR]
   .cases ho
 have cExt:C.Ext C':=⟨Frm.refl _ _,λ_ h=>.inl h,jH _,H1lt,h.le.trans hEE.toLeU,h.kd.trans hEE.kd,λid p e=>hEE.μ id p (h.hep.pin id p e)⟩;let T':Tb:=⟨T.fs,(T.dep,xR T ps.toList a' b' fr)::T.ys,eT hp,nx+1,T.dep+1⟩;have hT':wU P C' T':=by
  refine⟨hC.tb.fs,?_,rfl,rfl,by grind,⟨hC.tb.g.gok,hC.tb.g.gT⟩⟩;intro lab hd hys;have hys':get? ((T.dep,xR T ps.toList a' b' fr)::T.ys) lab=some hd:=hys;rw[get?_cons]at hys';split at hys'
  .rename_i e;cases hys';rw[<- e,hTd];exact Cw (C':=C') (rec:=rec) (ps:=ps) iha ihb hC hn h hlab rfl rfl rfl rfl H1lt H1at hEE.toLeU hEE.kd (λid p e=>hEE.μ id p e) hsz1 (by rw[hrec]) (by rw[hrec]) (by rw[hrec]) (by rw[hrec]) hps
  .exact (hC.tb.ys lab hd hys').ext cExt
 have hbase:C'.w0.heap.size<=C'.R0.w.heap.size:=hd3.frm.size;have hC':La P C' none T':=⟨hpinOk,hT',hbase,(by grind)⟩
 -- its arguments
 have hargs:R (aG C' μ1 ((nx,.hid C.dep 0)::hp) w1) (.cons (.yield nx) caps) (.func (.yield wd.heap.size) #[] #[]::cs):=by
  simp only[R];exact⟨_,_,rfl,⟨_,_,hnxm,rfl⟩,kJ hEE hcs⟩
 have rep:=Cx (C:=C') rfl hargs hok hd3 (Env.LeU.refl _) (Kd.refl _);have he':evC g T' ⟨nN (.cons (.yield nx) caps) 0,(nx,.hid T.dep 0)::hp,nx+1⟩ (λe st' =>
   match e with
   |.exit _=>False
   |_=>match st' with
    | ⟨_,hp',nx'⟩=>bif nP T.dep (drop? hp' nx) then
     match get? hp' nx with
     |some (.hid l pd)=>bif Nat.beq l T.dep then
       match pd with
       |0=>K .normal ⟨fr,drop? hp' nx,nx'⟩
       |1=>False
       |2=>K .ret ⟨fr,drop? hp' nx,nx'⟩
       |n+3=>K (.exit n) ⟨fr,drop? hp' nx,nx'⟩
      else False
     |_=>False
    else False):=he
 rw[hTd]at he';have hcall:(callFunc kf (#[.func (.yield wd.heap.size) #[] #[]]++cs.toArray)).run P w1=.ok (.enter kf (#[.func (.yield wd.heap.size) #[] #[]]++cs.toArray)) w1:=by
  simp[*,callFunc,ne_of_beq_false]
 refine⟨wd.heap.size,mark,w1,{ target:=.fn (.func kf) cs.toArray,args:=#[.func (.yield wd.heap.size) #[] #[]] },w1,kf,#[.func (.yield wd.heap.size) #[] #[]]++cs.toArray,w1,by simp[*],?_,λf' _=>yC ro f',?_,(by grind[vG]),?_⟩
 .simp only [resolve,hv'];simp[go_sem]
 .grind [invoke]
 rw[uM];refine yE hfn hbody (Q:=λe a2 w2=>∃se st2,e=Dz se/\(match se with
   |.exit _=>False
   |_=>match st2 with
    | ⟨_,hp',nx'⟩=>bif nP C.dep (drop? hp' nx) then
     match get? hp' nx with
     |some (.hid l pd)=>bif Nat.beq l C.dep then
       match pd with
       |0=>K .normal ⟨fr,drop? hp' nx,nx'⟩
       |1=>False
       |2=>K .ret ⟨fr,drop? hp' nx,nx'⟩
       |n+3=>K (.exit n) ⟨fr,drop? hp' nx,nx'⟩
      else False
     |_=>False
    else False)/\Stands C' st2 a2 w2) ?_ ?_
 .have e1:#[Value.func (.yield wd.heap.size) #[] #[]]++cs.toArray=(Value.func (.yield wd.heap.size) #[] #[]::cs).toArray:=by simp
  rw[e1,hgn];refine ihg C' none T' ⟨nN (.cons (.yield nx) caps) 0,(nx,.hid C.dep 0)::hp,nx+1⟩ _ w1 _ _ rfl hC' ?_ ⟨⟨μ1,rep⟩,B2 _ _⟩ he'
  grind
 .rintro e a2 w2 ⟨se,st2,rfl,hk,⟨⟨μ2,h2⟩,_⟩⟩;obtain⟨fr2,hp2,nx2⟩:=st2;have core:(bif nP C.dep (drop? hp2 nx) then
     match get? hp2 nx with
     |some (.hid l pd)=>bif Nat.beq l C.dep then
       match pd with
       |0=>K .normal ⟨fr,drop? hp2 nx,nx2⟩
       |1=>False
       |2=>K .ret ⟨fr,drop? hp2 nx,nx2⟩
       |n+3=>K (.exit n) ⟨fr,drop? hp2 nx,nx2⟩
      else False
     |_=>False
    else False)->∃base,rS base w2 a2.defers/\∀w'',Shut base w2 w''->∃v,(results fn a2.tmps).run P w''=.ok v w''/\rangePost (WF ro) 0 P wd.heap.size Q { a with defers:=mark++a.defers } (.returned v) w'':=by
   intro hk;refine⟨C'.R0.w,h2.defers,?_⟩;intro w3 hsh;refine⟨_,results_none hres,?_⟩;cases hn1:nP C.dep (drop? hp2 nx) with
   |false=>grind
   |true =>
   simp only[hn1,cond_true]at hk;split at hk;rotate_left
   .exact hk.elim
   rename_i l pd hg2;cases hb2:Nat.beq l C.dep with
   |false=>grind
   |true =>
   have:=nbeq hb2;subst this;simp only[hb2,cond_true]at hk;have hm2:μ2 nx=some (wd.heap.size,0):=h2.hep.pin nx _ hnxm;obtain⟨hh3,hE4⟩:=h2.hep.shut hsh hbase;obtain⟨o3,ho3,hH3⟩:=hh3.recAt hg2 hm2;have hro3:mA rec pd o3:=(H1at pd o3).1 hH3;obtain⟨s3,p3,rfl⟩:∃s p,o3=.loop { rec with state:=s,pending:=p }:=Pl hro3
   -- the record is exhausted,and let go
   obtain⟨hE5,hh5⟩:=hh3.turn (l':=C.dep) (p':=1) (r':={ rec with state:=.exhausted,pending:=p3 }) hg2 hm2 ho3 ((H1at 1 _).2 ⟨_,_,rfl⟩);have hgd:get? (fL hp2 nx (.hid C.dep 1)) nx=some (.hid C.dep 1):=by
    rw[get?_putH,get?_cons,if_pos rfl]
   have hdrop:drop? (fL hp2 nx (.hid C.dep 1)) nx=drop? hp2 nx:=oD _ _ _;obtain⟨hh6,hE6⟩:=hh5.Ll (C:=C) rfl rfl rfl (by grind) (λid p e=>h2.hep.pin id p (hEE.μ id p (h.hep.pin id p e))) hgd (by simp[*]);rw[hdrop]at hh6 hE6;have hLeU:(aG C μ hp w).LeU (aG C μ2 (drop? hp2 nx) (w3.putObj wd.heap.size (.loop { rec with state:=.exhausted,pending:=p3 }))) :=
    hEE.toLeU.trans (h2.le.trans (hE4.toLeU.trans (hE5.toLeU.trans hE6.toLeU)))
   have hLeR:(aG C μ hp w).LeR (aG C μ2 (drop? hp2 nx) (w3.putObj wd.heap.size (.loop { rec with state:=.exhausted,pending:=p3 }))) :=
    ⟨hLeU,λid p e=>h2.hep.pin id p (hEE.μ id p e)⟩
   -- what is below the rounds' world stands as it stood
   have kd3:∀(b:Nat),b<w1.heap.size->w3.heap[b]?=w2.heap[b]?:=λb hb=>hsh.block b hb;have kd1:Kd w1 w3:=Kd.shut (base:=w1) h2.kd hsh;have kd4:Kd w1 (w3.putObj wd.heap.size (.loop { rec with state:=.exhausted,pending:=p3 })):=kd1.trans (Jp ho3);have kdd:Kd wd w1:=by rw[hw1]; exact Kd.jR ((Below.refl _ _).alloc (aN _) _)
   have repF:cR C μ2 ⟨fr,drop? hp2 nx,nx2⟩ { a with defers:=mark++a.defers } (w3.putObj wd.heap.size (.loop { rec with state:=.exhausted,pending:=p3 })):=by
    refine⟨h.size,rY (kdd.trans kd4) hdf,?_,hh6,h.le.trans hLeU,h.kd.trans (hEE.kd.trans kd4)⟩;intro s;have h1:=h.fr s;have hng:∀d w x,look fr s≠.gd d w x:=λd w x e=>by have:=hlab s d w x e; simp_all[dU]
    have h2:R (aG C μ hp w) (look fr s) [a.tmps.getD s undef]:=by
     cases hl:look fr s with
     |gd d w x=>grind
     |_=>simp only[hl]at h1; exact h1
    grind[qO,eW]
   have hst:Stands C ⟨fr,drop? hp2 nx,nx2⟩ { a with defers:=mark++a.defers } (w3.putObj wd.heap.size (.loop { rec with state:=.exhausted,pending:=p3 })):=⟨⟨μ2,repF⟩,hlab⟩;have hend:∀s3,s3≠.busy->w3.heap[wd.heap.size]?=some (.loop { rec with state:=s3,pending:=p3 })->(Instr.endLoop wd.heap.size).run P w3=.ok p3 (w3.putObj wd.heap.size (.loop { rec with state:=.exhausted,pending:=p3 })) :=
    λs3 hs e=>run_endLoop (P:=P) e hs
   unfold mA at hro3;split at hro3
   .injection hro3 with e1;obtain⟨rfl,rfl⟩:s3=.ready/\p3=none:=by grind
    exact⟨none,_,hend _ (by simp) ho3,hK _ _ _ _ hk hst⟩
   .exact hk.elim
   .injection hro3 with e1;obtain⟨rfl,rfl⟩:s3=.done/\p3=some .ret:=by grind
    exact⟨some .ret,_,hend _ (by simp) ho3,wpIn_ret (hK _ _ _ _ hk hst)⟩
   .rename_i m;injection hro3 with e1;obtain⟨rfl,rfl⟩:s3=.done/\p3=some (.exit m):=by grind
    exact⟨some (.exit m),_,hend _ (by simp) ho3,wpIn_exit (hK _ _ _ _ hk hst)⟩
  cases se with
  |normal=>exact⟨.inl rfl,core hk⟩
  |ret=>exact⟨.inr rfl,core hk⟩
  |exit id=>exact hk.elim
theorem Jg{b:List (Nat×aL)}:∀{a:List (Nat×aL)},pR a b=true->∀n l p,get? a n=some (.hid l p)->get? b n=some (.hid l p):=by
 intro a;induction a with
 |nil=>intro _ n l p e; cases e
 |cons q r ih =>
  obtain⟨m,o⟩:=q;intro h n l p e;have tail:pR r b=true:=by
   cases o<;>simp only[pR]at h<;>first
    |exact h
    |grind
  rw[get?_cons]at e;by_cases hm:m=n
  .rw [if_pos hm]at e;cases e;subst hm;simp only[pR]at h;split at h
   .simp_all
   .cases h
  grind
theorem Oo:∀{a:List (Nat×aL)},hid0s a=true->∀n l p,get? a n=some (.hid l p)->p=0:=by
 intro a;induction a with
 |nil=>intro _ n l p e; cases e
 |cons q r ih =>
  obtain⟨m,o⟩:=q;intro h n l p e;have tail:hid0s r=true:=by
   cases o<;>simp only[hid0s,aI]at h<;>first
    |exact h
    |exact h.2
  rw[get?_cons]at e;by_cases hm:m=n
  .simp_all [hid0s]
  grind
theorem O9{k:Nat}:∀{a:List (Nat×aL)},Cs k a=true->get? a k=none/\drop? a k=a:=by
 intro a;induction a with
 |nil=>intro _; exact⟨rfl,rfl⟩
 |cons q r ih =>
  obtain⟨m,o⟩:=q;intro h;simp only[Cs]at h;cases hb:Nat.beq m k with
  |true=>grind
  |false =>
   simp_all[get?,cond_false,drop?]
theorem Ff{n:Nat}{f:Operand}{f':SX}{ps:Array Tmp}{a0 b0:Code}{a' b':aY}(hf:cX f=some f')(hps:pY n ps.toList=true)(iha:dM P n a0 a')(ihb:dM P n b0 b') :
  dM P n (.rangeFunc f ps a0 b0) (.rangeY f' ps.toList a' b'):=by
 intro C ro T st a w K Q hn hC hK hs he;obtain⟨⟨μ,h⟩,hlab⟩:=hs;obtain⟨fr,hp,nx⟩:=st;have hTd:T.dep=C.dep:=hC.tb.dep;have hx:=oW (E:=aG C μ hp w) (a:=a) (fr:=fr) (g:=none) (λ_ _ e=>by cases e) h.fr hf;simp only[evC]at he;split at he;rotate_left
 .exact he.elim
 rename_i kf caps hgx;rw[hgx]at hx;cases hk3:Nat.blt kf FM with
 |false=>grind
 |true =>
 cases hk2:Nat.blt nx FB with
 |false=>grind
 |true =>
 have hnx:nx<FB:=aQ (n:=nx+1) hk2;simp only[hk2,hk3,Bool.and_self,cond_true]at he;split at he;rotate_left
 .exact he.elim
 rename_i S hS;have hok:S.Ok P kf:=hC.tb.fs kf (.y S) hS;cases hz:hid0s hp with
 |false=>grind
 |true =>
 simp only[hz,cond_true,oI]at he;obtain⟨x,V,hf0,hx0,hsubc,hfo0,hfo1,hkeys,hstart,hround,hend0⟩:=he;have hF0:get? hp 0=some (.fam (S.F0 x)):=by
  grind[Jk]
 have hnx0:nx≠0:=by
  have h1:0<nx:=h.hep.keys _ _ hF0;omega
 simp only[R]at hx;obtain⟨cs,hv,hcs⟩:=hx;have hv':=aC.1 hv;unfold fnV at hv';rw[hk3]at hv';simp only[cond_true]at hv';refine wpIn_rangeFunc ?_;intro fn0 hfn0
 -- the record is laid
 obtain⟨wd,mark,dfr,hent,hbelow,hdf⟩:∃wd mark dfr,(Instr.enterLoop fn0 a.tmps ps a0 b0 (WF ro).round).run P w=.ok (wd.heap.size,mark) (wd.alloc (.loop { state:=.ready,pending:=none,fn:=fn0,tmps:=a.tmps,params:=ps,assign:=a0,body:=b0,defers:=dfr })) /\
   Below w.heap.size w wd/\rS C.R0.w wd (mark++a.defers):=by
  rw[Fu];cases ro with
  |none =>
   have hb:Below w.heap.size w (w.alloc (.deferred (some []))):=(Below.refl _ _).alloc (aN _) _;refine⟨w.alloc (.deferred (some [])),_,w.heap.size,by rw[run_enterLoop_outer,World.size_alloc],hb,?_⟩;have hd:=rY (Kd.jR hb) h.defers;refine⟨aT.2 ⟨?_,hd.1⟩,?_⟩
   .intro d hd' e;obtain⟨D,e1,_,e3⟩:=h.defers.2 d hd'
    grind
   .intro d hd';rcases aR.1 hd' with rfl|hd'
    .refine ⟨w.heap.size,rfl,?_,heap_alloc_new w _⟩;exact h.kd.size
    .exact hd.2 d hd'
  |some l =>
   obtain⟨r,hr⟩:=hC.ro l rfl;obtain⟨r',hr'⟩:=h.kd.loop l r hr;exact⟨w,[],r'.defers,nQ hr',Below.refl _ _,by simpa using h.defers⟩
 obtain⟨rec,hrec⟩:∃rec:Loop,rec={ state:=.ready,pending:=none,fn:=fn0,tmps:=a.tmps,params:=ps,assign:=a0,body:=b0,defers:=dfr }:=⟨_,rfl⟩;rw[<- hrec]at hent;have hrec0:mA rec 0 (.loop rec):=by grind[mA]
 obtain⟨H1,hH1⟩:∃H1:Nat->Nat->Obj->Prop,H1=λl p o=>C.H l p o\/(l=C.dep/\mA rec p o):=⟨_,rfl⟩;have H1d:∀l p o,H1 l p o->l<C.dep+1:=by
  intro l p o e;rw[hH1]at e;rcases e with e|⟨e,_⟩
  .have:=C.Hd _ _ _ e; omega
  .omega
 have H1l:∀l p o,H1 l p o->∃r,o=.loop r:=by
  intro l p o e;rw[hH1]at e;rcases e with e|⟨_,e⟩
  .exact C.Hl _ _ _ e
  .exact A5 e
 have H1lt:∀l p o,l<C.dep->(H1 l p o↔C.H l p o):=by
  grind
 have H1at:∀p o,H1 C.dep p o↔mA rec p o:=by
  intro p o;rw[hH1];refine⟨λe=>?_,(by grind)⟩;rcases e with e|e
  .have:=C.Hd _ _ _ e; omega
  .exact e.2
 -- the context of the function that is ranged over
 have H1u:∀l o o',H1 l 0 o->H1 l 0 o'->o=o':=by
  intro l o o' e e';rw[hH1]at e e';rcases e with e|⟨e0,e⟩<;>rcases e' with e'|⟨e0',e'⟩
  .exact C.Hu _ _ _ e e'
  .have:=C.Hd _ _ _ e; omega
  .have:=C.Hd _ _ _ e'; omega
  grind[mA]
 let C1:Ctx:={ C with H:=H1,dep:=C.dep+1,Hd:=H1d,Hl:=H1l,Hu:=H1u };have hd0:=h.hep.below hbelow;have hE0:=jM (C:=C) (μ:=μ) (hp:=hp) hbelow;obtain⟨hd1,hE1⟩:=hd0.to (C':=C1) rfl rfl rfl (by grind) hd0.pin;obtain⟨hE2,hd2⟩:=hd1.alloc hnx (.loop rec) (.hid C.dep 0) rfl 0 ((H1at 0 _).2 hrec0);obtain⟨w1,hw1⟩:∃w1,w1=wd.alloc (.loop rec):=⟨_,rfl⟩;obtain⟨μ1,hμ1⟩:∃μ1,μ1=upd μ nx (wd.heap.size,0):=⟨_,rfl⟩;rw[<- hw1,<- hμ1]at hE2 hd2;let C':Ctx:={ C1 with np:=eT hp,bnd:=nx+1,pin:=μ1,R0:=aG C1 μ1 ((nx,.hid C.dep 0)::hp) w1 };obtain⟨hd3,hE3⟩:=hd2.to (C':=C') rfl rfl rfl (λ_ _ _ e=>e) (λ_ _ e=>e);have hEE:=((hE0.trans hE1).trans hE2).trans hE3;have hnxm:μ1 nx=some (wd.heap.size,0):=by simp_all[upd]
 have hl1:w1.heap[wd.heap.size]?=some (.loop rec):=by grind[World.alloc_heap_new]
 have hsz1:w.heap.size<=w1.heap.size:=hEE.kd.size;have hpinOk:rH C':=by
  intro id p e;have e':μ1 id=some p:=e;by_cases hlt:id<FB
  .exact .inr ⟨hd3.nx id p e' hlt,hlt⟩
  .left;obtain⟨o,ho⟩:=hd3.fam id p e' (bJ.1 hlt);simp only[hget,hlt,if_false]at ho;split at ho
   .rename_i q hq;simp only[fbase,hlt,if_false]
    grind[get?_cons,uR]
   .cases ho
 have cExt:C.Ext C':=⟨Frm.refl _ _,λ_ h=>.inl h,jH _,H1lt,h.le.trans hEE.toLeU,h.kd.trans hEE.kd,λid p e=>hEE.μ id p (h.hep.pin id p e)⟩;have hH:lA P C' C.dep (xR T ps.toList a' b' fr) :=
  Cw (C':=C') (rec:=rec) (ps:=ps) iha ihb hC hn h hlab rfl rfl rfl rfl H1lt H1at hEE.toLeU hEE.kd (λid p e=>hEE.μ id p e) hsz1 (by rw[hrec]) (by rw[hrec]) (by rw[hrec]) (by rw[hrec]) hps
 have hY:YC C' μ1 ((nx,.hid C.dep 0)::hp) (nx+1) w1 wd.heap.size C.dep nx rec (S.F0 x):=by
  refine⟨hd3,rfl,rfl,⟨hC.tb.g.gok,hC.tb.g.gT⟩,(by grind),by rw[get?_cons,if_pos rfl],hnxm,(H1at 0 _).2 hrec0,λm lb p e=>?_,by simp_all[get?_cons],hfo0⟩
  grind[get?_cons,Oo]
 have hkk:∀v,rV ((nx,.hid C.dep 0)::hp) ((nx,.hid C.dep 0)::V.hp v)/\nP C.dep (V.hp v)=true/\Cs nx (V.hp v)=true:=by
  intro v;have:=hkeys v;simp only[aI,hTd]at this;obtain⟨⟨⟨k1,k2⟩,k3⟩,k4⟩:=this;refine⟨λm lb p=>?_,k3,k4⟩;rw[get?_cons,get?_cons];by_cases hm:nx=m
  .simp [*]
  .rw [if_neg hm,if_neg hm]
   grind[Jg]
 have hround:∀(i:Nat) (v:V.X) (g:Nat->Option Obj) (item:SV),V.I i v->(S.items x)[i]?=some item->isL item=true/\xR T ps.toList a' b' fr nx (eT ((0,.fam (cJ g))::(nx,.hid T.dep 0)::V.hp v)) V.nx (T.dep+1) item ((0,.fam (cJ g))::(nx,.hid T.dep 0)::V.hp v) V.nx λgo hp' nx' =>
   go=true/\∃v',V.I (i+1) v'/\lI (eT hp) (nx+1) ⟨[],hp',nx'⟩ ⟨[],(0,.fam (cJ g))::(nx,.hid T.dep 0)::V.hp v',V.nx⟩:=hround
 rw[hTd]at hsubc hstart hround;let V':Nr:=⟨V.X,V.I,λv=>(nx,.hid C.dep 0)::V.hp v,V.nx⟩;have core:=aDr (P:=P) (V:=V') hok hY hpinOk rfl rfl hH hx0 (kJ hEE hcs) hsubc (λv=>(hkk v).1) hfo1
  hstart hround
 have hargs:(Value.func (.yield wd.heap.size) #[] #[]::cs).toArray=#[Value.func (.yield wd.heap.size) #[] #[]]++cs.toArray:=by simp
 rw[hargs]at core;refine⟨wd.heap.size,mark,w1,{ target:=.fn (.func kf) cs.toArray,args:=#[.func (.yield wd.heap.size) #[] #[]] },w1,kf,#[.func (.yield wd.heap.size) #[] #[]]++cs.toArray,w1,by simp[*],?_,λf' _=>yC ro f',?_,(by grind[vG]),?_⟩
 .simp only [resolve,hv'];simp[go_sem]
 .have:=hok.call (#[Value.func (.yield wd.heap.size) #[] #[]]++cs.toArray) w1
  grind[invoke]
 rw[uM];refine core.mono ?_;intro e w3 he;cases e with
 |panicked c=>exact he.elim
 |outgrown=>exact he.elim
 |returned u =>
 obtain⟨z,v,μ3,hz1,hI,hh3,hLe,hkd,hl3⟩:=he;have hk:=hend0 z v hz1 hI;obtain⟨_,hn1,hn2⟩:=hkk v;have hl3':w3.heap[wd.heap.size]?=some (.loop { rec with state:=.ready,pending:=none }):=by simp[*]
 have hg3:get? ((0,aL.fam (S.F1 x z))::(nx,.hid C.dep 0)::V.hp v) nx=some (.hid C.dep 0):=by
  rw[get?_cons,if_neg (fR hnx0),get?_cons,if_pos rfl]
 have hm3:μ3 nx=some (wd.heap.size,0):=hh3.pin nx _ hnxm;obtain⟨hE5,hh5⟩:=hh3.turn (l':=C.dep) (p':=1) (r':={ rec with state:=.exhausted,pending:=none }) hg3 hm3 hl3' ((H1at 1 _).2 ⟨_,_,rfl⟩);have hgd:get? (fL ((0,aL.fam (S.F1 x z))::(nx,.hid C.dep 0)::V.hp v) nx (.hid C.dep 1)) nx=some (.hid C.dep 1):=by
  rw[get?_putH,get?_cons,if_pos rfl]
 have hdrop:drop? (fL ((0,aL.fam (S.F1 x z))::(nx,.hid C.dep 0)::V.hp v) nx (.hid C.dep 1)) nx=(0,aL.fam (S.F1 x z))::V.hp v:=by
  rw[oD];have hb0:Nat.beq 0 nx=false:=by
   grind[nbeq]
  simp[*,drop?,cond_false,Nat.beq_refl,cond_true,O9]
 obtain⟨hh6,hE6⟩:=hh5.Ll (C:=C) rfl rfl rfl (by grind) (λid p e=>hh3.pin id p (hEE.μ id p (h.hep.pin id p e))) hgd (by rw[hdrop]; exact hn1);rw[hdrop]at hh6 hE6;obtain⟨w4,hw4⟩:∃w4,w4=w3.putObj wd.heap.size (.loop { rec with state:=.exhausted,pending:=none }):=⟨_,rfl⟩;rw[<- hw4]at hh5 hE5 hh6 hE6;have hLe':(aG C' μ1 ((nx,.hid C.dep 0)::hp) w1).LeR (aG C' μ3 ((0,aL.fam (S.F1 x z))::(nx,.hid C.dep 0)::V.hp v) w3):=hLe;have hLeU:(aG C μ hp w).LeU (aG C μ3 ((0,aL.fam (S.F1 x z))::V.hp v) w4) :=
  hEE.toLeU.trans (hLe'.toLeU.trans (hE5.toLeU.trans hE6.toLeU))
 have hLeR:(aG C μ hp w).LeR (aG C μ3 ((0,aL.fam (S.F1 x z))::V.hp v) w4) :=
  ⟨hLeU,λid p e=>hh3.pin id p (hEE.μ id p e)⟩
 have kd4:Kd w1 w4:=by rw[hw4]; exact hkd.trans (Jp hl3')
 have kdd:Kd wd w1:=by rw[hw1]; exact Kd.jR ((Below.refl _ _).alloc (aN _) _)
 have repF:cR C μ3 ⟨fr,(0,.fam (S.F1 x z))::V.hp v,V.nx⟩ { a with defers:=mark++a.defers } w4:=by
  refine⟨h.size,rY (kdd.trans kd4) hdf,?_,hh6,h.le.trans hLeU,h.kd.trans (hEE.kd.trans kd4)⟩;intro s;have h1:=h.fr s;have hng:∀d w x,look fr s≠.gd d w x:=λd w x e=>by have:=hlab s d w x e; simp[dU]at this
  have h2:R (aG C μ hp w) (look fr s) [a.tmps.getD s undef]:=by
   cases hl:look fr s with
   |gd d w x=>grind
   |_=>simp only[hl]at h1; exact h1
  grind[qO,eW]
 refine⟨none,w4,?_,hK _ _ _ _ hk ⟨⟨μ3,repF⟩,hlab⟩⟩;simp[*,run_endLoop]
theorem Uz:∀{n:Nat} {c:Code} {sc:aY},Tr P n c sc->dM P n c sc:=by
 intro n c sc h;induction h with
 |skip=>exact Kv _
 |region hl=>exact Fg hl
 |drawn hd=>exact Hz hd
 |drawnL hd=>exact Fe hd
 |seq _ _ ihx ihy=>simp_all[Pv]
 |cond hx _ _ ihy ihz=>grind[Kr]
 |join _ ih=>exact Kt ih
 |block _ ih=>exact Hy ih
 |scope _ ih=>exact H5 ih
 |label=>exact H3
 |loop _ ih=>exact Ku ih
 |exit=>exact Ks _ _
 |ret=>exact Pu _
 |range hf h1 h2 h3 h4 h5 _ h6 _ _ ihg iha ihb=>grind[H4]
 |rangeY hf h6 _ _ iha ihb=>grind[Ff]
end Go.Eng
end
section
namespace Go.Eng
open Go Go.RowKit
theorem bW(p x y:Bool)(n:Nat):bN p (.s n) (.c (.bool false)) x y=(p && x):=by rfl
theorem dL(p x y:Bool)(n:Nat):bN p (.c (.bool true)) (.s n) x y=(p || y):=by rfl
inductive lL where
 |slot (n:Nat)
 |cell (a n:Nat) (agg:Bool)
 deriving Repr
def rX(P:Program):List ResultVar->Option (List lL)
 | []=>some []
 |.tmp t::r=>match rX P r with
  |some l=>some (.slot t::l)
  |none=>none
 |.cell a t::r=>match rX P r with
  |some l=>match P.info? t with
   |some i=>match P.underlying t with
    |some d=>bif mN d || i.size == 1 then some (.cell a i.size (mN d)::l)else none
    |none=>none
   |none=>none
  |none=>none
def evR(st:St):lL->(SV->Prop)->Prop
 |.slot n,k=>k (unlab none (look st.fr n))
 |.cell a n agg,k=>(zZ st.hp n agg (unlab none (look st.fr a))).holds k
def Dy(st:St):List lL->(SV->Prop)->Prop
 | [],k=>k .nil
 |r::l,k=>evR st r λv=>Dy st l λt=>k (.cons v t)
def yD:SV->SV
 |.cons h .nil=>h
 |l=>.tup l
def aEl(T:Tb)(sc:aY)(res:List lL)(args:SV)(hp:List (Nat×aL))(nx:Nat)(K:SV->St->Prop):Prop :=
 evC sc T ⟨nN args 0,hp,nx⟩ λe st =>
  match e with
  |.exit _=>False
  |_=>Dy st res λl=>K (yD l) st
def Lp(np:List Nat)(tab:List (Nat×fV))(sc:aY)(res:List lL)(args:SV)(hp:List (Nat×aL))(nx:Nat)(K:SV->St->Prop):Prop :=
 evC sc ⟨tab,[],np,0,0⟩ ⟨nN args 0,hp,nx⟩ λe st =>
  match e with
  |.exit _=>False
  |_=>Dy st res λl=>K (yD l) st
def aGm(tab:List (Nat×fV))(sc:aY)(res:List lL)(fresh:Bool)(args want:SV):Prop :=
 Lp [] tab sc res args [] 0 λsv st=>sub (match fresh with|true=>.strict|false=>.free) st.hp 200 sv want
def E7(np:List Nat)(sv want:SV)(hp hp':List (Nat×aL)):List (Nat×Nat) :=
 let p0:=kT want sv (pins np);let p1:=rA hp hp' p0 p0
 qZ hp hp' (rA hp hp' p1 p1)
theorem Hg(np:List Nat)(sv want:SV)(hp hp':List (Nat×aL))(k:PK):Az np sv want hp hp' k=k (E7 np sv want hp hp'):=by
 simp only[Az,Hi,uW,Ay,yN,E7]
def Kz(np:List Nat)(fresh:Bool)(sv:SV)(st:St)(want:SV)(h1:List (Nat×aL))(nx1:Nat):Prop :=
 iF h1 λh1=>Az np sv want st.hp h1 λprs =>
 bif iG nx1 prs then bif tX st.hp h1 prs then bif uX prs np then
  sub ⟨prs,false,match fresh with|true=>false|false=>true,false⟩ st.hp 200 sv want/\rN ⟨prs,false,match fresh with|true=>false|false=>true,false⟩ nx1 prs st.hp h1
 else False else False else False
def bO(P:Program)(f:Nat)(G joins hint:List Nat)(rg:List (Nat×Nat×aY×Nat)):Option (aY×List lL×Nat) :=
 match P.funcs[f]? with
 |none=>none
 | some fn => match fn.name == "runtime.NumGoroutine" with
  |true=>none
  |false=>match fn.body with
   |none=>none
   |some c=>match rX P fn.results.toList with
    |none=>none
    |some res=>match jK P fn.ntmps G joins hint rg c (0,0) with
     |none=>none
     |some (sc,_)=>some (sc,res,fn.ntmps)
section
variable {P:Program}
def xU(t:Array Value):ResultVar->Sem Value
 |.tmp x=>pure (t.getD x undef)
 |.cell c y=>do loadVar y (<- asAddr (t.getD c undef))
section
variable {C:Ctx}
theorem Og{μ:Nat->Option (Nat×Nat)}{st:St}{a:Act}{w:World}(h:cR C μ st a w)(x:ResultVar)(l:List ResultVar){s:lL}{r:List lL}(hc:rX P (x::l)=some (s::r)){K:SV->Prop}(he:evR st s K) :
  ∃sv v,K sv/\R (aG C μ st.hp w) sv [v] /\
   (xU a.tmps x).run P w=.ok v w:=by
 cases x with
 |tmp t =>
  simp only[rX]at hc;split at hc
  .simp only [aH,dZ]at hc;obtain⟨rfl,rfl⟩:=hc;exact⟨_,_,he,Da (λ_ _ e=>by cases e) (h.fr t),by simp[xU]⟩
  .cases hc
 |cell c t =>
  simp only[rX]at hc;split at hc
  .split at hc
   .rename_i i hi;split at hc
    .rename_i d hd;cases hk:mN d || i.size == 1 with
     |false=>grind
     |true =>
      simp only[hk,cond_true,aH,dZ]at hc;obtain⟨rfl,rfl⟩:=hc;simp only[evR]at he;have hx:R (aG C μ st.hp w) (unlab none (look st.fr c)) [a.tmps.getD c undef]:=Da (λ_ _ e=>by cases e) (h.fr c);obtain⟨s',hq,u,hu,hr⟩:=vR (P:=P) h.hep.obj hi hd hk hx he;refine⟨s',u,hq,hr,?_⟩;generalize hv:a.tmps.getD c undef=v at hx hu;have:∃ad,v=.pointer (some ad)/\ad.spot=none:=by
       unfold zZ at he;split at he
       .rename_i heq; rw[heq]at hx; simp only[R]at hx; grind
       .rename_i heq; rw[heq]at hx; simp only[R]at hx; grind
       .rename_i heq; rw[heq]at hx; simp only[R]at hx; grind
       .exact he.elim
      obtain⟨ad,rfl,had⟩:=this;simp[Instr.loadAt,Instr.sureAddr]at hu
      grind[xU,asAddr]
    .cases hc
   .cases hc
  .cases hc
theorem B8{x:ResultVar}{l:List ResultVar}{res:List lL}(h:rX P (x::l)=some res):∃s r,res=s::r/\rX P l=some r:=by
 cases hl:rX P l with
 |none=>cases x<;>simp[rX,hl]at h
 |some r =>
  cases x with
  |tmp t=>simp only[rX,hl,aH]at h; grind
  |cell c t =>
   cases hi:P.info? t with
   |none=>grind[rX]
   |some i =>
    cases hd:P.underlying t with
    |none=>grind[rX]
    |some d =>
     simp only[rX,hl,hi,hd]at h
     grind
def En:SV->Bool
 |.nil=>true
 |.cons _ t=>En t
 |_=>false
theorem I6{μ:Nat->Option (Nat×Nat)}{st:St}{a:Act}{w:World}(h:cR C μ st a w) :
  ∀(l:List ResultVar) (res:List lL) (K:SV->Prop),rX P l=some res->Dy st res K ->
   ∃sv vs,K sv/\En sv=true/\sv.len=vs.length/\R (aG C μ st.hp w) sv vs /\
    (l.mapM (xU a.tmps)).run P w=.ok vs w:=by
 intro l;induction l with
 |nil =>
  intro res K hc he;simp only[rX,aH]at hc;subst hc;exact⟨.nil,[],he,rfl,rfl,rfl,by simp⟩
 |cons x l ih =>
  intro res K hc he;obtain⟨s,r,rfl,hr⟩:=B8 hc;simp only[Dy]at he;obtain⟨sv,v,hk,hR,hrun⟩:=Og h x l hc he;obtain⟨t,vs,hk',htl,hlen,hR',hrun'⟩:=ih r _ hr hk;refine⟨.cons sv t,v::vs,hk',htl,by simp[SV.len,hlen],by simp only[R]; grind,?_⟩;simp[*]
end
theorem Hr{fn:Func}{t:Array Value}{vs:List Value}{w:World}
  (h:(fn.results.toList.mapM (xU t)).run P w=.ok vs w) :
  (results fn t).run P w=.ok (if vs.length=1 then vs.headD undef else .tuple vs.toArray) w:=by
 have e:results fn t=(do let vs <- fn.results.mapM (xU t); pure (if h:vs.size=1 then vs[0]else .tuple vs)):=rfl;rw[e,Array.mapM_eq_mapM_toList];simp only[Sem.run_bind,Sem.run_map,h]
 match vs with
 | []=>simp
 | [x]=>simp
 |x::y::r=>simp
theorem uK{f:Nat}{G joins hint:List Nat}{rg:List (Nat×Nat×aY×Nat)}{sc:aY}{res:List lL}{n:Nat}(hc:bO P f G joins hint rg=some (sc,res,n)) :
  ∃ fn c q, P.funcs[f]? = some fn /\ fn.body = some c /\ (fn.name == "runtime.NumGoroutine") = false /\ rX P fn.results.toList = some res /\ jK P n G joins hint rg c (0, 0) = some (sc, q) /\ fn.ntmps = n := by
 unfold bO at hc;split at hc
 .cases hc
 grind
theorem lT.nil:lT P []:=λi gid g gn e=>by cases e
theorem lT.cons{rg:List (Nat×Nat×aY×Nat)}(h:lT P rg){i gid:Nat}{G joins hint:List Nat}{rg':List (Nat×Nat×aY×Nat)}{g:aY}{gn:Nat}(hrg':lT P rg')(hc:bO P gid G joins hint rg'=some (g,[],gn)):lT P ((i,gid,g,gn)::rg):=by
 intro j gid' g' gn' e;rw[get?_cons]at e;split at e
 .cases e;obtain⟨fn,c,q,hf,hb,hname,hres,hcode,hn⟩:=uK hc;refine⟨fn,c,hf,hname,hb,hn,?_,Fy hrg' _ _ _ _ hcode⟩;cases hl:fn.results.toList with
  |nil=>rfl
  |cons x l=>grind[B8]
 .exact h j gid' g' gn' e
theorem qR{f:Nat}{G joins hint:List Nat}{rg:List (Nat×Nat×aY×Nat)}{sc:aY}{res:List lL}{n:Nat}(hc:bO P f G joins hint rg=some (sc,res,n))(args:Array Value)(w:World):(callFunc f args).run P w=.ok (.enter f args) w:=by
 obtain⟨fn,c,q,hf,hb,hname,_⟩:=uK hc;simp_all[callFunc,ne_of_beq_false]
theorem B9{f:Nat}{G joins hint:List Nat}{rg:List (Nat×Nat×aY×Nat)}{sc:aY}{res:List lL}{n:Nat}(hc:bO P f G joins hint rg=some (sc,res,n))(hrg:lT P rg){C:Ctx}(hn:C.n=n)(hpin:rH C){w:World}(hR0:C.R0=iV (λ_=>False) w)(hw0:C.w0=w){T:Tb}(htb:wU P C T){args:SV}{vs:List Value}{μ:Nat->Option (Nat×Nat)}{hp:List (Nat×aL)}{nx:Nat}(hh:bD C μ hp nx w)
  (hR:R (aG C μ hp w) args vs) (hok:nH args n) {K:SV->St->Prop} (hev:aEl T sc res args hp nx K) {RR:Ending->World->Prop}
  (hfin:∀sv st μ' w' v,K sv st->bD C μ' st.hp st.nx w'->R (aG C μ' st.hp w') sv [v]->Kd w w'->RR (.returned v) w'):Calls P f vs.toArray w RR:=by
 obtain⟨fn,c,q,hf,hb,hname,hres,hcode,rfl⟩:=uK hc;have hst:=Cx (C:=C) hn hR hok hh (by rw[hR0]; exact⟨λ_ h=>h.elim,λ_ h=>h.elim⟩) (by grind[Kd.refl]);have hbase:C.w0.heap.size<=C.R0.w.heap.size:=by simp[*]
 refine yE hf hb (Q:=λe a' w'=>∃se st,e=Dz se/\(match se with
   |.exit _=>False
   |_=>Dy st res λl=>K (yD l) st)/\Stands C st a' w') ?_ ?_
 .refine Uz (Fy hrg _ _ _ _ hcode) C none T _ _ w _ _ hn ⟨hpin,htb,hbase,(by grind)⟩ ?_ ⟨⟨μ,hst⟩,B2 _ _⟩ hev
  grind
 rintro e a' w0' ⟨se,st,rfl,hk,⟨⟨μ',hrep0⟩,_⟩⟩;have fin:(Dy st res λl=>K (yD l) st)->∃base,rS base w0' a'.defers/\∀w',Shut base w0' w'->∃v,(results fn a'.tmps).run P w'=.ok v w'/\RR (.returned v) w':=by
  intro hk;refine⟨C.R0.w,hrep0.defers,λw' hsh=>?_⟩;obtain⟨hh',hE⟩:=hrep0.hep.shut hsh hbase;let C2:Ctx:={ C with R0:=iV (λ_=>False) w' };have hrep:cR C2 μ' st ⟨a'.tmps,[]⟩ w':=by
   refine⟨hrep0.size,rS.nil _ _,λs=>?_,(hh'.to (C':=C2) rfl rfl rfl (λ_ _ _ e=>e) hh'.pin).1,⟨λ_ h=>h.elim,λ_ h=>h.elim⟩,Kd.refl _⟩;have h1:=hrep0.fr s;cases hl:look st.fr s with
   |gd d wt x =>
    rw[hl]at h1;exact⟨λe=>eW hE (h1.1 e),h1.2⟩
   |_=>rw[hl]at h1; exact eW hE h1
  obtain⟨sv,vs,hsub,hil,hln,hRv,hrun⟩:=I6 hrep _ _ _ hres hk;refine⟨_,Hr hrun,hfin _ _ μ' _ _ hsub hh' ?_ (by have:=Kd.shut hrep0.kd hsh; grind)⟩;have hRv:R (aG C μ' st.hp w') sv vs:=hRv;cases sv with
  |nil=>grind[R,yD]
  |cons hh tt =>
   cases tt with
   |nil =>
    simp only[R]at hRv;obtain⟨v,xs,rfl,h1,rfl⟩:=hRv
    grind[yD]
   |ints=>simp_all[En]
   |_ =>
    have:vs.length≠1:=by
     simp only[R]at hRv;obtain⟨v,xs,rfl,h1,h2⟩:=hRv;first
      | (simp only[SV.len]at hln; simp at hln ⊢
         intro e; subst e; simp at h2; done)
      | (obtain⟨y,ys,rfl,_⟩:=h2; simp)
    simp only[this,if_false,yD,R];exact⟨vs,rfl,by simpa[R]using hRv⟩
  |_=>simp[En]at hil
 cases se with
 |normal=>exact⟨.inl rfl,fin hk⟩
 |ret=>exact⟨.inr rfl,fin hk⟩
 |exit id=>exact hk.elim
theorem Fz{f:Nat}{G joins hint:List Nat}{rg:List (Nat×Nat×aY×Nat)}{sc:aY}{res:List lL}{n:Nat}(hc:bO P f G joins hint rg=some (sc,res,n))(hrg:lT P rg){C:Ctx}(hn:C.n=n)(hpin:rH C)(hbnd:C.bnd=0)(hdep:C.dep=0){w:World}(hR0:C.R0=iV (λ_=>False) w)(hw0:C.w0=w)(hgc:uG C)
  {tab:List (Nat×fV)} (htab:aO P tab) {args:SV} {vs:List Value} {μ:Nat->Option (Nat×Nat)} {hp:List (Nat×aL)} {nx:Nat} (hh:bD C μ hp nx w)
  (hR:R (aG C μ hp w) args vs) (hok:nH args n) {K:SV->St->Prop} (hev:Lp C.np tab sc res args hp nx K) {RR:Ending->World->Prop}
  (hfin:∀sv st μ' w' v,K sv st->bD C μ' st.hp st.nx w'->R (aG C μ' st.hp w') sv [v]->Kd w w'->RR (.returned v) w'):Calls P f vs.toArray w RR :=
 B9 hc hrg hn hpin hR0 hw0 (T:=⟨tab,[],C.np,0,0⟩) ⟨htab,(λ_ _ e=>by cases e),rfl,hbnd.symm,hdep.symm,hgc⟩ hh hR hok hev hfin
theorem sC(n:Nat):hget [] n=none:=by unfold hget; split<;>rfl
theorem bD.start(C:Ctx)(h:C.pin=λ_=>none):bD C (λ_=>none) [] 0 C.w0:=by
 refine⟨⟨?_,?_⟩,?_,?_,?_,?_,?_,?_,Frm.refl _ _,(by grind)⟩
 .intro id o e; cases e
 .grind [sC]
 .intro id id' o o' b c c' e; simp
 .simp
 .intro id o e; cases e
 .simp
 .simp
 simp[*]
theorem Spec.uA{f:Nat}{S:Spec}{G joins hint:List Nat}{rg:List (Nat×Nat×aY×Nat)}{sc:aY}{res:List lL}{n:Nat}(hc:bO P f G joins hint rg=some (sc,res,n))(hrg:lT P rg)
  (tab:S.X->List (Nat×fV)) (htab:∀x,S.pre x->aO P (tab x))
  (h:∀x,S.pre x->nH (S.args x) n/\aGm (tab x) sc res S.fresh (S.args x) (S.res x)):S.Ok P f:=by
 refine⟨qR hc,?_⟩;intro x w vs U hU hgv hpre hR;obtain⟨hok,hev⟩:=h x hpre;let C:Ctx:=⟨n,w,λ_=>False,U,λ_=>none,[],0,H0,0,λ_ _ _ h=>h.elim,λ_ _ _ h=>h.elim,λ_ _ _ h=>h.elim,iV (λ_=>False) w⟩;have hR':R (aG C (λ_=>none) [] w) (S.args x) vs :=
  eW (E:=iV U w) (E':=aG C (λ_=>none) [] w) ⟨⟨λb hb=>show Ufor C (λ_=>none) [] w b from⟨(hU b hb).1,.inl hb,(by grind),(hU b hb).2⟩,λ_ _=>rfl⟩,(by grind)⟩ hR
 refine Fz hc hrg (C:=C) rfl (λid p e=>by cases e) rfl rfl rfl rfl ⟨hgv,λ_ _ h=>h⟩ (htab x hpre) (bD.start C rfl) hR' hok hev ?_;intro sv st μ' w' v hsub hh hR1 _;refine⟨?_,hh.frm.below⟩;refine lF (E:=aG C μ' st.hp w') (hp:=st.hp) ?_ hh.obj 200 _ _ _ hsub hR1;have tracked:∀id o b c,(∀l p,o≠.hid l p)->hget st.hp id=some o->μ' id=some (b,c)->w.heap.size<=b/\b<w'.heap.size/\Plain w' b:=by
  intro id o b c hn h1 h2;rcases hh.mine id o b c h1 h2 with h3|h3
  .exact h3.elim
  .exact ⟨h3,hh.lt h1 h2,hh.obj.plain h1 h2 hn⟩
 cases hfr:S.fresh with
 |true =>
  refine⟨λe=>?_,λ_ _ _ e=>?_,λ_ _ _ _ e=>?_,rfl,λid o b c hn h1 h2 _=>show Kk true U w w' b from .inr (tracked id o b c hn h1 h2)⟩
  .cases e
  .cases e
  .cases e
 |false =>
  refine⟨λ_=>⟨λb hb=>?_,λ_ _=>rfl⟩,λ_ _ _ e=>?_,λ_ _ _ _ e=>?_,rfl,λid o b c hn h1 h2 _=>show Kk false U w w' b from .inr (tracked id o b c hn h1 h2)⟩
  .obtain ⟨h1,h2,_,h4⟩:=hb;rcases h2 with h2|h2|h2
   .exact .inl ⟨rfl,h2⟩
   .exact h2.elim
   .exact .inr ⟨h2,h1,h4⟩
  .cases e
  .cases e
theorem bC.uA{f:Nat}{S:bC}{G joins hint:List Nat}{rg:List (Nat×Nat×aY×Nat)}{sc:aY}{res:List lL}{n:Nat}(hc:bO P f G joins hint rg=some (sc,res,n))(hrg:lT P rg)
  (tab:S.X->List (Nat×fV)) (htab:∀x,S.pre x->aO P (tab x))
  (h:∀x,S.pre x->nH (S.args x) n/\Lp (upto S.nx0) (tab x) sc res (S.args x) (S.h0 x) S.nx0 λsv st=>∃y,S.post x y/\Kz (upto S.nx0) S.fresh sv st (S.res x y) (S.h1 x y) S.nx1):S.Ok P f:=by
 refine⟨qR hc,?_⟩;intro x w μ vs T U hU hgc hh0 hpre hR;obtain⟨hok,hev⟩:=h x hpre;let C:Ctx:=⟨n,w,T,U,μ,upto S.nx0,0,H0,0,λ_ _ _ h=>h.elim,λ_ _ _ h=>h.elim,λ_ _ _ h=>h.elim,iV (λ_=>False) w⟩;have hC:bD C μ (S.h0 x) S.nx0 w:=(hh0.to (C':=C) rfl rfl rfl (λ_ _ _ e=>e) hh0.pin).1;have hpin:rH C:=by
  intro id p e;have e':μ id=some p:=e;by_cases hlt:id<FB
  .left; simp only[fbase,hlt,if_true]; exact wE.2 (hC.nx id p e' hlt)
  .left;simp only[fbase,hlt,if_false];obtain⟨o,ho⟩:=hC.fam id p e' (bJ.1 hlt);simp only[hget,hlt,if_false]at ho;split at ho
   .rename_i f' hf'; exact wE.2 (hC.keys _ _ hf')
   .cases ho
 have hR':R (aG C μ (S.h0 x) w) (S.args x) vs:=hR;refine Fz hc hrg (C:=C) rfl hpin rfl rfl rfl rfl ⟨hgc.gok,hgc.gT⟩ (htab x hpre) hC hR' hok hev ?_;intro sv st μ1 w' v hk hh hR1 hkd;obtain⟨y,hpost,hsub⟩:=hk;unfold Kz at hsub;simp only[oI,Hg]at hsub;generalize hprs:E7 (upto S.nx0) sv (S.res x y) st.hp (S.h1 x y)=prs at hsub;try simp only at hsub
 cases hk1:iG S.nx1 prs with
 |false=>grind
 |true =>
  cases hfm:tX st.hp (S.h1 x y) prs with
  |false=>grind
  |true =>
   cases hpi:uX prs (upto S.nx0) with
   |false=>grind
   |true =>
    simp only[hk1,hfm,hpi,cond_true]at hsub;obtain⟨hs1,hs2⟩:=hsub;obtain⟨μ',k1,k2,k3,k4,k5,k6,k7,k8,k9⟩:=Fj 0 hh hk1 hfm hs2 (by grind) (aS _);let C':Ctx:=dE w T (Ufresh S.fresh U) μ S.nx0;have hF:(aG C μ1 st.hp w').Freed ⟨prs,false,match S.fresh with|true=>false|false=>true,false⟩ st.hp (aG C' μ' (S.h1 x y) w'):=by
     refine⟨?_,k2,k3,rfl,?_⟩
     .intro hlo;have hfr:S.fresh=false:=by
       cases e:S.fresh with
       |true=>rw[e]at hlo; cases hlo
       |false=>rfl
      refine⟨?_,λ_ _=>rfl⟩;intro b hb;refine⟨hb.1,?_,?_,hb.2.2.2⟩
      .rcases hb.2.1 with h1|h1|h1
       .exact .inl ⟨hfr,h1⟩
       .exact .inr (.inl h1)
       .exact .inr (.inr h1)
      .intro i o' c' hg hm;obtain⟨m,o,_,ho,e,_⟩:=k1 i o' hg;rw[e]at hm;exact hb.2.2.1 m o c' ho hm
     .intro id o b c hn hg hm hkp;have hm':μ1 id=some (b,c):=hm;refine⟨hh.lt hg hm',?_,?_,hh.obj.plain hg hm' hn⟩
      .rcases hh.mine id o b c hg hm' with h1|h1
       .exact .inr (.inl h1)
       .exact .inr (.inr h1)
      .intro i o' c2 hg' hm2;obtain⟨m,oi,hp1,ho,e,_⟩:=k1 i o' hg';rw[e]at hm2;have:=hh.inj _ _ _ _ _ _ _ hg ho hm' hm2
       grind[kept,Keep.keep]
    have hsb:∀s t vs,sub ⟨prs,false,match S.fresh with|true=>false|false=>true,false⟩ st.hp 200 s t->R (aG C μ1 st.hp w') s vs->R (aG C' μ' (S.h1 x y) w') t vs:=λs t vs=>lF hF hh.obj 200 s t vs;refine⟨y,μ',hpost,?_,hsb _ _ _ hs1 hR1,hkd⟩;refine⟨⟨(by grind),?_⟩,?_,?_,(by grind),k4,k5,Tu (C:=C) hpin hk1 (A2 hpi) hh.pin k2 k3 k9,hh.frm,sub_pos hh hk1 k1⟩
    .intro i o' hg;obtain⟨m,o,_,ho,e,hso⟩:=k1 i o' hg;obtain⟨b,cp,z,e1,e2,e3⟩:=hh.obj.obj m o ho;exact⟨b,cp,z,e.trans e1,e2,xX hF.le hsb (by grind) hso e3⟩
    .intro i i' o1 o2 b c1 c2 g1 g2 m1 m2;obtain⟨d1,p1,q1,ho1,e1,_⟩:=k1 i o1 g1;obtain⟨d2,p2,q2,ho2,e2,_⟩:=k1 i' o2 g2;rw[e1]at m1;rw[e2]at m2;have:=hh.inj _ _ _ _ _ _ _ ho1 ho2 m1 m2
     grind
    .intro i o' b c hg hm;obtain⟨d,o,_,ho,e,_⟩:=k1 i o' hg;rw[e]at hm;exact hh.mine _ _ _ _ ho hm
theorem aO.nil:aO P []:=λf S h=>by cases h
theorem aO.p{f:Nat}{S:Spec}{r:List (Nat×fV)}(h:S.Ok P f)(hr:aO P r):aO P ((f,.p S)::r):=by
 intro g T e;rw[get?_cons]at e;split at e
 .rename_i hh; cases e; subst hh; exact h
 .exact hr g T e
theorem aO.o{f:Nat}{r:List (Nat×fV)}(hr:aO P r):aO P ((f,.own)::r):=by
 intro g T e;rw[get?_cons]at e;split at e
 .rename_i hh; cases e; trivial
 .exact hr g T e
theorem aO.y{f:Nat}{S:rW}{r:List (Nat×fV)}(h:S.Ok P f)(hr:aO P r):aO P ((f,.y S)::r):=by
 intro g T e;rw[get?_cons]at e;split at e
 .rename_i hh; cases e; subst hh; exact h
 .exact hr g T e
theorem aO.m{f:Nat}{S:bC}{r:List (Nat×fV)}(h:S.Ok P f)(hr:aO P r):aO P ((f,.m S)::r):=by
 intro g T e;rw[get?_cons]at e;split at e
 .rename_i hh; cases e; subst hh; exact h
 .exact hr g T e
end
end Go.Eng
end
section
set_option maxHeartbeats 10000000
open Go Go.Eng Go.Proofs
set_option maxRecDepth 100000
namespace L3
def Bq(f:Nat->Int)(v:Int)(n:Nat):Int:=match (List.range n).find? (λi=>decide (v=f i)) with
 |some i=>i
 |none=>-1
theorem aBc{f:Nat->Int}{v:Int}{n k:Nat}(hk:k<n)(he:v=f k)(h:∀j,j<k->v≠f j):Bq f v n=k:=by
 grind[Bq,List.find?_range_eq_some]
theorem aBe{f:Nat->Int}{v:Int}{n:Nat}(h:∀j,j<n->v≠f j):Bq f v n=-1:=by
 grind[Bq]
theorem pC{f:Nat->Int}{v:Int}{n:Nat}:decide (Bq f v n>=0)=decide (∃i,i<n/\f i=v):=by
 rw[bH,decide_eq_true_iff,decide_eq_true_iff];unfold Bq
 grind
def Em:SV->Option (Nat×(Nat->Int))
 |.slice _ n enc=>some (n,λi=>match enc i with
  |.cons (.int _ x) _=>x
  |_=>0)
 |.slit _ els=>some (els.len,λi=>match mO els i with
  |.cons (.int _ x) _=>x
  |_=>0)
 |.nilsl=>some (0,λ_=>0)
 |_=>none
theorem sub_one(k:Keep)(hp:List (Nat×aL))(m:Nat)(q:IntKind)(x:Int):sub k hp (m+3) (.cons (.int q x) .nil) (.cons (.int q x) .nil):=⟨⟨rfl,rfl⟩,trivial⟩
def g154:List Nat:=[7,9,1,0,16,5,8,4]
def c154:aY :=
 .seq (.region g154 [(zo 4 (.move (cj 0)))]) (.seq (.seq (.region g154 [(mv 6 0),(zo 7 (.lenSl (.s 6))),(zo 8 (.move (cj 0)))]) (.block 0 (.loop 0 [9,10,5,11,12,13,14,15,16,17,4,18,8] (.seq (.region g154 [(zo 9 (.bin (.lss) (.s 8) (.s 7)))]) (.seq (.cond (.s 9) .skip (.exit 0)) (.seq (.block 1 (.seq (.region g154 [(mv 10 8),(mv 5 10)]) (.seq (.region g154 [(mv 11 1),(mv 12 0),(mv 13 5),(zo 14 (.idxSl 1 (.s 12) (.s 13))),(ld 15 14),(zo 16 (.bin (.eql) (.s 11) (.s 15)))]) (.cond (.s 16) (.seq (.region g154 [(mv 17 5),(mv 4 17)]) .ret) .skip)))) (.region g154 [(zo 18 (.bin (.add) (.s 8) (cj 1))),(mv 8 18)]))))))) (.seq (.region g154 [(zo 4 (.move (cj (-1))))]) .ret))
theorem e154:bO Tryz.prog 154 g154 [] [] []=some (c154,[.slot 4],19):=by kernel_rfl
def aBu:Eng.Spec where
 X:=Nat×(Nat->Int)×Int
 args:=λx=>.cons (.slice 1 x.1 λi=>.cons (.int .i64 (x.2.1 i)) .nil) (.cons (.int .i64 x.2.2) .nil)
 pre:=λx=>x.1<=1000000
 res:=λx=>.int .i64 (Bq x.2.1 x.2.2 x.1)
 inst:=λs=>match s with
  |.cons l (.cons (.int _ v) _)=>match Em l with
   |some (n,f)=>some (n,f,v)
   |none=>none
  |_=>none
theorem aBv:aBu.Ok Tryz.prog 154:=by
 refine Eng.Spec.uA e154 .nil (λ_=>[]) (λ_ _=>aO.nil) ?_;rintro⟨n,f,v⟩ (hn:n<=1000000);refine⟨trivial,?_⟩;refine⟨⟨Nat,λk=>k<=n/\∀j,j<k->v≠f j,λk=>[(8,.int .i64 (k:Int))],λ_=>[],λk=>n-k⟩,0,⟨aS _,(by grind)⟩,?_,?_⟩
 .repeat' (first|apply aA|exact trivial|exact rfl|exact λ(j:Nat) (hj:j<_)=>Or.inl (sub_one _ _ _ _ _)|fail)
 rintro(k:Nat) ⟨(hk:k<=n),(hf:∀j,j<k->v≠f j)⟩;repeat' (first|refine aA ?_ ?_)
 .refine λ(hg:decide ((k:Int)<(n:Int))=true)=>?_;have h1:(k:Int)<(n:Int):=of_decide_eq_true hg;have h0:(0:Int)<=(k:Int):=by omega
  have b1:-9223372036854775808<=(k:Int)+1:=by omega
  have b2:(k:Int)+1<=9223372036854775807:=by omega
  have hkl:k<n:=by omega
  repeat' (first|refine aA ?_ ?_)
  .exact h0
  .exact h1
  .refine λ(hv:decide (v=f (k:Int).toNat)=true)=>?_;have e:(k:Int)=Bq f v n:=(aBc hkl (of_decide_eq_true hv) hf).symm;repeat' (first|apply aA|exact rfl|exact e)
  .refine λ(hv:decide (v=f (k:Int).toNat)=false)=>?_;have hne:v≠f k:=of_decide_eq_false hv;repeat' (first|refine aA ?_ ?_)
   .exact b1
   .exact b2
   refine aB (k+1) ?_;repeat' (first|apply aA|exact trivial|exact rfl)
   .exact hkl
   .grind
   .exact λ(j:Nat) (hj:j<_)=>Or.inl (sub_one _ _ _ _ _)
   grind
 .refine λ(hg:decide ((k:Int)<(n:Int))=false)=>?_;have h1:¬(k:Int)<(n:Int):=of_decide_eq_false hg;have hkl:k=n:=by omega
  subst hkl;have e:-1=Bq f v k:=(aBe hf).symm;repeat' (first|apply aA|exact rfl|exact e)
def g137:List Nat:=[0,1,4]
def c137:aY :=
 .seq (.region g137 [(zo 4 (.move cF))]) (.seq (.region g137 [(mv 5 0),(mv 6 1),(zo 7 (.call (.c (.fn 154)) [.s 5,.s 6])),(zo 8 (.bin (.geq) (.s 7) (cj 0))),(mv 4 8)]) .ret)
theorem e137:bO Tryz.prog 137 g137 [] [] []=some (c137,[.slot 4],9):=by kernel_rfl
def aD9:Eng.Spec where
 X:=Nat×(Nat->Int)×Int
 args:=λx=>.cons (.slice 1 x.1 λi=>.cons (.int .i64 (x.2.1 i)) .nil) (.cons (.int .i64 x.2.2) .nil)
 pre:=λx=>x.1<=1000000
 res:=λx=>.bool (decide (∃i,i<x.1/\x.2.1 i=x.2.2))
 inst:=aBu.inst
theorem aAw:aD9.Ok Tryz.prog 137:=by
 refine Eng.Spec.uA e137 .nil (λ_=>[(154,.p aBu)]) (λ_ _=>aO.p aBv aO.nil) ?_;rintro⟨n,f,v⟩ (hn:n<=1000000);refine⟨trivial,?_⟩;have e:decide (Bq f v n>=0)=decide (∃i,i<n/\f i=v):=pC;repeat' (first|apply aA|exact trivial|exact rfl|exact λ(j:Nat) (hj:j<_)=>Or.inl (sub_one _ _ _ _ _)|exact hn|exact e)
end L3
end
section
namespace Go.Eng
open Go Go.RowKit
noncomputable def Za (T:Tb) (l:List eJ):List Nat->St->(St->Prop)->Prop :=
 @List.rec eJ (λ_=>List Nat->St->(St->Prop)->Prop) (λ_ st k=>k st)
  (λo _ ih lab st k =>
   match o.guard with
   |none=>evO T st o.op λs st'=>Fc o.dst lab s st' λst''=>ih lab st'' k
   |some (d0,w) =>
    bif Gn T (some (d0,w)) st o.op then
     bif J2 (d0::lab) o.dst then False else
     nJ st.fr 10 d0 w (evE T (some (d0,w)) st (λs st'=>stF st' λst'=>Fc o.dst (d0::lab) s st' λst''=>ih (d0::lab) st'' k) o.op)
      (Fc o.dst (d0::lab) (.tup .nil) st λst''=>ih (d0::lab) st'' k)
    else
    match o.dst with
    |none=>False
    |some d=>bif dU (d0::lab) d then False else
     match evP T.fs (some (d0,w)) st o.op with
     |.fail=>(iX st.fr 10 d0 w->False)/\stP st λfr hp nx=>ih (d0::lab) ⟨(d,.gd d0 w .junk)::fr,hp,nx⟩ k
     |.ok v=>dJ v λv=>stP st λfr hp nx=>ih (d0::lab) ⟨(d,.gd d0 w v)::fr,hp,nx⟩ k
     |.side p v=>(iX st.fr 10 d0 w->p)/\dJ v λv=>stP st λfr hp nx=>ih (d0::lab) ⟨(d,.gd d0 w v)::fr,hp,nx⟩ k) l
theorem Rq(T:Tb):∀l,Za T l=uP T l:=by
 intro l;induction l with
 |nil=>rfl
 |cons o r ih =>
  funext lab st k;rw[uP];rw[<- ih];rfl
noncomputable def aEj (T:Tb) (t:fW):List (Nat×SV)->List (Nat×aL)->Nat->(St->Prop)->Prop :=
 @fW.rec (λ_=>List (Nat×SV)->List (Nat×aL)->Nat->(St->Prop)->Prop) (λfr hp nx k=>k ⟨fr,hp,nx⟩) (λ_ _ _ _=>True)
  (λ_ o _ ih fr hp nx k=>match o.dst with
   |none=>False
   |some d=>match o.guard with
    |none=>match evP T.fs none ⟨fr,hp,nx⟩ o.op with
     |.fail=>False
     |.ok v=>kG v λv=>ih ((d,v)::fr) hp nx k
     |.side p v=>p/\kG v λv=>ih ((d,v)::fr) hp nx k
    |some (d0,w)=>match evP T.fs (some (d0,w)) ⟨fr,hp,nx⟩ o.op with
     |.fail=>(iX fr 10 d0 w->False)/\ih ((d,.gd d0 w .junk)::fr) hp nx k
     |.ok v=>dJ v λv=>ih ((d,.gd d0 w v)::fr) hp nx k
     |.side p v=>(iX fr 10 d0 w->p)/\dJ v λv=>ih ((d,.gd d0 w v)::fr) hp nx k)
  (λ_ o stab _ _ ih1 ih2 fr hp nx k =>
   (match o.guard with
    |none=>evE T none ⟨fr,hp,nx⟩ (λs st'=>stK st' λhp' nx'=>sW T.fs fr hp nx hp' nx' stab/\xV o.dst s fr λfr'=>ih1 fr' hp' nx' k) o.op
    |some (d0,w)=>nJ fr 10 d0 w (evE T (some (d0,w)) ⟨fr,hp,nx⟩ (λs st'=>stK st' λhp' nx'=>sW T.fs fr hp nx hp' nx' stab/\xV o.dst s fr λfr'=>ih1 fr' hp' nx' k) o.op)
      (xV o.dst (.tup .nil) fr λfr'=>ih1 fr' hp nx k)) /\
   ih2 fr hp nx k) t
theorem Wj(T:Tb):∀t,aEj T t=evD T t:=by
 intro t;induction t with
 |done=>rfl
 |none=>rfl
 |pure i o r ih=>funext fr hp nx k; rw[evD,<- ih]; rfl
 |eff i o s a b ih1 ih2=>funext fr hp nx k; rw[evD,<- ih1,<- ih2]; rfl
noncomputable def aA8 (c:aY):Tb->St->(vF->St->Prop)->Prop :=
 @aY.rec (λ_=>Tb->St->(vF->St->Prop)->Prop)
  (λ_ st k=>k .normal st)
  (λkeep ops T st k=>Za T ops [] st λst'=>match st' with
   | ⟨fr0,hp,nx⟩=>pK fr0 keep λfr=>k .normal ⟨fr,hp,nx⟩)
  (λkeep t T st k=>match st with
   | ⟨fr,hp,nx⟩=>aEj T t fr hp nx λst'=>match st' with
    | ⟨fr0,hp,nx⟩=>pK fr0 keep λfr=>k .normal ⟨fr,hp,nx⟩)
  (λ_ _ iha ihb T st k=>iha T st λe st' =>
   match e with
   |.normal=>ihb T st' k
   |.exit id=>k (.exit id) st'
   |.ret=>k .ret st')
  (λc _ _ iha ihb T st k =>
   match c with
   |.c (.bool true)=>iha T st k
   |.c (.bool false)=>ihb T st k
   |.c _=>False
   |.s n=>match look st.fr n with
    |.bool p=>(p=true->iha T st k)/\(p=false->ihb T st k)
    |_=>False)
  (λid _ iha T st k=>iha T st λe st' =>
   match e with
   |.normal=>k .normal st'
   |.exit j=>bif Nat.beq j id then k .normal st' else k (.exit j) st'
   |.ret=>k .ret st')
  (λ_ asg _ iha T st k =>
   ∃V:Inv,∃x:V.X,V.I x/\mP T.bnd asg st (V.fr x) (V.hp x) (λh=>lI T.np T.bnd st h) /\
    ∀x,V.I x->mP T.bnd asg st (V.fr x) (V.hp x) λh=>stF h λh=>iha T h λe st' =>
     match e with
     |.normal=>∃x',V.I x'/\mP T.bnd asg st (V.fr x') (V.hp x') (λh'=>lI T.np T.bnd st' h')/\V.meas x' < V.meas x
     |.exit id=>k (.exit id) st'
     |.ret=>k .ret st')
  (λid _ st k=>k (.exit id) st)
  (λ_ st k=>k .ret st)
  (λ_ asg _ iha T st k =>
   ∃V:Inv,(iha T st λe st' =>
    match e with
    |.normal=>∃x,V.I x/\mP T.bnd asg st (V.fr x) (V.hp x) (λh=>lI T.np T.bnd st' h)
    |.exit id=>k (.exit id) st'
    |.ret=>k .ret st') /\
   ∀x,V.I x->mP T.bnd asg st (V.fr x) (V.hp x) λh=>stF h λh=>k .normal h)
  (λ_ f gid _ gn ps _ _ ihg iha ihb T st k =>
   match gx none st.fr f with
   |.fn kf caps=>bif Nat.beq kf gid && Nat.blt kf FM then bif Nat.blt st.nx FB then
     match st with
     | ⟨fr,hp,nx⟩=>nH (.cons (.yield nx) caps) gn /\
      ihg
       ⟨T.fs,(T.dep,λid np bnd dep args hp' nx' K =>
        match get? hp' id with
        |some (.hid l 0)=>bif Nat.beq l T.dep then
          wN ps args fr λfr1=>iha ⟨T.fs,T.ys,np,bnd,dep⟩ ⟨fr1,hp',nx'⟩ λe st1 =>
           match e with
           |.normal=>match st1 with
            | ⟨fr2,hp2,nx2⟩=>match get? hp2 id with
             |some (.hid l 0)=>bif Nat.beq l T.dep then
               oP hp2 id (.hid T.dep 1) λhp3=>ihb ⟨T.fs,T.ys,np,bnd,dep⟩ ⟨fr2,hp3,nx2⟩ λe st2 =>
                match st2 with
                | ⟨_,hp4,nx4⟩=>match get? hp4 id with
                 |some (.hid l 1)=>bif Nat.beq l T.dep then oP hp4 id (.hid T.dep (E8 e)) λhp5=>K (uU e) hp5 nx4 else False
                 |_=>False
              else False
             |_=>False
           |_=>False
         else False
        |_=>False)::T.ys,eT hp,nx+1,T.dep+1⟩
       ⟨nN (.cons (.yield nx) caps) 0,(nx,.hid T.dep 0)::hp,nx+1⟩ λe st' =>
        match e with
        |.exit _=>False
        |_=>match st' with
         | ⟨_,hp',nx'⟩=>bif nP T.dep (drop? hp' nx) then
          match get? hp' nx with
          |some (.hid l pd)=>bif Nat.beq l T.dep then
            match pd with
            |0=>k .normal ⟨fr,drop? hp' nx,nx'⟩
            |1=>False
            |2=>k .ret ⟨fr,drop? hp' nx,nx'⟩
            |n+3=>k (.exit n) ⟨fr,drop? hp' nx,nx'⟩
           else False
          |_=>False
         else False
    else False else False
   |_=>False)
  (λf ps _ _ iha ihb T st k =>
  match gx none st.fr f with
  |.fn kf caps=>bif Nat.blt kf FM && Nat.blt st.nx FB then
    match get? T.fs kf with
    |some (.y S)=>match st with
     | ⟨fr,hp,nx⟩=>bif hid0s hp then
       ∃x:S.X,∃V:Nr,Jk hp (S.F0 x)/\S.pre x/\sub .y ((nx,.hid T.dep 0)::hp) 200 caps (S.args x)/\qM (S.F0 x)/\(∀z,S.post x z->qM (S.F1 x z)) /\
        (∀v,(pR hp (V.hp v) && pR (V.hp v) hp && nP T.dep (V.hp v) && Cs nx (V.hp v))=true) /\
        (∀g,∃v,V.I 0 v/\iF (fL ((nx,.hid T.dep 0)::hp) 0 (.fam (cJ g))) λh0=>iF ((0,.fam (cJ g))::(nx,.hid T.dep 0)::V.hp v) λh1 =>
         lI (eT hp) (nx+1) ⟨[],h0,nx+1⟩ ⟨[],h1,V.nx⟩) /\
        (∀i v g item,V.I i v->(S.items x)[i]?=some item->isL item=true/\iF ((0,.fam (cJ g))::(nx,.hid T.dep 0)::V.hp v) λh0 =>
         (λ(id:Nat) (np:List Nat) (bnd dep:Nat) (args:SV) (hp':List (Nat×aL)) (nx':Nat) (K:Bool->List (Nat×aL)->Nat->Prop) =>
          match get? hp' id with
          |some (.hid l 0)=>bif Nat.beq l T.dep then
            wN ps args fr λfr1=>iha ⟨T.fs,T.ys,np,bnd,dep⟩ ⟨fr1,hp',nx'⟩ λe st1 =>
             match e with
             |.normal=>match st1 with
              | ⟨fr2,hp2,nx2⟩=>match get? hp2 id with
               |some (.hid l 0)=>bif Nat.beq l T.dep then
                 oP hp2 id (.hid T.dep 1) λhp3=>ihb ⟨T.fs,T.ys,np,bnd,dep⟩ ⟨fr2,hp3,nx2⟩ λe st2 =>
                  match st2 with
                  | ⟨_,hp4,nx4⟩=>match get? hp4 id with
                   |some (.hid l 1)=>bif Nat.beq l T.dep then oP hp4 id (.hid T.dep (E8 e)) λhp5=>K (uU e) hp5 nx4 else False
                   |_=>False
                else False
               |_=>False
             |_=>False
           else False
          |_=>False) nx (eT h0) V.nx (T.dep+1) item h0 V.nx λgo hp' nx'=>go=true/\∃v',V.I (i+1) v'/\iF ((0,.fam (cJ g))::(nx,.hid T.dep 0)::V.hp v') λh1 =>
           lI (eT hp) (nx+1) ⟨[],hp',nx'⟩ ⟨[],h1,V.nx⟩) /\
        ∀z v,S.post x z->V.I (S.items x).length v->iF ((0,.fam (S.F1 x z))::V.hp v) λh1=>k .normal ⟨fr,h1,V.nx⟩
      else False
    |_=>False
   else False
  |_=>False) c
theorem Lo:∀c,aA8 c=evC c:=by
 intro c;induction c with
 |skip=>rfl
 |region keep ops=>funext T st k; rw[evC,<- Rq]; rfl
 |drawn keep t=>funext T st k; rw[evC,<- Wj]; rfl
 |seq a b iha ihb=>funext T st k; rw[evC,<- iha,<- ihb]; rfl
 |cond c a b iha ihb=>funext T st k; rw[evC.eq_def]; simp only[]; rw[<- iha,<- ihb]; rfl
 |block id a iha=>funext T st k; rw[evC,<- iha]; rfl
 |loop i asg a iha=>funext T st k; rw[evC,<- iha]; rfl
 |exit id=>rfl
 |ret=>rfl
 |join i asg a iha=>funext T st k; rw[evC,<- iha]; rfl
 |range i f gid g gn ps a b ihg iha ihb=>funext T st k; rw[evC,<- ihg,<- iha,<- ihb]; rfl
 |rangeY f ps a b iha ihb=>funext T st k; rw[evC,<- iha,<- ihb]; rfl
noncomputable def Ds (np:List Nat) (tab:List (Nat×fV)) (sc:aY) (res:List lL) (args:SV) (hp:List (Nat×aL)) (nx:Nat) (K:SV->St->Prop):Prop :=
 aA8 sc ⟨tab,[],np,0,0⟩ ⟨nN args 0,hp,nx⟩ λe st =>
  match e with
  |.exit _=>False
  |_=>Dy st res λl=>K (yD l) st
noncomputable def aEk (tab:List (Nat×fV)) (sc:aY) (res:List lL) (fresh:Bool) (args want:SV):Prop :=
 Ds [] tab sc res args [] 0 λsv st=>sub (match fresh with|true=>.strict|false=>.free) st.hp 200 sv want
theorem Cb{np:List Nat}{tab:List (Nat×fV)}{sc:aY}{res:List lL}{args:SV}{hp:List (Nat×aL)}{nx:Nat}{K:SV->St->Prop}(h:Ds np tab sc res args hp nx K):Lp np tab sc res args hp nx K:=by
 unfold Ds at h;rw[Lo]at h;exact h
def rC:Nat->SV->Bool
 |0,_=>false
 |_+1,.int ..=>true
 |_+1,.bool ..=>true
 |_+1,.str ..=>true
 |_+1,.nil=>true
 |n+1,.cons h t=>rC n h && rC n t
 |_+1,_=>false
theorem U9(k:Keep)(hp:List (Nat×aL)):∀(n:Nat) (s:SV),rC n s=true->sub k hp n s s:=by
 intro n;induction n with
 |zero=>intro s h; cases h
 |succ n ih =>
  intro s h;cases s with
  |cons a b =>
   simp only[rC,aI]at h;exact⟨ih a h.1,ih b h.2⟩
  |int=>exact⟨rfl,rfl⟩
  |bool=>rfl
  |str=>rfl
  |nil=>trivial
  |_=>cases h
theorem lz{k:Keep}{hp:List (Nat×aL)}{m n:Nat}{f:Nat->SV}(h:∀j,rC m (f j)=true):∀j,j<n->lM k (sub k hp m) (f j) (f j):=λj _=>Or.inl (U9 k hp m _ (h j))
theorem Spec.okR{P:Program}{f:Nat}{S:Spec}{G joins hint:List Nat}{rg:List (Nat×Nat×aY×Nat)}{sc:aY}{res:List lL}{n:Nat}(hc:bO P f G joins hint rg=some (sc,res,n))(hrg:lT P rg)
  (tab:S.X->List (Nat×fV)) (htab:∀x,S.pre x->aO P (tab x))
  (h:∀x,S.pre x->nH (S.args x) n/\aEk (tab x) sc res S.fresh (S.args x) (S.res x)):S.Ok P f :=
 Spec.uA hc hrg tab htab λx hx=>⟨(h x hx).1,Cb (h x hx).2⟩
theorem bC.okR{P:Program}{f:Nat}{S:bC}{G joins hint:List Nat}{rg:List (Nat×Nat×aY×Nat)}{sc:aY}{res:List lL}{n:Nat}(hc:bO P f G joins hint rg=some (sc,res,n))(hrg:lT P rg)
  (tab:S.X->List (Nat×fV)) (htab:∀x,S.pre x->aO P (tab x))
  (h:∀x,S.pre x->nH (S.args x) n/\Ds (upto S.nx0) (tab x) sc res (S.args x) (S.h0 x) S.nx0 λsv st=>∃y,S.post x y/\Kz (upto S.nx0) S.fresh sv st (S.res x y) (S.h1 x y) S.nx1):S.Ok P f :=
 bC.uA hc hrg tab htab (by grind[Cb])
end Go.Eng
end
section
set_option maxHeartbeats 10000000
namespace Go.Eng
open Go Go.RowKit
def Spec.mof(S:Spec)(Y:Type)(post:S.X->Y->Prop)(res:S.X->Y->SV):bC :=
 { X:=S.X,Y:=Y,args:=S.args,pre:=S.pre,h0:=λ_=>[],nx0:=0,post:=post,res:=res,h1:=λ_ _=>[],nx1:=0,fresh:=S.fresh }
theorem Spec.jW{P:Program}{f:Nat}{S:Spec}(h:S.Ok P f){Y:Type}{post:S.X->Y->Prop}{res:S.X->Y->SV}(hy:∀x,S.pre x->∃y,post x y/\S.res x=res x y):(S.mof Y post res).Ok P f:=by
 refine⟨h.call,?_⟩;intro x w μ vs T U hU hg hh hp hR;replace hh:bD (dE w T U μ 0) μ [] 0 w:=hh;replace hR:R (aG (dE w T U μ 0) μ [] w) (S.args x) vs:=hR;have hno:∀id p,μ id≠some p:=by
  intro id p e;by_cases hn:id<FB
  .exact absurd (hh.nx _ _ e hn) (cO _)
  .obtain ⟨o,ho⟩:=hh.fam _ _ e (bJ.1 hn)
   grind[sC]
 have hU':∀b,(aG (dE w T U μ 0) μ [] w).U b->b<w.heap.size/\Plain w b:=λb hb=>⟨hb.1,hb.2.2.2⟩;have hR':R (iV (aG (dE w T U μ 0) μ [] w).U w) (S.args x) vs :=
  eW (E:=aG (dE w T U μ 0) μ [] w) (E':=iV (aG (dE w T U μ 0) μ [] w).U w) ⟨⟨λ_ hb=>hb,λ_ _=>rfl⟩,λid p e=>absurd e (hno id p)⟩ hR
 obtain⟨y,py,ey⟩:=hy x hp;refine(h.does x w vs _ hU' hg.gok hp hR').mono ?_;intro e w' he;cases e with
 |returned v =>
  obtain⟨k1,k2⟩:=he;rw[ey]at k1;refine⟨y,μ,py,?_,?_,Kd.jR k2⟩
  .refine ⟨⟨λid o e=>(by cases e),λid o e=>?_⟩,λi i' o o' b c c' e=>?_,λi o b c e=>?_,λi o e=>(by cases e),hh.nx,hh.fam,λ_ _ e=>e,⟨k2.os,k2.tape,k2.output,k2.size,λb hb _=>k2.block b hb,k2.drawn⟩,λi p q _ _ g=>(by change hget [] i=some _ at g; rw[sC]at g; cases g)⟩
   .change hget [] id=some o at e
    grind[sC]
   .simp [*]
   .change hget [] i=some o at e;rw[sC]at e; cases e
  .refine eW (E:=iV (Kk S.fresh (aG (dE w T U μ 0) μ [] w).U w w') w') (E':=aG (dE w T (Ufresh S.fresh U) μ 0) μ [] w') ⟨⟨?_,λ_ _=>rfl⟩,(by grind)⟩ k1;intro b hb;rcases hb with⟨hf,hb⟩|⟨hb1,hb2,hb3⟩
   .refine ⟨bM hb.1 k2.size,?_,(by grind),λds e=>hb.2.2.2 ds ((k2.block b hb.1).symm.trans e)⟩;rcases hb.2.1 with h1|h1|h1
    .exact .inl ⟨hf,h1⟩
    .exact .inr (.inl h1)
    .exact .inr (.inr h1)
   .exact ⟨hb2,.inr (.inr hb1),(by grind),hb3⟩
 |panicked c=>exact he
 |outgrown=>exact he
end Go.Eng
end
