/- A part of the proof. -/
import Derived.Test.YtpiolkcdfgiefaaGreatDoorEngU
section
namespace Go.Eng
open Go Go.RowKit
variable {P:Program}
theorem Nu{E:Env}{t:Array Value}:∀{args:SV} {vs:List Value} (n:Nat),R E args vs->∀s,fJ E t (look (nN args n) s) (if n<=s then vs.getD (s-n) undef else undef)\/look (nN args n) s=.junk:=by
 intro args;induction args with
 |cons h r _ ihr =>
  intro vs n hR s;simp only[R]at hR;obtain⟨v,xs,rfl,h1,h2⟩:=hR;simp only[nN];rw[iC];split
  .rename_i e;subst e;refine .inl ?_;simp only[aN,if_true,Nat.sub_self,List.getD_cons_zero];cases h with
   |gd d w x=>exact⟨v,rfl⟩
   |_=>exact h1
  grind
 |_=>intro vs n _ s; exact .inr rfl
theorem B2:∀(args:SV) (n:Nat),gR (nN args n) []:=by
 intro args;induction args with
 |cons h r _ ihr =>
  intro n s d w x e;simp only[nN]at e;rw[iC]at e;split at e
  .cases h<;>simp[unlab,wB]at e
  .exact ihr _ _ _ _ _ e
 |_=>intro n s d w x e; simp[nN,look,get?]at e
theorem Io{E:Env}:∀{args:SV} {n:Nat} {vs:List Value},nH args n->R E args vs->vs.length<=n:=by
 intro args;induction args with
 |nil=>grind[R]
 |cons h r _ ihr =>
  intro n vs ho hR;cases n with
  |zero=>exact ho.elim
  |succ n =>
   simp only[R]at hR;obtain⟨v,xs,rfl,_,h2⟩:=hR;simp only[bA];have:=ihr (n:=n) ho h2;omega
 |_=>intro n vs ho; cases n<;>exact ho.elim
structure La(P:Program)(C:Ctx)(ro:Option Nat)(T:Tb):Prop where
 pin:rH C
 tb:wU P C T
 base:C.w0.heap.size<=C.R0.w.heap.size
 ro:∀l,ro=some l->∃r,C.R0.w.heap[l]?=some (.loop r)
def dM(P:Program)(n:Nat)(c:Code)(sc:aY):Prop :=
 ∀(C:Ctx) (ro:Option Nat) (T:Tb) (st:St) (a:Act) (w:World) (K:vF->St->Prop) (Q:Exit->Act->World->Prop),C.n=n->La P C ro T ->
  (∀e st a w,K e st->Stands C st a w->Q (Dz e) a w)->Stands C st a w->evC sc T st K->c.wpIn (WF ro) 0 P Q a w
def xR(T:Tb)(ps:List Nat)(asgn body:aY)(fr:List (Nat×SV)):Handler:=λid np bnd dep args hp' nx' K =>
 match get? hp' id with
 |some (.hid l 0)=>bif Nat.beq l T.dep then
   wN ps args fr λfr1=>evC asgn ⟨T.fs,T.ys,np,bnd,dep⟩ ⟨fr1,hp',nx'⟩ λe st1 =>
    match e with
    |.normal=>match st1 with
     | ⟨fr2,hp2,nx2⟩=>match get? hp2 id with
      |some (.hid l 0)=>bif Nat.beq l T.dep then
        oP hp2 id (.hid T.dep 1) λhp3=>evC body ⟨T.fs,T.ys,np,bnd,dep⟩ ⟨fr2,hp3,nx2⟩ λe st2 =>
         match st2 with
         | ⟨_,hp4,nx4⟩=>match get? hp4 id with
          |some (.hid l 1)=>bif Nat.beq l T.dep then oP hp4 id (.hid T.dep (E8 e)) λhp5=>K (uU e) hp5 nx4 else False
          |_=>False
       else False
      |_=>False
    |_=>False
  else False
 |_=>False
def mA(r:Loop)(pd:Nat)(o:Obj):Prop :=
 match pd with
 |0=>o=.loop { r with state:=.ready,pending:=none }
 |1=>∃s p,o=.loop { r with state:=s,pending:=p }
 |2=>o=.loop { r with state:=.done,pending:=some .ret }
 |n+3=>o=.loop { r with state:=.done,pending:=some (.exit n) }
theorem A5{r:Loop}{pd:Nat}{o:Obj}(h:mA r pd o):∃r',o=.loop r':=by
 unfold mA at h
 grind
theorem Pl{r:Loop}{pd:Nat}{o:Obj}(h:mA r pd o):mA r 1 o:=by
 unfold mA at h;split at h
 .exact ⟨_,_,h⟩
 .exact h
 .exact ⟨_,_,h⟩
 .exact ⟨_,_,h⟩
def Am:vF->Option Code
 |.normal=>none
 |.ret=>some .ret
 |.exit id=>some (.exit id)
theorem Ot(e:vF):(Am e).isNone=uU e:=by cases e<;>rfl
theorem Jp{w:World}{b:Nat}{r r':Loop}(h:w.heap[b]?=some (.loop r)):Kd w (w.putObj b (.loop r')):=by
 have hlt:=(aU.1 h).1;refine⟨by simp,λk q e=>?_,λk ds e=>?_,λk hk hp=>?_⟩
 .grind [World.putObj_heap_same,World.putObj_heap_other]
 .grind [World.putObj_heap_other]
 .refine hp.same (World.putObj_heap_other ?_);rintro rfl;have:=hp _ h;cases this
theorem bD.turn{C:Ctx}{μ:Nat->Option (Nat×Nat)}{hp:List (Nat×aL)}{nx:Nat}{w:World}(h:bD C μ hp nx w){id b c l p l' p':Nat}{r r':Loop}(hg:get? hp id=some (.hid l p))(hm:μ id=some (b,c))(hb:w.heap[b]?=some (.loop r))
  (hx:C.H l' p' (.loop r')):(aG C μ hp w).Le (aG C μ (fL hp id (.hid l' p')) (w.putObj b (.loop r')))/\bD C μ (fL hp id (.hid l' p')) nx (w.putObj b (.loop r')):=by
 have hlt:=(aU.1 hb).1;exact h.Vo (hp':=fL hp id (.hid l' p')) (x:=.hid l' p') (id:=id) (b:=b) (c:=c) (o:=.hid l p) (y:=.loop r') (λn=>by rw[fH]; exact gU (h.obj.keys _ _ hg) rfl (by grind) n) (fI hg) (h.get hg rfl) hm
  (by simp) (λk hk=>World.putObj_heap_other hk) (World.putObj_heap_same hlt) rfl rfl rfl hx (Jp hb)
theorem bD.recAt{C:Ctx}{μ:Nat->Option (Nat×Nat)}{hp:List (Nat×aL)}{nx:Nat}{w:World}(h:bD C μ hp nx w){id b c l p:Nat}(hg:get? hp id=some (.hid l p))(hm:μ id=some (b,c)):∃o,w.heap[b]?=some o/\C.H l p o:=by
 obtain⟨b',c',x,e1,e2,e3⟩:=h.obj.obj id _ (h.get hg rfl);have e1':μ id=some (b',c'):=e1;rw[hm]at e1';cases e1';exact⟨x,e2,e3⟩
theorem Cw{n:Nat}{asgn body:Code}{asgn' body':aY}(iha:dM P n asgn asgn')(ihb:dM P n body body'){C:Ctx}{ro:Option Nat}{T:Tb}(hC:La P C ro T)(hn:C.n=n){fr:List (Nat×SV)}{a:Act}{μ:Nat->Option (Nat×Nat)}{hp:List (Nat×aL)}{nx:Nat}{w:World}
  (h:cR C μ ⟨fr,hp,nx⟩ a w) (hlab:gR fr []) {C':Ctx} (c1:C'.w0=C.w0) (c2:C'.T=C.T) (_c3:C'.U0=C.U0) (c4:C'.dep=C.dep+1) {rec:Loop} (c5:∀l p o,l<C.dep->(C'.H l p o↔C.H l p o)) (c6:∀p o,C'.H C.dep p o↔mA rec p o)
  (c7:(aG C μ hp w).LeU C'.R0) (c8:Kd w C'.R0.w) (c9:∀id p,μ id=some p->C'.pin id=some p) (_c10:w.heap.size<=C'.R0.w.heap.size) {ps:Array Tmp} (r1:rec.tmps=a.tmps) (r2:rec.params=ps) (r3:rec.assign=asgn) (r4:rec.body=body)
  (hps:pY n ps.toList=true):lA P C' C.dep (xR T ps.toList asgn' body' fr):=by
 intro C2 hx μ2 hp2 nx2 w2 id b c args vs K hh hle hkd hg hm hr hil he;have hTd:T.dep=C.dep:=hC.tb.dep;have H2:∀p o,C2.H C.dep p o↔mA rec p o:=λp o=>(hx.H C.dep p o (by omega)).trans (c6 p o);have cExt:C.Ext C':=⟨by grind[Frm.refl],(by grind),by omega,c5,h.le.trans c7,h.kd.trans c8,λid p e=>c9 id p (h.hep.pin id p e)⟩;obtain⟨o,ho,hHo⟩:=hh.recAt hg hm;have ho':o=.loop { rec with state:=.ready,pending:=none }:=(H2 0 o).1 hHo;subst ho'
 -- the caller's slots
 have hE:(aG C μ hp w).LeR (aG C2 μ2 hp2 w2) :=
  ⟨c7.trans (hx.R0.trans hle),λid p e=>hh.pin id p (hx.pin id p (c9 id p e))⟩
 have hfr:∀s,fJ (aG C2 μ2 hp2 w2) a.tmps (look fr s) (a.tmps.getD s undef):=by
  intro s;have h1:=h.fr s;have hng:∀d w x,look fr s≠.gd d w x:=λd w x e=>by have:=hlab s d w x e; simp_all[dU]
  have h2:R (aG C μ hp w) (look fr s) [a.tmps.getD s undef]:=by
   cases hl:look fr s with
   |gd d w x=>grind
   |_=>simp only[hl]at h1; exact h1
  grind[qO,eW]
 simp only[xR,hg,hTd,Nat.beq_refl,cond_true]at he;obtain⟨fr1,he1,hl1,hvs,hsz,hfr1⟩:=Hv ps.toList args fr vs a.tmps (h.size.trans hn) hps hr hlab hfr he;have hfold:((ps.zip vs.toArray).foldl (λtmps x=>tmps.setIfInBounds x.1 x.2) a.tmps)=(ps.toList.zip vs).foldl (λt p=>t.setIfInBounds p.1 p.2) a.tmps:=by
  rw[<- Array.foldl_toList];simp
 have hy:=run_yield (P:=P) (args:=vs.toArray) ho (by simp[*]);refine⟨rec.fn,_,rec.assign,rec.body,hy,?_⟩;simp only[r1,r2,r3,r4];rw[show(λ(tmps:Array Value) (x:Tmp×Value)=>match x with|(t,a)=>tmps.setIfInBounds t a)=λtmps x=>tmps.setIfInBounds x.1 x.2 from rfl,hfold]
 -- the rounds' context
 let C3:Ctx:={ C2 with n:=n,np:=eT hp2,bnd:=nx2,pin:=μ2,R0:=aG C2 μ2 hp2 w2 };let T3:Tb:=⟨T.fs,T.ys,eT hp2,nx2,C2.dep⟩;have hh3:bD C3 μ2 hp2 nx2 w2:=(hh.to (C':=C3) rfl rfl rfl (λ_ _ _ e=>e) (λ_ _ e=>e)).1;have x3:C2.Ext C3:=⟨Frm.refl _ _,λ_ h=>.inl h,aN _,λ_ _ _ _=>dF,hle,hkd,λid p e=>hh.pin id p e⟩;have hro3:∀l,some b=some l->∃r,C3.R0.w.heap[l]?=some (.loop r):=by
  intro l e;cases e;exact⟨_,ho⟩
 have hC3:La P C3 (some b) T3:=by
  refine⟨?_,⟨hC.tb.fs,?_,rfl,rfl,rfl,hC.tb.g.ext ((cExt.trans hx).trans x3)⟩,?_,hro3⟩
  .intro id p e;by_cases hlt:id<FB
   .exact .inr ⟨hh.nx id p e hlt,hlt⟩
   .left;obtain⟨o,ho⟩:=hh.fam id p e (bJ.1 hlt);simp only[hget,hlt,if_false]at ho;split at ho
    .rename_i f hf;simp only[fbase,hlt,if_false];exact uR hf
    .cases ho
  .intro lab hd hys;exact((hC.tb.ys lab hd hys).ext cExt).ext (hx.trans x3)
  .show C2.w0.heap.size<=w2.heap.size;exact hh.frm.size
 have rep1:cR C3 μ2 ⟨fr1,hp2,nx2⟩ { tmps:=(ps.toList.zip vs).foldl (λt p=>t.setIfInBounds p.1 p.2) a.tmps,defers:=[] } w2 :=
  ⟨hsz,rS.nil _ _,hfr1,hh3,Env.LeU.refl _,Kd.refl _⟩
 refine roundIn_of_wpIn (F:=Fence.wide) (n:=0) trivial ?_;refine iha C3 (some b) T3 ⟨fr1,hp2,nx2⟩ _ w2 _ _ rfl hC3 ?_ ⟨⟨μ2,rep1⟩,hl1⟩ he1;intro e st1 a1 w1 hk hs;cases e with
 |exit _=>exact hk.elim
 |ret=>exact hk.elim
 |normal =>
 obtain⟨⟨μ3,h3⟩,hl3⟩:=hs;obtain⟨fr2,hp3,nx3⟩:=st1;simp only at hk;split at hk
 .rename_i l hg3;cases hb1:Nat.beq l C.dep with
  |false=>grind
  |true =>
  have:=nbeq hb1;subst this;simp only[hb1,cond_true,rD]at hk;have hm3:μ3 id=some (b,c):=h3.hep.pin id _ hm;obtain⟨o3,ho3,hH3⟩:=h3.hep.recAt hg3 hm3;have:=(H2 0 o3).1 hH3;simp only[mA]at this;subst this;refine⟨_,run_beginRound ho3 rfl,?_⟩;obtain⟨hE4,hh4⟩:=h3.hep.turn (l':=C.dep) (p':=1) (r':={ rec with state:=.busy,pending:=none }) hg3 hm3 ho3 ((H2 1 _).2 ⟨_,_,rfl⟩);have rep4:=h3.step hE4 hh4;refine ihb C3 (some b) T3 ⟨fr2,fL hp3 id (.hid C.dep 1),nx3⟩ a1 _ _ _ rfl hC3 ?_ ⟨⟨μ3,rep4⟩,hl3⟩ hk;intro e st2 a2 w4 hk2 hs2;obtain⟨⟨μ4,h4⟩,_⟩:=hs2;obtain⟨fr5,hp4,nx4⟩:=st2;simp only at hk2;split at hk2
  .rename_i l hg4;cases hb2:Nat.beq l C.dep with
   |false=>grind
   |true =>
   have:=nbeq hb2;subst this;simp only[hb2,cond_true]at hk2;have hm4:μ4 id=some (b,c):=h4.hep.pin id _ hm;obtain⟨o4,ho4,hH4⟩:=h4.hep.recAt hg4 hm4;obtain⟨s4,p4,rfl⟩:=(H2 1 o4).1 hH4;have hrec5:C2.H C.dep (E8 e) (.loop { rec with state:=if (Am e).isNone then .ready else .done,pending:=Am e }):=by
    rw[H2];cases e<;>rfl
   obtain⟨hE5,hh5⟩:=h4.hep.turn (l':=C.dep) (p':=E8 e) hg4 hm4 ho4 hrec5;have hh5':bD C2 μ4 (fL hp4 id (.hid C.dep (E8 e))) nx4 _:=(hh5.to (C':=C2) rfl rfl rfl (λ_ _ _ e=>e) (λid p e=>hh5.pin id p (hh.pin id p e))).1;have fin:∃v w5,(Instr.endRound b (Am e)).run P w4=.ok v w5/\∃bb hp' nx' μ',v=.bool bb/\K bb hp' nx'/\(aG C2 μ2 hp2 w2).Le (aG C2 μ' hp' w5)/\bD C2 μ' hp' nx' w5:=by
    refine⟨_,_,run_endRound (Am e) ho4,uU e,fL hp4 id (.hid C.dep (E8 e)),nx4,μ4,by rw[Ot],hk2,?_,hh5'⟩;exact⟨⟨h4.le.trans hE5.toLeU,λid p e=>h4.hep.pin id p e⟩,h4.kd.trans hE5.kd,λ_ _ _ e=>e⟩
   cases e<;>exact fin
  grind
 grind
theorem Kv(n:Nat):dM P n .skip .skip:=by
 intro C ro T st a w K Q _ _ hK h he;exact wpIn_skip (hK _ _ _ _ he h)
theorem Ks(n id:Nat):dM P n (.exit id) (.exit id):=by
 intro C ro T st a w K Q _ _ hK h he;exact wpIn_exit (hK _ _ _ _ he h)
theorem Pu(n:Nat):dM P n .ret .ret:=by
 intro C ro T st a w K Q _ _ hK h he;exact wpIn_ret (hK _ _ _ _ he h)
theorem Fg{n:Nat}{G:List Nat}{id:Nat}{ops:Array Oper}{l:List eJ}(hl:lV P n ops.toList ops.toList=some l):dM P n (.region id ops false) (.region G l):=by
 intro C ro T st a w K Q hn hC hK h he;obtain⟨⟨μ,h⟩,hlab⟩:=h;subst hn;refine wpIn_region_list (Aa (C:=C) (ro:=ro) hC.tb (K:=λst'=>pK st'.fr G λfr=>K .normal ⟨fr,st'.hp,st'.nx⟩) ?_ _ l [] μ st a w hl hlab h he);intro st' μ' a' w' hk h';obtain⟨fr',hk',hlab',h''⟩:=pL h' G _ hk;exact hK _ _ _ _ hk' ⟨⟨μ',h''⟩,hlab'⟩
theorem Hz{n:Nat}{G:List Nat}{id:Nat}{hint:List Nat}{ops:Array Oper}{t:fW}(hd:B7 P n hint ops.toList=some t):dM P n (.region id ops true) (.drawn G t):=by
 intro C ro T st a w K Q hn hC hK h he;obtain⟨⟨μ,h⟩,hlab⟩:=h;subst hn;refine Ga (C:=C) (ro:=ro) hC.tb hd hlab (K:=λst'=>pK st'.fr G λfr=>K .normal ⟨fr,st'.hp,st'.nx⟩) ?_ h he;intro st' μ' a' w' hk h';obtain⟨fr',hk',hlab',h''⟩:=pL h' G _ hk;exact hK _ _ _ _ hk' ⟨⟨μ',h''⟩,hlab'⟩
theorem Fe{n:Nat}{G G':List Nat}{id:Nat}{hint:List Nat}{ops:Array Oper}{t:fW}{so:List eJ}(hd:wZ P n hint ops.toList=some (t,so)):dM P n (.region id ops true) (.seq (.drawn G' t) (.region G so)):=by
 intro C ro T st a w K Q hn hC hK h he;obtain⟨⟨μ,h⟩,hlab⟩:=h;subst hn;refine Dq (C:=C) (ro:=ro) hC.tb hd hlab (K0:=λst'=>pK st'.fr G' λfr=>uP T so [] ⟨fr,st'.hp,st'.nx⟩ λst''=>pK st''.fr G λfr=>K .normal ⟨fr,st''.hp,st''.nx⟩) (K:=λst'=>pK st'.fr G λfr=>K .normal ⟨fr,st'.hp,st'.nx⟩) ?_ ?_ h he
 .intro st' μ' a' w' hk h';obtain⟨fr',hk',hlab',h''⟩:=pL h' G _ hk;exact hK _ _ _ _ hk' ⟨⟨μ',h''⟩,hlab'⟩
 .intro st' μ' a' w' hk h';obtain⟨fr',hk',hlab',h''⟩:=pL h' G' _ hk
  grind
theorem Pv{n:Nat}{x y:Code}{x' y':aY}(ihx:dM P n x x')(ihy:dM P n y y'):dM P n (.seq x y) (.seq x' y'):=by
 intro C ro T st a w K Q hn hC hK h he;refine wpIn_seq (ihx C ro T st a w _ _ hn hC ?_ h he);intro e st' a' w' hk h';cases e with
 |normal=>exact ihy C ro T st' a' w' _ _ hn hC hK h' hk
 |exit id=>exact hK _ _ _ _ hk h'
 |ret=>exact hK _ _ _ _ hk h'
theorem Kr{n:Nat}{x:Operand}{y z:Code}{x':SX}{y' z':aY}(hx:cX x=some x')(ihy:dM P n y y')(ihz:dM P n z z'):dM P n (.cond x y z) (.cond x' y' z'):=by
 intro C ro T st a w K Q hn hC hK h he;have hv:=h;obtain⟨⟨μ,hr⟩,hlab⟩:=h;have hx:=oW (E:=aG C μ st.hp w) (a:=a) (fr:=st.fr) (g:=none) (λ_ _ e=>by cases e) hr.fr hx;simp only[evC]at he;split at he
 .have:a.eval x=.bool true:=by grind[gx,CV.sv,R]
  exact wpIn_cond_true this (ihy C ro T st a w K Q hn hC hK hv he)
 .have:a.eval x=.bool false:=by grind[gx,CV.sv,R]
  exact wpIn_cond_false this (ihz C ro T st a w K Q hn hC hK hv he)
 .exact he.elim
 .rename_i n;split at he
  .rename_i p hp;have:a.eval x=.bool p:=by grind[gx,unlab,R]
   refine wpIn_cond this ?_;cases p with
   |true=>exact ihy C ro T st a w K Q hn hC hK hv (he.1 rfl)
   |false=>exact ihz C ro T st a w K Q hn hC hK hv (he.2 rfl)
  grind
theorem Kt{n:Nat}{c:Code}{i:Nat}{asg:List Nat}{sc:aY}(ih:dM P n c sc):dM P n c (.join i asg sc):=by
 intro C ro T st a w K Q hn hC hK h he;rw[evC]at he;obtain⟨V,h1,h2⟩:=he;simp only[Fh]at h2;refine ih C ro T st a w _ Q hn hC ?_ h h1;intro e st' a' w' hk h';cases e with
 |normal =>
  obtain⟨x,hI,hh⟩:=hk;rcases xB T.bnd asg st (V.fr x) (V.hp x) with⟨y,hy⟩|hy
  .refine hK .normal y a' w' ((hy _).1 (h2 x hI)) ?_;obtain⟨⟨_,hr⟩,hl⟩:=h';have:=(hy _).1 hh;rw[hC.tb.np,hC.tb.bnd]at this;exact nF hC.pin hr hl this
  grind
 |exit id=>grind
 |ret=>grind
theorem Hy{n id:Nat}{x:Code}{x':aY}(ih:dM P n x x'):dM P n (.block id x) (.block id x'):=by
 intro C ro T st a w K Q hn hC hK h he;refine wpIn_block (ih C ro T st a w _ _ hn hC ?_ h he);intro e st' a' w' hk h';cases e with
 |normal=>exact hK _ _ _ _ hk h'
 |exit j =>
  simp only[Dz,Exit.inBlock];simp only at hk;cases hb:Nat.beq j id with
  |true =>
   rw[hb]at hk;rw[if_pos (Nat.eq_of_beq_eq_true hb)];exact hK .normal _ _ _ hk h'
  |false =>
   rw[hb]at hk;rw[if_neg (by grind[Nat.beq_refl])];exact hK (.exit j) _ _ _ hk h'
 |ret=>exact hK _ _ _ _ hk h'
section
variable {F:Fence} {P:Program} {n:Nat} {a:Act} {w:World} {Q:Exit->Act->World->Prop}
theorem mD{b:Frame}{k:List Item}{cs:List Frame}{c:Code}:step P (lone (b.atR a (.code (.scope c)::k)) cs w)=.next (lone (b.atR a (.code c::.inScope c::k)) cs w) :=
 step_lone_go (by rfl)
theorem Bv{b:Frame}{k:List Item}{cs:List Frame}{c:Code}:step P (lone (b.atR a (.inScope c::k)) cs w)=.next (lone (b.atR a k) cs w) :=
 step_lone_go (by rfl)
def aCr(Q:Exit->Act->World->Prop):Exit->Act->World->Prop
 |.goto _,_,_=>False
 |e,a,w=>Q e a w
theorem K7{c:Code}(h:c.wpIn F n P (aCr Q) a w):(Code.scope c).wpIn F n P Q a w:=by
 intro b k cs hro hb hr;have h0:(lone (b.atR a (.code (.scope c)::k)) cs w).fenced P F:=fenced_calm hb hr rfl;obtain⟨e,a₁,w₁,hq,harr⟩:=h b (.inScope c::k) cs hro hb hr;cases e with
 |normal=>exact⟨.normal,a₁,w₁,hq,.head h0 mD (StepsIn.trans harr (.one (fenced_calm hb hr rfl) Bv))⟩
 |exit id' =>
  have hx:exitTo id' (.inScope c::k)=exitTo id' k:=by simp[exitTo]
  exact⟨.exit id',a₁,w₁,hq,λk' hk=>.head h0 mD (harr.1 k' (by simp[*])),
   λhr' hk=>let ⟨k₁,h1,h2⟩:=harr.2 hr' (by simp[*]); ⟨k₁,h1,.head h0 mD h2⟩⟩
 |goto l=>exact hq.elim
 |ret=>exact⟨_,a₁,w₁,hq,.of_steps (.one h0 mD) harr⟩
 |panic ch=>exact⟨_,a₁,w₁,hq,.of_steps (.one h0 mD) harr⟩
 |outgrown=>exact⟨_,a₁,w₁,hq,.of_steps (.one h0 mD) harr⟩
end
theorem H5{n:Nat}{x:Code}{x':aY}(ih:dM P n x x'):dM P n (.scope x) x':=by
 intro C ro T st a w K Q hn hC hK h he;refine K7 (ih C ro T st a w K _ hn hC ?_ h he);intro e st' a' w' hk h';cases e with
 |normal=>exact hK .normal _ _ _ hk h'
 |exit j=>exact hK (.exit j) _ _ _ hk h'
 |ret=>exact hK .ret _ _ _ hk h'
theorem H3{n l:Nat}:dM P n (.label l) .skip:=by
 intro C ro T st a w K Q hn hC hK h he;exact wpIn_label (hK .normal _ _ _ he h)
theorem Ku{n i:Nat}{asg:List Nat}{z:Code}{z':aY}(ih:dM P n z z'):dM P n (.loop z) (.loop i asg z'):=by
 intro C ro T st a w K Q hn hC hK h he;simp only[evC,Fh]at he;obtain⟨V,x0,hI,hh,hround⟩:=he;have entry:∀(s:St) (a:Act) (w:World) (x:V.X),Stands C s a w->mP T.bnd asg st (V.fr x) (V.hp x) (λh=>lI T.np T.bnd s h)->mP T.bnd asg st (V.fr x) (V.hp x) (λh=>Stands C h a w):=by
  intro s a w x hs hk;rcases xB T.bnd asg st (V.fr x) (V.hp x) with⟨y,hy⟩|hy
  .refine (hy _).2 ?_;obtain⟨⟨_,hr⟩,hl⟩:=hs;have:=(hy _).1 hk;rw[hC.tb.np,hC.tb.bnd]at this;exact nF hC.pin hr hl this
  grind
 refine wpIn_loop_ghost (λn a w=>∃x,V.I x/\V.meas x=n/\mP T.bnd asg st (V.fr x) (V.hp x) (λh=>Stands C h a w)) (V.meas x0) ⟨x0,hI,rfl,entry _ _ _ _ h hh⟩ ?_;rintro n a w ⟨x,hI,rfl,hs⟩;obtain⟨s,hs,hev⟩:=Je hs (hround x hI);refine ih C ro T s a w _ _ hn hC ?_ hs hev;intro e st' a' w' hk h';cases e with
 |normal =>
  obtain⟨x2,h1,h2,h3⟩:=hk;exact⟨_,h3,x2,h1,rfl,entry _ _ _ _ h' h2⟩
 |exit id=>exact hK _ _ _ _ hk h'
 |ret=>exact hK _ _ _ _ hk h'
end Go.Eng
end
section
namespace Go.Eng
open Go Go.RowKit
variable {P:Program}
theorem Frm.weak{T T':Nat->Prop}{a b:World}(h:Frm T a b)(hT:∀i,T i->T' i):Frm T' a b :=
 ⟨h.os,h.tape,h.output,h.size,λi hi ht=>h.block i hi λe=>ht (hT i e),h.drawn⟩
theorem vB(st:Nat->Option Obj)(q:Nat):dX? (sS st q)=(st q).map .obj:=by
 unfold sS;cases st q<;>rfl
theorem Aj{hp:List (Nat×aL)}{st st':Nat->Option Obj}(h1:get? hp 1=some (.fam (sS st)))(n:Nat) :
  hget (fL hp 1 (.fam (sS st'))) n=if FB<=n/\n%FB=1 then (st' (n/FB-1)).map .obj else hget hp n:=by
 by_cases hn:n<FB
 .have:¬(FB<=n/\n%FB=1):=λh=>by omega
  rw[if_neg this,fF hn,fF hn,get?_putH,get?_cons];by_cases e:1=n
  .subst e;rw[if_pos rfl,h1];rfl
  .rw [if_neg e]
 .by_cases e:n%FB=1
  .rw [if_pos ⟨bJ.1 hn,e⟩];simp only[hget,hn,if_false,e,get?_putH,get?_cons,if_true,vB]
  .have:¬(FB<=n/\n%FB=1):=λh=>e h.2;rw[if_neg this];simp only[hget,hn,if_false,get?_putH,get?_cons,if_neg (fR e)]
theorem qC{hp:List (Nat×aL)}{st:Nat->Option Obj}(h1:get? hp 1=some (.fam (sS st))){n:Nat}(hn:FB<=n)(e:n%FB=1) :
  hget hp n=(st (n/FB-1)).map .obj:=by
 simp only[hget,bJ.2 hn,if_false,e,h1,vB]
theorem fb1:1<FB:=by decide
theorem bD.raw{C:Ctx}{μ:Nat->Option (Nat×Nat)}{hp:List (Nat×aL)}{nx:Nat}{W:World}(hh:bD C μ hp nx W){st:Nat->Option Obj}(h1:get? hp 1=some (.fam (sS st))) :
  ∀q o,st q=some o->W.heap[q]?=some o:=by
 intro q o hq;have hgm:hget hp (fid 1 q)=some (.obj o):=by rw[qC h1 (cQ 1 q) (gF q fb1),fE q fb1,hq]; rfl
 obtain⟨b,c,x,e1,e2,e3,e4⟩:=hh.obj.obj _ _ hgm;have e1':μ (fid 1 q)=some (b,c):=e1;have:=hh.pos _ _ _ e1' (cQ 1 q) hgm;rw[fE q fb1]at this;simp only at this;subst this;subst e3;exact e2
end Go.Eng
end
