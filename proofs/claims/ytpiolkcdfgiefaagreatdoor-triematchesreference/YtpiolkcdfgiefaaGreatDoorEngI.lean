/- A part of the proof. -/
import Derived.Test.YtpiolkcdfgiefaaGreatDoorEngH
set_option maxHeartbeats 10000000
namespace Go.Eng
open Go Go.RowKit
section
variable {P:Program} {C:Ctx} {μ:Nat->Option (Nat×Nat)} {hp:List (Nat×aL)} {w:World}
theorem xG{a:Act}{fr:List (Nat×SV)}{g:Option (Nat×Bool)}(hg:GOk g a.tmps)(hf:∀s,fJ (aG C μ hp w) a.tmps (look fr s) (a.tmps.getD s undef))
  {t:TypeId} (ht:P.underlying t=some .string) {s:List UInt8} {v:Value} (hv:v=.string ⟨s.toArray⟩) {olo ohi:Option Operand} {lo hi':Option SX} (hlo:rP olo=some lo) (hhi:rP ohi=some hi')
  {Q:SV->Prop} (he:(uQ s (ox g fr lo) (ox g fr hi')).holds Q) :
  ∃s,Q s/\∃u,(Instr.sliceAt t v (olo.map a.eval) (ohi.map a.eval) none).run P w=.ok u w/\R (aG C μ hp w) s [u]:=by
 subst hv;have B:∀{oo:Option Operand} {xx:Option SX} {k:IntKind} {m:Int},rP oo=some xx->ox g fr xx=some (.int k m)->∃o',oo=some o'/\a.eval o'=.int k m:=by
  intro oo xx k m h1 h2;cases oo with
  |none=>grind[rP,ox]
  |some o' =>
   simp only[rP,aF]at h1;obtain⟨y,h3,rfl⟩:=h1;simp only[ox,aH]at h2;have:=oW hg hf h3;rw[h2]at this;simp only[R]at this
   grind
 have N:∀{oo:Option Operand} {xx:Option SX},rP oo=some xx->ox g fr xx=none->oo=none:=by
  intro oo xx h1 h2;cases oo with
  |none=>rfl
  |some o' =>
   simp only[rP,aF]at h1;obtain⟨y,h3,rfl⟩:=h1;simp[ox]at h2
 have hsz:(⟨s.toArray⟩:ByteArray).size=s.length:=by simp[ByteArray.size]
 rw[run_sliceAt_string (P:=P) w t _ _ _ _ ht];have ex:∀x y:Nat,(⟨s.toArray⟩:ByteArray).extract x y=⟨((s.drop x).take (y-x)).toArray⟩:=by
  simp_all[Lib.extract_eq]
 unfold uQ at he;generalize hlo':ox g fr lo=LO at he;generalize hhi':ox g fr hi'=HI at he;split at he
 .have e1:=N hlo hlo';subst e1;split at he
  .have e2:=N hhi hhi';subst e2;refine⟨_,he,_,run_slice_string_all (P:=P) w t _ ht,?_⟩
   grind[R]
  .rename_i k h;obtain⟨o',rfl,e2⟩:=B hhi hhi';obtain⟨⟨h0,h1⟩,hq⟩:=he;simp only[eF,cU,e2];refine⟨_,hq,_,run_slice_string_h (P:=P) w t _ ht k h h0 (by rw[hsz]; exact h1),?_⟩
   grind[R]
  .exact he.elim
 .rename_i k l;obtain⟨o1,rfl,e1⟩:=B hlo hlo';split at he
  .have e2:=N hhi hhi';subst e2;obtain⟨⟨h0,h1⟩,hq⟩:=he;simp only[eF,cU,e1];refine⟨_,hq,_,run_slice_string_l (P:=P) w t _ ht k l h0 (by rw[hsz]; exact h1),?_⟩
   grind[R,List.take_of_length_le]
  .rename_i k2 h;obtain⟨o2,rfl,e2⟩:=B hhi hhi';obtain⟨⟨h0,h1,h2⟩,hq⟩:=he;simp only[cU,e1,e2];refine⟨_,hq,.string ((⟨s.toArray⟩:ByteArray).extract l.toNat h.toNat),?_,?_⟩
   .have eh:(h.toNat:Int)=h:=Int.toNat_of_nonneg (by omega);have hz:h<=((⟨s.toArray⟩:ByteArray).size:Int):=by omega
    simp[Instr.slice,aJ w ht,Instr.sliceBounds,run_sliceBound,h0,h1,hz,eh,(by omega:0<=h)]
   simp_all[R]
  .exact he.elim
 .exact he.elim
theorem Dr{tab:List (Nat×fV)}(ht:aO P tab)(hgv:GV w)(hH:HpR (aG C μ hp w) hp)(hw:C.w0.heap.size<=w.heap.size){f:Nat}{args:SV}{vs:List Value}(hr:R (aG C μ hp w) args vs)
  {Q:SV->Prop} (he:(I4 tab hp f args).holds Q) :
  ∃s,Q s/\(callFunc f vs.toArray).run P w=.ok (.enter f vs.toArray) w/\Calls P f vs.toArray w fun
   |.returned v,w'=>Below w.heap.size w w'/\R (aG C μ hp w') s [v]
   |_,_=>False:=by
 have hin:∀id o b c,hget hp id=some o->μ id=some (b,c)->b<w.heap.size:=by
  intro id o b c hg hm;obtain⟨b',c',y,h1,h2,_⟩:=hH.obj id o hg;have h1':μ id=some (b',c'):=h1;rw[hm]at h1';cases h1';exact(aU.1 h2).1
 have hC:∀b,(aG C μ hp w).U b->b<w.heap.size/\Plain w b:=λb hb=>⟨hb.1,hb.2.2.2⟩;unfold I4 at he;split at he
 .rename_i S hS;have hok:S.Ok P f:=ht f (.p S) hS;split at he
  .rename_i x hx;split at he
   .rename_i hfr;obtain⟨⟨hp1,hsub⟩,hq⟩:=he;refine⟨_,hq,hok.call _ _,?_⟩;have hF:(aG C μ hp w).Freed .free hp (iV (λb=>b<w.heap.size/\Plain w b) w) :=
     ⟨λ_=>⟨(by grind),λ_ _=>rfl⟩,(by grind[ren,Keep.free,get?]),(by grind[ren,Keep.free,get?]),rfl,λid o b c hn hg hm _=>⟨hin id o b c hg hm,hH.plain hg hm hn⟩⟩
    refine Calls.mono (hok.does x w vs _ (λb hb=>hb) hgv hp1 (lF hF hH _ _ _ _ hsub hr)) ?_;intro e w' h;cases e with
    |returned v =>
     refine⟨h.2,?_⟩;rw[hfr]at h;refine eW (E:=iV (Kk true _ w w') w') (E':=aG C μ hp w') ⟨⟨?_,λ_ _=>rfl⟩,(by grind)⟩ h.1;rintro b (⟨h1,_⟩|⟨h1,h2,h3⟩)
     .cases h1
     .refine ⟨h2,?_,λid o c hg hm=>?_,h3⟩
      .exact .inr (.inr (aV hw h1))
      .have:=hin id o b c hg hm; omega
    |panicked c=>exact h
    |outgrown=>exact h
   .rename_i hfr;obtain⟨⟨hp1,hsub⟩,hq⟩:=he;refine⟨_,hq,hok.call _ _,?_⟩;have hF:(aG C μ hp w).Freed .hold' hp (iV (aG C μ hp w).U w) :=
     ⟨λ_=>⟨λ_ h=>h,λ_ _=>rfl⟩,(by grind[ren,Keep.hold',get?]),(by grind[ren,Keep.hold',get?]),rfl,(by grind[kept,Keep.hold'])⟩
    refine Calls.mono (hok.does x w vs _ hC hgv hp1 (lF hF hH _ _ _ _ hsub hr)) ?_;intro e w' h;cases e with
    |returned v =>
     refine⟨h.2,?_⟩;refine eW (E:=iV (Kk S.fresh _ w w') w') (E':=aG C μ hp w') ⟨⟨?_,λ_ _=>rfl⟩,(by grind)⟩ h.1;rintro b (⟨_,h1⟩|⟨h1,h2,h3⟩)
     .exact ⟨bM h1.1 h.2.size,h1.2.1,h1.2.2.1,λds e=>h1.2.2.2 ds ((h.2.block b h1.1).symm.trans e)⟩
     .refine ⟨h2,?_,λid o c hg hm=>?_,h3⟩
      .exact .inr (.inr (aV hw h1))
      .have:=hin id o b c hg hm; omega
    |panicked c=>exact h
    |outgrown=>exact h
  .exact he.elim
 .exact he.elim
theorem Z9{E:Env}:∀{l:SV} {cs:List Value} {j:Nat},R E l cs->j<Su l->∃v,cs[j]?=some v/\R E (mO l j) [v]:=by
 intro l;induction l with
 |cons h t _ iht =>
  intro cs j hr hj;simp only[R]at hr;obtain⟨x,xs,rfl,h1,h2⟩:=hr;cases j with
  |zero=>exact⟨x,rfl,h1⟩
  |succ j=>exact iht h2 (by grind[Su])
 |_=>intro cs j _ hj; simp[Su]at hj
theorem Dt{P:Program}{E:Env}{w:World}{t e:TypeId}{n:Nat}{i:TypeInfo}{d:TypeDesc}(hs:P.underlying t=some (.array n e))(hi:P.info? e=some i)(hd:P.underlying e=some d)
  {x ix:SV} {vx vi:Value} (hx:R E x [vx]) (hj:R E ix [vi]) {c:Option Nat} (hc:∀m,c=some m->∃k,vi=.int k m) {Q:SV->Prop} (he:(I5 n i.size (mN d) c x ix).holds Q) :
  ∃s,Q s/\∃u,(Instr.index t vx vi).run P w=.ok u w/\R E s [u]:=by
 have run:∀(k:IntKind) (m:Nat) (cs:List Value) (s:SV),m<n->vi=.int k m->vx=.agg cs.toArray->(∃l,R E l (cs.drop (m*i.size))/\rd i.size (mN d) l=some s) ->
   ∃u,(Instr.index t vx vi).run P w=.ok u w/\R E s [u]:=by
  rintro k m cs s hm rfl rfl ⟨l,hl,hs'⟩;have h0:(0:Int)<=(m:Int)/\(m:Int)<(n:Int):=by omega
  unfold Instr.index;simp only[asIntOf,Sem.run_bind,Sem.run_pure,Result.andThen_ok,aJ w hs,h0,and_self,if_true,bR w hi,cM];unfold part;simp only[Sem.run_bind,mB w hd,Result.andThen_ok];unfold rd at hs';cases ha:mN d with
  |true =>
   simp only[ha]at hs';split at hs'
   .rename_i r hr';cases hs';obtain⟨t1,t2⟩:=oZ hr' hl;simp only[if_true,Sem.run_bind,bR w hi,Result.andThen_ok,Sem.run_pure];refine⟨_,rfl,?_⟩
    grind[R]
   .cases hs'
  |false =>
   simp only[ha]at hs';obtain⟨v,r,e1,hv'⟩:=vE hs' hl;have:cs[m*i.size]?=some v:=by
    have e2:(cs.drop (m*i.size))[0]?=some v:=by rw[e1]; rfl
    grind
   simp[*]
 unfold I5 at he;split at he
 .rename_i l;simp only[R]at hx;obtain⟨cs,hv,hr⟩:=hx;have hv:=aC.1 hv;split at he
  .rename_i m;obtain⟨k,hvi⟩:=hc m rfl;cases hb:Nat.blt m n with
   |false=>simp only[hb,cond_false]at he; exact he.elim
   |true =>
    simp only[hb,cond_true]at he;obtain⟨s',hs',hq⟩:=PR.qH he;exact⟨s',hq,run k m cs s' (aQ hb) hvi hv ⟨_,hP hr,hs'⟩⟩
  .split at he
   .rename_i k m;simp only[R]at hj;have hvi:=aC.1 hj;cases hb:(Nat.beq i.size 1 && !mN d) with
    |false =>
     simp only[hb,cond_false]at he;split at he
     .rename_i m';cases hb':Nat.blt m' n with
      |false=>simp only[hb',cond_false]at he; exact he.elim
      |true =>
       simp only[hb',cond_true]at he;obtain⟨s',hs',hq⟩:=PR.qH he;exact⟨s',hq,run k m' cs s' (aQ hb') hvi hv ⟨_,hP hr,hs'⟩⟩
     .exact he.elim
    |true =>
     simp only[hb,cond_true]at he;simp only[aI,bL]at hb;obtain⟨hb1,hb2⟩:=hb;have hsz:=nbeq hb1;have go:∀(s:SV) (v:Value),0<=m->m<n->cs[m.toNat]?=some v->R E s [v]->∃u,(Instr.index t vx vi).run P w=.ok u w/\R E s [u]:=by
      intro s v h0 h1 hg hs';have h0':(0:Int)<=m/\m<(n:Int):=⟨h0,h1⟩;refine⟨v,?_,hs'⟩;rw[hvi,hv];unfold Instr.index;simp only[asIntOf,Sem.run_bind,Sem.run_pure,Result.andThen_ok,aJ w hs,h0',and_self,if_true,bR w hi];simp_all[part,Sem.run_bind,mB,Result.andThen_ok]
     split at he
     .rename_i k' q f r;obtain⟨⟨h0,h1,h2⟩,hq⟩:=he;simp only[R]at hr;obtain⟨xs,rfl,_⟩:=hr;refine⟨_,hq,(by grind[cG,lD,R])⟩
     .obtain ⟨⟨h0,h1,h2⟩,hq⟩:=he
      grind[Z9]
   .exact he.elim
 .exact he.elim
theorem sU{E:Env}{ρ:Operand->Value}{f:Operand}{args:Array Operand}{ts:Array TypeId}{ty:TypeId}{k k':Nat}{a caps l:SV}{cs:List Value}(h:ρ f=fnV k cs.toArray)(hl:isL a=true)(ha:R E a (args.toList.map ρ))(hc:R E caps cs)(he:zV k a caps=some (k',l)) :
  ∃us,R E l us/\(do let d <- resolve ρ ⟨.value f,args,ts⟩ ty; invoke d.target d.args:Sem Next).run P w=(callFunc k' us.toArray).run P w:=by
 rcases Nz he with⟨h1,e1,e2⟩|⟨h1,h2,e1,e2⟩<;>rw[e1,e2]
 .refine ⟨_,C8 hl ha hc,?_⟩;have h':ρ f=.func (.func k) #[] cs.toArray:=by grind[fnV]
  have e:(args.toList.map ρ++cs).toArray=args.map ρ++cs.toArray:=by simp
  grind[resolve,Deferred.ofValue,invoke]
 .refine ⟨_,C8 h2 hc ha,?_⟩;have h':ρ f=.func (.func (k-FM)) cs.toArray #[]:=by grind[fnV]
  have e:(cs++args.toList.map ρ).toArray=cs.toArray++args.map ρ:=by simp
  grind[resolve,Deferred.ofValue,invoke]
theorem eH{s:Sem Value}{v:Value}{w':World}(h:s.run P w=.ok v w'):(do pure (Next.value (<- s)):Sem Next).run P w=.ok (.value v) w':=by
 simp[h]
def Comp(P:Program)(C:Ctx)(μ:Nat->Option (Nat×Nat))(hp:List (Nat×aL))(w:World)(Q:SV->Prop)(r:Result Next):Prop :=
 ∃s,Q s/\Does P (λv w'=>Below w.heap.size w w'/\R (aG C μ hp w') s [v]) r
theorem dQ{s:Sem Value}{Q:SV->Prop}(h:∃x,Q x/\∃u,s.run P w=.ok u w/\R (aG C μ hp w) x [u]):Comp P C μ hp w Q ((do pure (Next.value (<- s)):Sem Next).run P w):=by
 obtain⟨x,hq,u,hr,hR⟩:=h;rw[eH hr];exact⟨x,hq,Below.refl _ _,hR⟩
theorem lC{v:Value}{s:SV}{Q:SV->Prop}(hq:Q s)(hR:R (aG C μ hp w) s [v]):Comp P C μ hp w Q ((pure (Next.value v):Sem Next).run P w) :=
 ⟨s,hq,Below.refl _ _,hR⟩
theorem tD{tab:List (Nat×fV)}(htab:aO P tab)(hgv:GV w){st:St}{a:Act}(h:cR C μ st a w){g:Option (Nat×Bool)}(hg:GOk g a.tmps){o:Oper}{so:SOp}
  (hc:cOp P o.op=some so) {Q:SV->Prop} (he:(evP tab g st so).holds Q):Comp P C μ st.hp w Q ((execOp a.eval o).run P w):=by
 have hf:=h.fr;have hH:=h.hep.obj;have hw:=h.hep.frm.size;have gX:∀{o:Operand} {x:SX},cX o=some x->R (aG C μ st.hp w) (gx g st.fr x) [a.eval o]:=λhx=>oW hg hf hx;obtain⟨dst,op,ty,pos,after,guard⟩:=o;simp only at hc;cases op with
 |move x =>
  simp only[cOp,aF]at hc;obtain⟨x',h1,rfl⟩:=hc;simp only[execOp,evP]at he ⊢;exact lC he (gX h1)
 |assign x =>
  simp only[cOp,aF]at hc;obtain⟨x',h1,rfl⟩:=hc;simp only[execOp,evP]at he ⊢;exact lC he (gX h1)
 |pick c x y =>
  simp only[cOp,aE,aD]at hc;obtain⟨c',h1,x',h2,y',h3,h4⟩:=hc;cases h4;simp only[execOp,evP]at he ⊢;obtain⟨s,hq,u,hr,hR⟩:=Dw (P:=P) hg hf h1 h2 h3 he;rw[hr];exact⟨s,hq,Below.refl _ _,hR⟩
 |load t x =>
  simp only[cOp,aE,aD]at hc
  grind[Option.bind_eq_some_iff,execOp,evP,dQ,vR]
 |fieldAddr s x f =>
  simp only[cOp]at hc;split at hc
  .rename_i fs hs;simp only[aE,aD]at hc;obtain⟨fd,h1,i,h2,h3⟩:=hc;split at h3
   .rename_i hz;simp only[aD]at h3;obtain⟨x',h4,h5⟩:=h3;cases h5;simp only[execOp,evP]at he ⊢;have run:∀b off,a.eval x=.pointer (some ⟨b,off,none⟩)->(Instr.fieldAt s (a.eval x) f).run P w=.ok (.pointer (some ⟨b,off+fd.offset,none⟩)) w:=by
     intro b off hv;rw[hv];simp[Instr.fieldAt,aJ w hs,h1,Instr.sureAddr,fieldPlace,bR w h2,hz,Addr.mE]
    have hx:=gX h4;generalize gx g st.fr x'=X at hx he;refine dQ ?_;cases X<;>simp only at he<;>try exact he.elim
    .simp only [R]at hx;obtain⟨b,c,m1,hv⟩:=hx;exact⟨_,he,_,run b _ (aC.1 hv),by simp only[R]; simp[*]⟩
    .simp only [R]at hx;obtain⟨b,c,m1,hv⟩:=hx;exact⟨_,he,_,run b _ (aC.1 hv),by grind[R]⟩
    .simp only [R]at hx;obtain⟨b,c,m1,hv⟩:=hx;exact⟨_,he,_,run b _ (aC.1 hv),by simp only[R]; simp[*]⟩
    .simp only [R]at hx;obtain⟨b,c,m1,hv⟩:=hx;exact⟨_,he,_,run b _ (aC.1 hv),by grind[R]⟩
    .simp only [R]at hx;obtain⟨b,off,cs,hv,hu,hr,hh⟩:=hx;exact⟨_,he,_,run b _ (aC.1 hv),by simp only[R]; exact⟨b,_,_,rfl,hu,hP hr,hh.drop _⟩⟩
   .cases h3
  .cases hc
 |indexAddr t x ix =>
  simp only[cOp]at hc;split at hc
  .rename_i n e hs;simp only[aE,aD]at hc;obtain⟨i,h1,h2⟩:=hc;split at h2
   .rename_i hn;simp only[aD]at h2;obtain⟨x',h4,j',h5,h6⟩:=h2;cases h6;simp only[execOp,evP]at he ⊢;split at he
    .rename_i m hm;cases hb:Nat.blt m n with
     |false=>simp only[hb,cond_false]at he; exact he.elim
     |true =>
      simp only[hb,cond_true]at he;have hlt:m<n:=by
       simp_all
      have hi:∃k,a.eval ix=.int k m:=by
       unfold Xo at hm;split at hm
       .grind [gx,CV.sv,R]
       .cases hm
      obtain⟨k,hik⟩:=hi;have run:∀b off,a.eval x=.pointer (some ⟨b,off,none⟩)->(Instr.indexAt t (a.eval x) (a.eval ix)).run P w=.ok (.pointer (some ⟨b,off+m*i.size,none⟩)) w:=by
       intro b off hv;rw[hv,hik];simp[Instr.indexAt,asIntOf,aJ w hs,Instr.sureAddr,hlt,bR w h1,Addr.mE]
      have hx:=gX h4;generalize gx g st.fr x'=X at hx he;refine dQ ?_;cases X<;>simp only at he<;>try exact he.elim
      .simp only [R]at hx;obtain⟨b,c,m1,hv⟩:=hx;exact⟨_,he,_,run b _ (aC.1 hv),by simp only[R]; simp[*]⟩
      .simp only [R]at hx;obtain⟨b,c,m1,hv⟩:=hx;exact⟨_,he,_,run b _ (aC.1 hv),by grind[R]⟩
      .simp only [R]at hx;obtain⟨b,off,cs,hv,hu,hr,hh⟩:=hx;exact⟨_,he,_,run b _ (aC.1 hv),by simp only[R]; exact⟨b,_,_,rfl,hu,hP hr,hh.drop _⟩⟩
    .have hx:=gX h4;have hj:=gX h5;generalize gx g st.fr x'=X at hx he;generalize gx g st.fr j'=J at hj he;refine dQ ?_;cases J<;>simp only at he<;>try exact he.elim
     rename_i k m;simp only[R]at hj;have hik:=aC.1 hj;cases hb:Nat.beq i.size 1 with
     |false=>simp only[hb,cond_false]at he; exact he.elim
     |true =>
      simp only[hb,cond_true]at he;have hsz:=nbeq hb;have run:∀b off,0<=m->m<n->a.eval x=.pointer (some ⟨b,off,none⟩)->(Instr.indexAt t (a.eval x) (a.eval ix)).run P w=.ok (.pointer (some ⟨b,off+m.toNat,none⟩)) w:=by
       intro b off h0 hlt hv;rw[hv,hik];have hlt':m.toNat<n:=by omega
       simp[Instr.indexAt,asIntOf,aJ w hs,Instr.sureAddr,h0,hlt,bR w h1,Addr.mE,hsz]
      cases X<;>simp only at he<;>try exact he.elim
      .obtain ⟨⟨h0,hlt⟩,hq⟩:=he
       grind[R]
      .rename_i cells;cases cells<;>simp only at he<;>try exact he.elim
       rename_i k' q f r;obtain⟨⟨h0,hlt,hlq⟩,hq⟩:=he;simp only[R]at hx;obtain⟨b,off,cs,hv,hu,⟨xs,hcs,_⟩,hh⟩:=hx;refine⟨_,hq,_,run b _ h0 hlt (aC.1 hv),?_⟩;simp only[R];refine⟨b,off+m.toNat,[.int k' (f m.toNat)],rfl,hu,⟨_,_,rfl,rfl,rfl⟩,?_⟩;intro p u hp;cases p with
       |zero =>
        obtain rfl:Value.int k' (f m.toNat)=u:=by grind
        refine hh m.toNat _ ?_
        grind[cG,lD]
       |succ p=>simp at hp
   .cases h2
  .rename_i e hs;simp only[aE,aD]at hc
   grind[execOp,evP,dQ,Gd]
  .cases hc
 |index t x ix =>
  simp only[cOp]at hc;split at hc
  .rename_i hs;simp only[aE,aD]at hc;obtain⟨x',h4,j',h5,h6⟩:=hc;cases h6;simp only[execOp,evP]at he ⊢;have hx:=gX h4;have hj:=gX h5;generalize gx g st.fr x'=X at hx he;generalize gx g st.fr j'=J at hj he;refine dQ ?_;cases X<;>simp only at he<;>try exact he.elim
   rename_i s;cases J<;>simp only at he<;>try exact he.elim
   rename_i k m;obtain⟨⟨h0,h1⟩,hq⟩:=he;simp only[R]at hx hj;rw[aC.1 hx,aC.1 hj];refine⟨_,hq,_,?_,rfl⟩;have hlt:m.toNat<s.length:=by omega
   have hget:(⟨s.toArray⟩:ByteArray)[m.toNat]?=some (s.getD m.toNat 0):=by
    rw[ByteArray.getElem?_lt' _ _ (by simp[ByteArray.size]; exact hlt)];congr 1;show(s.toArray)[m.toNat]=_;simp[hlt]
   simp_all[Instr.index,asIntOf,aJ]
  .rename_i n e hs;simp only[aE,aD]at hc;obtain⟨i,h1,d,h2,h3⟩:=hc;split at h3
   .rename_i hk;simp only[aD]at h3;obtain⟨x',h4,j',h5,h6⟩:=h3;cases h6;simp only[execOp,evP]at he ⊢;have hx:=gX h4;have hj:=gX h5;refine dQ (Dt hs h1 h2 hx hj ?_ he);intro m hm;unfold Xo at hm;split at hm
    .grind [gx,CV.sv,R]
    .cases hm
   .cases h3
  .cases hc
 |field t x f =>
  simp only[cOp]at hc;split at hc
  .rename_i fs hs;simp only[aE,aD]at hc;obtain⟨fd,h1,i,h2,d,h3,h4⟩:=hc;split at h4
   .rename_i hk;simp only[aD]at h4;obtain⟨x',h5,h6⟩:=h4;cases h6;simp only[execOp,evP]at he ⊢;have hx:=gX h5;generalize gx g st.fr x'=X at hx he;refine dQ ?_;cases X<;>simp only at he<;>try exact he.elim
    rename_i l;obtain⟨s',hs',hq⟩:=PR.qH he;simp only[R]at hx;obtain⟨cs,hv,hr⟩:=hx;rw[aC.1 hv];have hd:=hP (n:=fd.offset) hr;refine⟨_,hq,?_⟩;unfold rd at hs';unfold Instr.field;simp only[Sem.run_bind,aJ w hs,Result.andThen_ok,h1,asAgg,Sem.run_pure];unfold part;simp only[Sem.run_bind,mB w h3,Result.andThen_ok];cases ha:mN d with
    |true =>
     simp only[ha]at hs';split at hs'
     .rename_i r hr';cases hs';obtain⟨t1,t2⟩:=oZ hr' hd;simp only[if_true,Sem.run_bind,bR w h2,Result.andThen_ok,Sem.run_pure];refine⟨_,rfl,?_⟩
      grind[R]
     .cases hs'
    |false =>
     simp only[ha]at hs';obtain⟨v,r,e1,hv'⟩:=vE hs' hd;have:cs[fd.offset]?=some v:=by
      have e2:(cs.drop fd.offset)[0]?=some v:=by rw[e1]; rfl
      grind
     simp[*]
   .cases h4
  .cases hc
 |nilCheck x =>
  simp only[cOp,aF]at hc;obtain⟨x',h1,rfl⟩:=hc;simp only[execOp,evP]at he ⊢;have hx:=gX h1;generalize gx g st.fr x'=X at hx he;cases X<;>simp only at he<;>try exact he.elim
  .have hx0:=hx;simp only[R]at hx;obtain⟨b,c,m1,hv⟩:=hx;have hv':=aC.1 hv;rw[hv']at hx0 ⊢;exact lC he hx0
  .have hx0:=hx;simp only[R]at hx;obtain⟨b,c,m1,hv⟩:=hx;have hv':=aC.1 hv;rw[hv']at hx0 ⊢;exact lC he hx0
  .have hx0:=hx;simp only[R]at hx;obtain⟨b,c,m1,hv⟩:=hx;have hv':=aC.1 hv;rw[hv']at hx0 ⊢;exact lC he hx0
  .have hx0:=hx;simp only[R]at hx;obtain⟨b,c,m1,hv⟩:=hx;have hv':=aC.1 hv;rw[hv']at hx0 ⊢;exact lC he hx0
  .have hx0:=hx;simp only[R]at hx;obtain⟨b,off,cs,hv,_⟩:=hx;have hv':=aC.1 hv;rw[hv']at hx0 ⊢;exact lC he hx0
  .have hx0:=hx;simp only[R]at hx;obtain⟨cs,hv,_⟩:=hx;have hv':=aC.1 hv;rename_i f _ _;have hv2:(∃g,fnV f cs.toArray=.func (.func g) #[] cs.toArray)\/∃g,fnV f cs.toArray=.func (.func g) cs.toArray #[]:=by
    unfold fnV;generalize Nat.blt f FM=b;cases b
    .simp
    simp
   rw[hv']at hx0 ⊢;rcases hv2 with⟨g,e⟩|⟨g,e⟩
   .rw [e]at hx0 ⊢;exact lC he hx0
   .rw [e]at hx0 ⊢;exact lC he hx0
 |binOp op t x y ty' =>
  simp only[cOp]at hc;split at hc
  .simp only [aE,aD]at hc;obtain⟨x',h1,y',h2,h3⟩:=hc;cases h3;simp only[execOp,evP]at he ⊢;cases hwb:Ic tab op with
   |true=>simp only[hwb,cond_true]at he; exact dQ (vS hwb (gX h1) (gX h2) he)
   |false=>simp only[hwb,cond_false]at he; exact dQ (yI (gX h1) (gX h2) he)
  .simp only [aE,aD]at hc;obtain⟨x',h1,y',h2,h3⟩:=hc;cases h3;simp only[execOp,evP]at he ⊢;cases hwb:Ic tab op with
   |true=>simp only[hwb,cond_true]at he; exact dQ (vS hwb (gX h1) (gX h2) he)
   |false=>simp only[hwb,cond_false]at he; exact dQ (yI (gX h1) (gX h2) he)
  .rename_i hb;have key:∀neg,(∃x' y',cX x=some x'/\cX y=some y'/\so=.eqB neg x' y')->op=(if neg then .neq else .eql)->Comp P C μ st.hp w Q ((execOp a.eval ⟨dst,.binOp op t x y ty',ty,pos,after,guard⟩).run P w):=by
    rintro neg ⟨x',y',h1,h2,rfl⟩ rfl;simp only[execOp,evP]at he ⊢;have hx:=gX h1;have hy:=gX h2;generalize gx g st.fr x'=X at hx he;generalize gx g st.fr y'=Y at hy he;refine dQ ?_;cases X<;>simp only at he<;>try exact he.elim
    cases Y<;>simp only at he<;>try exact he.elim
    rename_i p q;simp only[R]at hx hy;rw[aC.1 hx,aC.1 hy];have hgd:∀op,(eqGuard op t x y (.bool p) (.bool q)).run P w=.ok () w:=by
     simp_all[eqGuard]
    cases neg with
    |true=>exact⟨_,he,_,by simp_all[run_neq_bool],rfl⟩
    |false=>exact⟨_,he,_,by simp_all[run_eql_bool],rfl⟩
   split at hc
   .simp only [aE,aD]at hc;obtain⟨x',h1,y',h2,h3⟩:=hc;simp_all
   .simp only [aE,aD]at hc;obtain⟨x',h1,y',h2,h3⟩:=hc;simp_all
   .cases hc
  .rename_i e hp';split at hc
   .simp only [aE,aD]at hc;obtain⟨x',h1,y',h2,h3⟩:=hc;cases h3;simp only[execOp,evP]at he ⊢;exact dQ (tW (neg:=false) hp' (gX h1) (gX h2) he)
   .simp only [aE,aD]at hc;obtain⟨x',h1,y',h2,h3⟩:=hc;cases h3;simp only[execOp,evP]at he ⊢;exact dQ (tW (neg:=true) hp' (gX h1) (gX h2) he)
   .cases hc
  .rename_i kt et hm';split at hc
   .simp only [aE,aD]at hc;obtain⟨x',h1,y',h2,h3⟩:=hc;cases h3;simp only[execOp,evP]at he ⊢;exact dQ (tV (neg:=false) hm' (gX h1) (gX h2) he)
   .simp only [aE,aD]at hc;obtain⟨x',h1,y',h2,h3⟩:=hc;cases h3;simp only[execOp,evP]at he ⊢;exact dQ (tV (neg:=true) hm' (gX h1) (gX h2) he)
   .cases hc
  .split at hc
   .simp only [aE,aD]at hc;obtain⟨x',h1,y',h2,h3⟩:=hc;cases h3;exact he.elim
   .simp only [aE,aD]at hc;obtain⟨x',h1,y',h2,h3⟩:=hc;cases h3;exact he.elim
   .cases hc
  .rename_i fs hst;split at hc
   .rename_i offs hh hf;have key:∀neg,(∃x' y',cX x=some x'/\cX y=some y'/\so=.eqS neg offs x' y')->op=(if neg then .neq else .eql)->Comp P C μ st.hp w Q ((execOp a.eval ⟨dst,.binOp op t x y ty',ty,pos,after,guard⟩).run P w):=by
     rintro neg ⟨x',y',h1,h2,rfl⟩ rfl;simp only[execOp,evP]at he ⊢;have hx:=gX h1;have hy:=gX h2;generalize gx g st.fr x'=X at hx he;generalize gx g st.fr y'=Y at hy he;refine dQ ?_;cases X<;>simp only at he<;>try exact he.elim
     cases Y<;>simp only at he<;>try exact he.elim
     simp only[R]at hx hy;obtain⟨xs,hvx,hrx⟩:=hx;obtain⟨ys,hvy,hry⟩:=hy;split at he
     .rename_i q hq;rw[aC.1 hvx,aC.1 hvy];have:=Bp (neg:=neg) (ox:=x) (oy:=y) hst hh hf hrx hry hq;cases neg with
      |true=>exact⟨_,he,_,this,rfl⟩
      |false=>exact⟨_,he,_,this,rfl⟩
     .exact he.elim
    split at hc
    .simp only [aE,aD]at hc;obtain⟨x',h1,y',h2,h3⟩:=hc;simp_all
    .simp only [aE,aD]at hc;obtain⟨x',h1,y',h2,h3⟩:=hc;simp_all
    .cases hc
   .cases hc
  .cases hc
 |unOp u t x =>
  cases u with
  |not =>
   simp only[cOp,aF]at hc;obtain⟨x',h1,rfl⟩:=hc;simp only[execOp,evP]at he ⊢;have hx:=gX h1;generalize gx g st.fr x'=X at hx he;refine dQ ?_;cases X<;>simp only at he<;>try exact he.elim
   simp only[R]at hx;rw[aC.1 hx];exact⟨_,he,_,rfl,rfl⟩
  |neg =>
   simp only[cOp,aF]at hc;obtain⟨x',h1,rfl⟩:=hc;simp only[execOp,evP]at he ⊢;have hx:=gX h1;generalize gx g st.fr x'=X at hx he;refine dQ ?_;cases X<;>simp only at he<;>try exact he.elim
   obtain⟨h2,hq⟩:=he;simp only[R]at hx;rw[aC.1 hx];exact⟨_,hq,_,by grind[Op.unary,Op.intArith,InR.wrap,Sem.run_pure],rfl⟩
  |_=>simp[cOp]at hc
 |convert sT dT x =>
  simp only[cOp]at hc;split at hc
  .rename_i k1 k2 hs hd;simp only[aF]at hc;obtain⟨x',h1,rfl⟩:=hc;simp only[execOp,evP]at he ⊢;have hx:=gX h1;generalize gx g st.fr x'=X at hx he;refine dQ ?_;cases X<;>simp only at he<;>try exact he.elim
   obtain⟨h2,hq⟩:=he;simp only[R]at hx;rw[aC.1 hx];refine⟨_,hq,_,?_,rfl⟩;simp_all[convert,aJ,Conv.intToInt,InR.wrap]
  .rename_i hs hd;simp only[aF]at hc;obtain⟨x',h1,rfl⟩:=hc;simp only[execOp,evP]at he ⊢;have hx:=gX h1;generalize gx g st.fr x'=X at hx he;refine dQ ?_;cases X<;>simp only at he<;>try exact he.elim
   simp only[R]at hx;rw[aC.1 hx];exact⟨_,he,_,by simp_all[convert,aJ],rfl⟩
  .rename_i k1 hs hd;simp only[aF]at hc;obtain⟨x',h1,rfl⟩:=hc;simp only[execOp,evP]at he ⊢;have hx:=gX h1;generalize gx g st.fr x'=X at hx he;refine dQ ?_;cases X<;>simp only at he<;>try exact he.elim
   rename_i k n;obtain⟨h2,hq⟩:=he;simp only[R]at hx;rw[aC.1 hx];have henc:Utf8.encode n=⟨[UInt8.ofNat n.toNat].toArray⟩:=by
    grind[Utf8.valid,Utf8.encode]
   exact⟨_,hq,_,by simp_all[convert,aJ,Conv.intToString],rfl⟩
  .cases hc
 |extract x i =>
  simp only[cOp,aF]at hc;obtain⟨x',h1,rfl⟩:=hc;simp only[execOp,evP]at he ⊢;have hx:=gX h1;generalize gx g st.fr x'=X at hx he;refine dQ ?_;cases X<;>simp only at he<;>try exact he.elim
  rename_i l;obtain⟨s',hs',hq⟩:=PR.qH he;simp only[R]at hx;obtain⟨cs,hv,hr⟩:=hx;rw[aC.1 hv];obtain⟨v,r,e1,hv'⟩:=vE hs' (hP (n:=i) hr);have:cs[i]?=some v:=by
   have e2:(cs.drop i)[0]?=some v:=by rw[e1]; rfl
   grind
  refine⟨_,hq,v,?_,hv'⟩;simp[Instr.extract,this]
 |makeFunc fn first captured =>
  cases fn with
  |func f =>
   simp only[cOp]at hc;cases hfm:Nat.blt f FM with
   |false=>grind
   |true =>
   simp only[hfm]at hc;have hlt:f<FM:=aQ (n:=f+1) hfm;split at hc
   .rename_i h0;simp only[aF]at hc;obtain⟨caps,h1,rfl⟩:=hc;simp only[execOp,evP]at he ⊢;refine dQ ⟨_,he,.func (.func f) #[] (captured.map a.eval),?_,?_⟩
    .simp_all [Array.eq_empty_of_size_eq_zero,Instr.makeFunc]
    .simp only [R];exact⟨captured.toList.map a.eval,by (rw[aC]; unfold fnV; rw[hfm]; simp only[cond_true]; congr 1; grind),Fs hg hf h1⟩
   .split at hc
    .rename_i h0;simp only[aF]at hc;obtain⟨caps,h1,rfl⟩:=hc;simp only[execOp,evP]at he ⊢;refine dQ ⟨_,he,.func (.func f) (first.map a.eval) #[],?_,?_⟩
     .simp_all [Array.eq_empty_of_size_eq_zero,Instr.makeFunc]
     .simp only [R];refine⟨first.toList.map a.eval,?_,Fs hg hf h1⟩;rw[aC];unfold fnV;have:Nat.blt (f+FM) FM=false:=by
       cases e:Nat.blt (f+FM) FM with
       |false=>rfl
       |true=>have:=aQ (n:=f+FM+1) e; omega
      rw[this,Nat.add_sub_cancel];have e2:first.map a.eval=(first.toList.map a.eval).toArray:=by grind
      rw[e2];rfl
    .cases hc
  |_=>simp[cOp]at hc
 |build t parts =>
  simp only[cOp,aE,aD]at hc;obtain⟨i,h1,z,h2,h3⟩:=hc;obtain⟨zv,hz,hzr,hzl,_⟩:=lG (E:=aG C μ st.hp w) h2;have hmap:(parts.map λ(i,x)=>(i,a.eval x)).toList=parts.toList.map λp=>(p.1,a.eval p.2):=by simp
  split at h3
  .rename_i fs hs;simp only[aD]at h3;obtain⟨places,h4,ps,h5,h6⟩:=h3;cases h6;simp only[execOp,evP]at he ⊢;refine dQ ?_;split at he
   .rename_i l hl;obtain⟨cs',c1,c2,c3⟩:=yX hg hf h5 hl (cs:=zv.cells) hzr;refine⟨_,he,.agg cs',run_build w t _ cs' ?_,by simp only[R]; grind⟩
    grind[Program.built]
   .exact he.elim
  .rename_i n e hs;simp only[aD]at h3;obtain⟨j,h4,ps,h5,h6⟩:=h3;cases h6;simp only[execOp,evP]at he ⊢;refine dQ ?_;split at he
   .rename_i l hl;obtain⟨cs',c1,c2,c3⟩:=yX hg hf h5 hl (cs:=zv.cells) hzr;refine⟨_,he,.agg cs',run_build w t _ cs' ?_,by simp only[R]; grind⟩
    grind[Program.built]
   .exact he.elim
  .cases h3
 |buildSlice t n parts =>
  simp only[cOp]at hc;split at hc
  .rename_i e hs;simp only[aE,aD]at hc;obtain⟨j,h1,z,h2,ps,h3,h4⟩:=hc;split at h4
   .rename_i hb;cases h4;obtain⟨zv,hz,hzr,hzl,hzn⟩:=lG (E:=aG C μ st.hp w) h2;have hmap:(parts.map λ(i,x)=>(i,a.eval x)).toList=parts.toList.map λp=>(p.1,a.eval p.2):=by simp
    simp only[execOp,evP]at he ⊢;split at he
    .rename_i l hl;split at he
     .rename_i els hels;have hlen:zv.cells.toList.length=j.size:=by simp; omega
      have hrep:=Qe hzl hzr n;have hinit:((Array.range (n*j.size)).map λi=>zv.cells[i%zv.cells.size]!).toList=(List.range (n*zv.cells.toList.length)).map λi=>zv.cells.toList[i%zv.cells.toList.length]! := by
       rw[hlen];have e1:zv.cells.size=j.size:=by omega
       generalize zv.cells=A at e1;obtain⟨A⟩:=A;simp[*]
      obtain⟨cs',c1,c2,c3⟩:=yX hg hf h3 hl (cs:=(Array.range (n*j.size)).map λi=>zv.cells[i%zv.cells.size]!) (by rw[hinit]; exact hrep);have hbel:Below w.heap.size w (w.alloc (.cells cs' e)):=(Below.refl _ _).alloc (aN _) _;have run:(Instr.buildSlice t n (parts.map λ(i,x)=>(i,a.eval x))).run P w=.ok (.slice (some ⟨w.heap.size,0,none⟩) n n) (w.alloc (.cells cs' e)):=by
       unfold Instr.buildSlice;have h24:¬n*j.size>2^24:=by omega
       by_cases h0:n*j.size=0
       .have e0:∀f:Nat->Value,(Array.range 0).map f=#[]:=(by grind);rw[h0,e0]at c1;simp only[Sem.run_bind,aJ w hs,Result.andThen_ok,bR w h1,h0,cO,gt_iff_lt,if_false,if_true,Sem.run_pure,e0,hmap,c1];rfl
       .simp only [Sem.run_bind,aJ w hs,Result.andThen_ok,bR w h1,h24,if_false,h0,jU w h1 hz,Sem.run_pure,hmap,c1];rfl
      rw[eH run];refine⟨_,he,hbel,?_⟩;have hE:=jM (C:=C) (μ:=μ) (hp:=st.hp) hbel;have hrow:(w.alloc (.cells cs' e)).heap[w.heap.size]?=some (.cells cs'.toList.toArray e (0,0)):=by
       rw[heap_alloc_new]
      obtain⟨k1,k2⟩:=F6 (E:=aG C μ st.hp (w.alloc (.cells cs' e))) (b:=w.heap.size) (i:=0) (Ja hH hw _) hels (kJ hE c2) (by
       rw[Nat.zero_mul];exact Holds.row hrow 0)
      grind[R]
     .exact he.elim
    .exact he.elim
   .cases h4
  .cases hc
 |slice t x lo hi mx =>
  cases mx with
  |some _=>simp[cOp]at hc
  |none =>
   simp only[cOp]at hc;split at hc
   .rename_i e hs;simp only[aE,aD]at hc;obtain⟨j,h1,x',h2,lo',h3,hi',h4,h5⟩:=hc;cases h5;simp only[execOp,evP]at he ⊢;exact dQ (yQ hg hf hs h1 h2 h3 h4 he)
   .rename_i hs;simp only[aE,aD]at hc;obtain⟨x',h2,lo',h3,hi',h4,h5⟩:=hc;cases h5;simp only[execOp,evP]at he ⊢;have hx:=gX h2;generalize gx g st.fr x'=X at hx he;cases X<;>simp only at he<;>try exact he.elim
    simp only[R]at hx;exact dQ (xG hg hf hs (aC.1 hx) h3 h4 he)
   .split at hc
    .simp only [aF]at hc;obtain⟨x',h1,rfl⟩:=hc;exact he.elim
    .split at hc
     .simp only [aE,aD]at hc;obtain⟨x',h1,h',h2,hc⟩:=hc;cases hc;exact he.elim
     .cases hc
    .cases hc
   .cases hc
 |call c =>
  obtain⟨callee,args,ts⟩:=c;cases callee with
  |value f =>
   simp only[cOp,aE,aD]at hc;obtain⟨f',h1,args',h2,h3⟩:=hc;cases h3;simp only[execOp,evP]at he ⊢;have hx:=gX h1;generalize gx g st.fr f'=X at hx he;cases X<;>simp only at he<;>try exact he.elim
   rename_i k caps;simp only[R]at hx;obtain⟨cs,hv,hr⟩:=hx;split at he
   .rename_i k' l hcl;obtain⟨us,hargs,hrr⟩:=sU (P:=P) (w:=w) (ts:=ts) (ty:=ty) (aC.1 hv) (Eo g st.fr args') (Fs hg hf h2) hr hcl;rw[hrr];obtain⟨s,hq,hrun,hcall⟩:=Dr htab hgv hH hw hargs he;rw[hrun];exact⟨s,hq,hcall⟩
   .exact he.elim
  |builtin b =>
   simp only[cOp]at hc;obtain⟨al⟩:=args;obtain⟨tl⟩:=ts;simp only at hc;have comp1:∀(b:Builtin),(∃x,Q x/\∃u,(∀cs,(builtin b tl.toArray ty cs (al.map a.eval).toArray).run P w=.ok (.value u) w)/\R (aG C μ st.hp w) x [u]) ->
     Comp P C μ st.hp w Q ((execOp a.eval ⟨dst,.call ⟨.builtin b,al.toArray,tl.toArray⟩,ty,pos,after,guard⟩).run P w):=by
    rintro b ⟨x,hq,u,hr,hR⟩;have e2:al.toArray.map a.eval=(al.map a.eval).toArray:=by simp
    simp only[execOp,resolve,Sem.run_bind,Sem.run_pure,Result.andThen_ok,invoke,e2,hr];exact⟨x,hq,Below.refl _ _,hR⟩
   unfold lO at hc;split at hc
   .split at hc
    .rename_i x t;split at hc
     .rename_i ht;simp only[aF]at hc;obtain⟨x',h1,rfl⟩:=hc;simp only[evP]at he;have hx:=gX h1;refine comp1 .len ?_;simp only[bK,iD,builtin];generalize gx g st.fr x'=X at hx he;cases X<;>simp only at he<;>try exact he.elim
      simp only[R]at hx;rw[aC.1 hx];refine⟨_,he,_,λ_=>eH (run_len_string (P:=P) w t ty _ ht),?_⟩;rfl
     .rename_i e ht;simp only[aF]at hc;obtain⟨x',h1,rfl⟩:=hc;simp only[evP]at he;have hx:=gX h1;refine comp1 .len ?_;simp only[bK,iD,builtin];generalize gx g st.fr x'=X at hx he;generalize a.eval x=vx at hx;have hsl:∀(n:Nat) (av:Option Addr) (cap:Nat),vx=.slice av n cap->Q (.int .i64 (n:Int))->∃x,Q x/\∃u,(∀_:Array Bool,(do pure (Next.value (<- Builtin.len_ #[t] ty #[vx])):Sem Next).run P w=.ok (.value u) w)/\R (aG C μ st.hp w) x [u]:=by
       rintro n av cap rfl hq;refine⟨_,hq,.int .i64 n,λ_=>?_,rfl⟩;simp_all[Builtin.len_,aJ,goInt]
      cases X<;>simp only at he<;>try exact he.elim
      .simp only [R]at hx;rcases hx with⟨rfl,a,cap,hv⟩|⟨_,b,c,_,hv,_⟩
       .exact hsl 0 _ _ (aC.1 hv) he
       .exact hsl _ _ _ (aC.1 hv) he
      .simp only [R]at hx;rcases hx with⟨rfl,a,hv⟩|⟨_,b,c,_,hv,_⟩
       .exact hsl 0 _ _ (aC.1 hv) he
       .exact hsl _ _ _ (aC.1 hv) he
      .simp only [R]at hx;rcases hx with⟨rfl,a,hv⟩|⟨b,c,_,hv,_⟩
       .exact hsl 0 _ _ (aC.1 hv) he
       .exact hsl _ _ _ (aC.1 hv) he
      .simp only [R]at hx;exact hsl 0 _ _ (aC.1 hx) he
      .simp only [R]at hx;obtain⟨av,cap,hv,_⟩:=hx;exact hsl _ _ _ (aC.1 hv) he
      .simp only [R]at hx;obtain⟨av,hv,_⟩:=hx;exact hsl _ _ _ (aC.1 hv) he
     .simp only [aF]at hc;obtain⟨x',h1,rfl⟩:=hc;exact he.elim
     .cases hc
    .cases hc
   .split at hc
    .split at hc
     .simp only [aE,aD]at hc;obtain⟨_,_,_,_,_,_,h3⟩:=hc;cases h3;exact he.elim
     .cases hc
    .cases hc
   .split at hc
    .rename_i x y;simp only[aE,aD]at hc;obtain⟨x',h1,y',h2,h3⟩:=hc;cases h3;simp only[evP]at he;have hx:=gX h1;have hy:=gX h2;refine comp1 .min ?_;simp only[bK,iD,builtin];generalize gx g st.fr x'=X at hx he;generalize gx g st.fr y'=Y at hy he;cases X<;>simp only at he<;>try exact he.elim
     cases Y<;>simp only at he<;>try exact he.elim
     rename_i k p k' q;simp only[R]at hx hy;rw[aC.1 hx,aC.1 hy];refine⟨_,he,_,λ_=>eH (run_min_int2 w _ _ k k' p q),?_⟩
     grind[R]
    .rename_i x y z;simp only[aE,aD]at hc;obtain⟨x',h1,y',h2,z',h2z,h3⟩:=hc;cases h3;simp only[evP]at he;have hx:=gX h1;have hy:=gX h2;have hz:=gX h2z;refine comp1 .min ?_;simp only[bK,iD,builtin];generalize gx g st.fr x'=X at hx he;generalize gx g st.fr y'=Y at hy he;generalize gx g st.fr z'=Z at hz he;cases X<;>simp only at he<;>try exact he.elim
     cases Y<;>simp only at he<;>try exact he.elim
     cases Z<;>simp only at he<;>try exact he.elim
     rename_i k p k' q k'' r;simp only[R]at hx hy hz;rw[aC.1 hx,aC.1 hy,aC.1 hz];have hrun:(Builtin.min_ tl.toArray ty [Value.int k p,Value.int k' q,Value.int k'' r].toArray).run P w=.ok (.int k (min (min p q) r)) w:=by
      simp only[Builtin.min_,List.foldlM_cons,List.foldlM_nil,Builtin.min2,Sem.run_bind,Sem.run_pure,Result.andThen_ok]
      grind
     refine⟨_,he,_,λ_=>eH hrun,?_⟩;rfl
    .cases hc
   .split at hc
    .rename_i x y;simp only[aE,aD]at hc;obtain⟨x',h1,y',h2,h3⟩:=hc;cases h3;simp only[evP]at he;have hx:=gX h1;have hy:=gX h2;refine comp1 .max ?_;simp only[bK,iD,builtin];generalize gx g st.fr x'=X at hx he;generalize gx g st.fr y'=Y at hy he;cases X<;>simp only at he<;>try exact he.elim
     cases Y<;>simp only at he<;>try exact he.elim
     rename_i k p k' q;simp only[R]at hx hy;rw[aC.1 hx,aC.1 hy];refine⟨_,he,_,λ_=>eH (run_max_int2 w _ _ k k' p q),?_⟩
     grind[R]
    .cases hc
   ·(repeat' split at hc)<;>(try cases hc)
    all_goals
     simp only[aE,aD]at hc;obtain⟨_,_,_,_,h3⟩:=hc;cases h3;exact he.elim
   ·(repeat' split at hc)<;>(try cases hc)
    all_goals
     simp only[aE,aD]at hc;obtain⟨_,_,_,_,h3⟩:=hc;cases h3;exact he.elim
   ·(repeat' split at hc)<;>(try cases hc)
    all_goals
     simp only[aF]at hc;obtain⟨_,_,rfl⟩:=hc;exact he.elim
   .cases hc
  |invoke r m=>simp[cOp]at hc
 |alloc t =>
  simp only[cOp,aE,aD]at hc;obtain⟨i,_,z,_,h3⟩:=hc;cases h3;exact he.elim
 |box t x =>
  simp only[cOp,aF]at hc;obtain⟨x',_,rfl⟩:=hc;exact he.elim
 |store t x v =>
  simp only[cOp,aE,aD]at hc;obtain⟨i,_,x',_,v',_,h3⟩:=hc;cases h3;exact he.elim
 |makeMap t r =>
  cases r with
  |some r=>simp[cOp]at hc
  |none =>
   simp only[cOp]at hc;split at hc
   .simp only [aF]at hc;obtain⟨_,_,rfl⟩:=hc;exact he.elim
   .cases hc
 |lookup t m k ok =>
  simp only[cOp]at hc;split at hc
  .simp only [aE,aD]at hc;obtain⟨_,_,_,_,_,_,_,_,h3⟩:=hc;cases h3;exact he.elim
  .cases hc
 |mapUpdate t m k v =>
  simp only[cOp]at hc;split at hc
  .simp only [aE,aD]at hc;obtain⟨_,_,_,_,_,_,_,_,h3⟩:=hc;cases h3;exact he.elim
  .cases hc
 |insert t m k v =>
  simp only[cOp]at hc;split at hc
  .simp only [aE,aD]at hc;obtain⟨_,_,_,_,_,_,_,_,h3⟩:=hc;cases h3;exact he.elim
  .cases hc
 |mapEntry t m k =>
  simp only[cOp]at hc;split at hc
  .simp only [aE,aD]at hc;obtain⟨_,_,_,_,_,_,_,_,h3⟩:=hc;cases h3;exact he.elim
  .cases hc
 |entryStore t m k v =>
  simp only[cOp,aE,aD]at hc;obtain⟨_,_,_,_,_,_,h3⟩:=hc;cases h3;exact he.elim
 |range t m =>
  simp only[cOp]at hc;split at hc
  .simp only [aF]at hc;obtain⟨_,_,rfl⟩:=hc;exact he.elim
  .cases hc
 |next it b =>
  cases b with
  |true=>simp[cOp]at hc
  |false =>
   simp only[cOp,aF]at hc;obtain⟨_,_,rfl⟩:=hc;exact he.elim
 |entry it =>
  simp only[cOp,aF]at hc;obtain⟨_,_,rfl⟩:=hc;exact he.elim
 |panic=>simp only[cOp,aH]at hc; subst hc; exact he.elim
 |makeInterface=>simp only[cOp,aH]at hc; subst hc; exact he.elim
 |_=>simp[cOp]at hc
end
end Go.Eng
