/- A part of the proof. -/
import Derived.Test.YtpiolkcdfgiefaaGreatDoorT56
import Derived.Test.YtpiolkcdfgiefaaGreatDoorEngVia
import Derived.Test.YtpiolkcdfgiefaaGreatDoorT28
section
set_option maxHeartbeats 10000000
open Go Go.Eng Go.Proofs A0 T1 T2 T3 T4 T5 T6 T13 T28 T29
set_option maxRecDepth 100000
namespace T30
def bI(b:UInt8):Int:=(b.toNat:Int)
def bsI(l:List UInt8):List Int:=l.map bI
theorem Lf(l:List UInt8):(bsI l).length=l.length:=cS ..
theorem U2{a:Int}{r:List Int}(h:Srd (a::r) (a::r).length):(∀x∈r,a<=x)/\Srd r r.length:=by
 refine⟨λx hx=>?_,λi j h1 h2=>?_⟩
 .obtain ⟨k,hk,rfl⟩:=bG hx;have:=h 0 (k+1) (by omega) (by simp; omega)
  grind
 .have:=h (i+1) (j+1) (by omega) (by simp; omega)
  grind
theorem U3:∀{x y:List Int},Srd x x.length->Srd y y.length->x.Perm y->x=y:=by
 intro x;induction x with
 |nil=>simp
 |cons a r ih =>
  intro y hx hy hp;cases y with
  |nil=>simp_all
  |cons b s =>
   grind[U2,List.mem_cons_self]
theorem aDi{bs:List UInt8}(h:Sb bs):Srd (bsI bs) (bsI bs).length:=by
 intro i j h1 h2;rw[Lf]at h2;have hi:i<bs.length:=by omega
 have:=List.pairwise_iff_getElem.1 h i j hi h2 h1;unfold bsI;rw[aK,aK,eC,eC,aM hi,aM h2];show bI bs[i]<=bI bs[j];unfold bI;have:bs[i].toNat<bs[j].toNat:=this;omega
theorem Mj{l:IL}{bs:List UInt8}(h:(l.map (·.1)).Perm (bs.map fY)):(lJ l).Perm (bsI bs):=by
 have:=h.map aB8;rw[List.map_map,List.map_map]at this;exact this
theorem Sm{l:IL}{bs:List UInt8}(h:(l.map (·.1)).Perm (bs.map fY)):∀y∈l,y.1.kind=.i .u8:=by
 intro y hy;have:=h.subset (List.mem_map_of_mem hy);obtain⟨b,_,e⟩:=cD.1 this;rw[<- e];rfl
theorem aCg{l:IL}{bs:List UInt8}(h:(l.map (·.1)).Perm (bs.map fY)):l.length=bs.length:=by
 have:=h.length_eq
 grind
theorem aFy{bs:List UInt8}(h:Sb bs):(bsI bs).Nodup:=by
 refine List.pairwise_map.2 (kV ?_ h);intro x y hxy he;have h1:x.toNat<y.toNat:=hxy;have h2:(x.toNat:Int)=(y.toNat:Int):=he;omega
structure BX where
 N:Nat->NO
 v:Nat
 a:Nat
 n:Nat
 m:Nat
 sz:Int
 mrk:B
 l:IL
 q:Nat
 bs:List UInt8
structure BOk(x:BX):Prop where
 nd:x.N x.v=.node x.a x.n x.m x.sz x.mrk
 mp:x.N x.m=.map x.l x.q
 tk:Tk x.l x.q
 pm:(x.l.map (·.1)).Perm (x.bs.map fY)
 sb:Sb x.bs
 ln:x.bs.length<=24
def g73:List Nat:=[0,2]
def c73:aY :=
 .seq (.region g73 [(zo 2 (.move (.c (.nilsl))))]) (.seq (.region g73 [(mv 3 0),(zo 4 (.nilCheck (.s 3))),(fa 5 1 4),(ld 6 5),(zo 7 (.call (.c (.fn 100)) [.s 6])),(zo 8 (.call (.c (.fn 99)) [.s 7])),(mv 2 8)]) .ret)
theorem e73:bO Tryz.prog 73 g73 [] [] []=some (c73,[.slot 2],9):=by kernel_rfl
def aAo:bC where
 X:=BX
 Y:=Unit
 args:=λx=>.cons (.fown 0 x.v 0) .nil
 pre:=BOk
 h0:=λx=>[(0,.fam λq=>noO 0 (x.N q))]
 nx0:=1
 post:=λ_ _=>True
 res:=λx _=>.lsl 1 1 x.bs.length
 h1:=λx _=>[(0,.fam λq=>noO 0 (x.N q)),(1,.arr 5 1 x.bs.length (lc bE 0 (bsI x.bs)))]
 nx1:=2
theorem Qu:aAo.Ok Tryz.prog 73:=by
 refine Eng.bC.okR e73 .nil (λ_=>[(100,.m Ta),(99,.m T56.Ng)]) (by grind[aO.m,Tc,T56.Pt,aO.nil]) ?_;rintro⟨N,v,a,n,m,sz,mk,l,q,bs⟩ ⟨(hnd:N v=.node a n m sz mk),(hmp:N m=.map l q),(htk:Tk l q),hpm,(hsb:Sb bs),(hln:bs.length<=24)⟩;replace hpm:(l.map (·.1)).Perm (bs.map fY):=hpm;have hll:=aCg hpm;have hk:KOk ⟨N,m,l,q⟩:=⟨hmp,htk,Sm hpm,(by grind)⟩;have hl12:l.length<=24:=by omega
 have hkn:(lJ l).Nodup:=(Mj hpm).nodup_iff.2 (aFy hsb);refine⟨trivial,?_⟩;refine aB (noO 0 (.node a n m sz mk)) (aA (congrArg (noO 0) hnd) ?_);refine aB ⟨N,m,l,q⟩ (aB [0] ?_);repeat' (first|apply aA|exact trivial|exact rfl|exact zm N rfl|fail)
 refine λ(_:Unit) (_:True)=>?_;refine aB ⟨N,m,l,q⟩ (aB [0] ?_);repeat' (first|exact hk|exact hl12|exact hkn|apply aA|exact trivial|exact rfl|exact zr N rfl rfl|fail)
 refine λ(y:List Int) (hy:y.Perm (lJ l)/\Srd y y.length)=>?_;have he:y=bsI bs:=U3 hy.2 (aDi hsb) (hy.1.trans (Mj hpm));have hyl:y.length=bs.length:=by rw[he,Lf]
 refine aB () (aA trivial ?_);repeat' (first|apply aA|exact trivial|exact rfl|exact zr N rfl rfl|exact hyl|exact(λj _=>by rw[he]; exact Or.inl (dC _ _ _ _))|fail)
end T30
end
section
set_option maxHeartbeats 10000000
namespace Go.Eng
open Go Go.RowKit
variable {P:Program}
def Keep.bare:Keep:=⟨[],true,false,false⟩
def Im(items:List SV)(G:Nat->(Nat->Option Obj)->Prop):Handler:=λid _ _ _ args hp nx K =>
 id=2/\∃i st item,G i st/\get? hp 1=some (.fam (sS st))/\items[i]?=some item/\sub .bare hp 200 args item /\
  ∀st',G (i+1) st'->oP hp 1 (.fam (sS st')) λhp=>K true hp nx
def GS(T:Nat->Prop)(w:World)(l:Nat)(r0:Loop)(st0:Nat->Option Obj)(J:Nat->(Nat->Prop)->World->Prop)(i:Nat)(st:Nat->Option Obj):Prop :=
 (∀b,dom st0 b->dom st b)/\(∀b,dom st b->dom st0 b\/w.heap.size<=b) /\
  ∀W,(∀q o,st q=some o->W.heap[q]?=some o)->Frm (λb=>T b\/dom st b) w W->W.heap[l]?=some (.loop r0)->J i (dom st) W
theorem Qk{C:Ctx}{T:Nat->Prop}{w:World}{μ:Nat->Option (Nat×Nat)}{l:Nat}{r0:Loop}{items:List SV}{st0:Nat->Option Obj}{J:Nat->(Nat->Prop)->World->Prop}
  (hY:yZ P T w μ l r0 items st0 J) (hg:uG C) (hd:0<C.dep) (hH:∀o,C.H 0 0 o->o=.loop r0) (hp2:C.pin 2=some (l,0)) (hw:C.w0=w) (hT:C.T=T) (hpF:∀q p,μ (fid 0 q)=some p->C.pin (fid 0 q)=some p) :
  lA P C 0 (Im items (GS T w l r0 st0 J)):=by
 intro C2 hx μ2 hp nx W id b c args vs K hh _hle _hkd hgt hm hr _hil he;obtain⟨rfl,i,st,item,⟨g1,g2,g3⟩,h1,hit,hsub,hK⟩:=he;have hm2:μ2 2=some (l,0):=hh.pin 2 _ (hx.pin 2 _ hp2);rw[hm2]at hm;cases hm;obtain⟨o,ho,hHo⟩:=hh.recAt hgt hm2;obtain rfl:=hH o ((hx.H 0 0 o hd).1 hHo)
 -- what is in other code's memory
 have old:∀q o,st q=some o->∃c,μ2 (fid 1 q)=some (q,c)/\W.heap[q]?=some o/\Jl o=false:=by
  intro q o hq;have hgm:hget hp (fid 1 q)=some (.obj o):=by grind[qC,cQ,gF,fb1,fE]
  obtain⟨b,c,x,e1,e2,e3,e4⟩:=hh.obj.obj _ _ hgm;have e1':μ2 (fid 1 q)=some (b,c):=e1;have:=hh.pos _ _ _ e1' (cQ 1 q) hgm;rw[fE q fb1]at this;simp only at this;subst this;subst e3;exact⟨c,e1',e2,gW.2 e4⟩
 have tracked:∀q,dom st q->∃o c,hget hp (fid 1 q)=some (.obj o)/\μ2 (fid 1 q)=some (q,c):=by
  rintro q ⟨o,hq⟩;obtain⟨c,e,_,_⟩:=old q o hq;exact⟨o,c,by grind[qC,cQ,gF,fb1,fE],e⟩
 have rC:∀q,dom st q->q<W.heap.size/\Plain W q:=by
  rintro q ⟨o,hq⟩;obtain⟨c,_,e2,e3⟩:=old q o hq;exact⟨(aU.1 e2).1,λy hy=>by rw[e2]at hy; cases hy; exact e3⟩
 have hfrm:Frm T w W:=by
  have:=hx.w0.trans' hh.frm hx.T
  grind
 have hfrm':Frm (λb=>T b\/dom st b) w W:=hfrm.weak λ_ h=>.inl h;have hJ:=g3 W (λq o hq=>(old q o hq).choose_spec.2.1) hfrm' ho;have hgv:GV W:=hg.at (by simp[*]);have hFr:(aG C2 μ2 hp W).Freed .bare hp (iV (λ_=>False) W) :=
  ⟨(by grind[loose,Keep.bare]),(by grind[ren,Keep.bare,get?]),(by grind[ren,Keep.bare,get?]),rfl,(by grind[kept,Keep.bare])⟩
 have hitem:R (iV (λ_=>False) W) item vs:=lF hFr hh.obj 200 _ _ _ hsub hr;have hfam0:∀q p,μ (fid 0 q)=some p->p.1<W.heap.size/\Plain W p.1:=by
  intro q p e;have e2:=hh.pin _ _ (hx.pin _ _ (hpF q p e));obtain⟨o,ho⟩:=hh.fam _ _ e2 (cQ 0 q);obtain⟨pb,pc⟩:=p;refine⟨hh.lt ho e2,hh.obj.plain ho e2 ?_⟩;rintro l p rfl;have:=(qB ho).1
  grind[cQ]
 obtain⟨f,tmps,assign,body,hy,hR⟩:=hY.round i (dom st) W item vs hit hJ g1 rC g2 hfrm' ho hgv hitem hfam0;refine⟨f,tmps,assign,body,hy,hR.mono ?_⟩;rintro e W' ⟨rfl,D',hJ',d1,d2,d3,hfr,hl'⟩;obtain⟨st',hst'⟩:∃st':Nat->Option Obj,∀q,(D' q->st' q=W'.heap[q]?)/\(¬D' q->st' q=none):=by
  classical
  refine⟨λq=>if D' q then W'.heap[q]? else none,(by grind)⟩
 have hdom:dom st'=D':=by
  funext q;refine propext ⟨?_,λh=>?_⟩
  .rintro ⟨o,hq⟩
   grind
  .exact ⟨W'.heap[q]'(d3 q h).1,by simp[*]⟩
 have st'D:∀q o,st' q=some o->D' q/\W'.heap[q]?=some o:=by
  grind
 have hG:GS T w l r0 st0 J (i+1) st':=by
  refine⟨(by simp_all),λb hb=>?_,λW2 hc hf2 hl2=>?_⟩
  .rw [hdom]at hb;rcases d2 b hb with h|h
   .exact g2 b h
   .exact .inr (aV hfrm.size h)
  .rw [hdom]at hf2 ⊢;refine hY.stb (i+1) D' W' W2 hJ' (by grind) hf2 (λb hb=>?_) hl2
   grind
 have hk:=hK st' hG;rw[rD]at hk
 -- the numbers
 obtain⟨μ',hμ'⟩:∃μ':Nat->Option (Nat×Nat),∀n,(∀p,μ2 n=some p->μ' n=some p)/\(μ2 n=none->FB<=n->n%FB=1->dom st' (n/FB-1)->μ' n=some (n/FB-1,0)) /\
   (∀p,μ' n=some p->μ2 n=some p\/(μ2 n=none/\FB<=n/\n%FB=1/\dom st' (n/FB-1)/\p=(n/FB-1,0))):=by
  classical
  refine⟨λn=>match μ2 n with|some p=>some p|none=>if FB<=n/\n%FB=1/\dom st' (n/FB-1)then some (n/FB-1,0)else none,λn=>⟨λp e=>?_,λe h1 h2 h3=>?_,λp e=>?_⟩⟩
  .simp [e]
  .simp [*]
  grind
 have raw_old:∀n p,μ2 n=some p->FB<=n->n%FB=1->∃o,st (n/FB-1)=some o/\p.1=n/FB-1:=by
  intro n p e hn h2;obtain⟨o,ho⟩:=hh.fam _ _ e hn;have ho':=ho;rw[qC h1 hn h2]at ho;cases hs:st (n/FB-1) with
  |none=>grind
  |some o2 =>
   rw[hs]at ho;cases ho;exact⟨o2,rfl,hh.pos _ _ _ e hn ho'⟩
 have cls:∀n o b c,hget (fL hp 1 (.fam (sS st'))) n=some o->μ' n=some (b,c) ->
   ((FB<=n/\n%FB=1/\b=n/FB-1/\∃o',o=.obj o'/\st' b=some o')/\((∃o',hget hp n=some o'/\μ2 n=some (b,c))\/(n=fid 1 b/\W.heap.size<=b))) \/
   (¬(FB<=n/\n%FB=1)/\hget hp n=some o/\μ2 n=some (b,c)):=by
  intro n o b c hg hm;rw[Aj h1]at hg;by_cases hc:FB<=n/\n%FB=1
  .rw [if_pos hc]at hg;simp only[aF]at hg;obtain⟨o',ho',rfl⟩:=hg;rcases(hμ' n).2.2 _ hm with e|⟨e0,e1,e2,e3,e4⟩
   .obtain ⟨o2,q1,q2⟩:=raw_old n _ e hc.1 hc.2;simp only at q2;refine .inl ⟨⟨hc.1,hc.2,q2,o',rfl,by simp[*]⟩,.inl ⟨.obj o2,?_,e⟩⟩
    grind[qC]
   .cases e4;refine .inl ⟨⟨hc.1,hc.2,rfl,o',rfl,ho'⟩,?_⟩
    grind[nI]
  grind
 have notD:∀n o b c,¬(FB<=n/\n%FB=1)->hget hp n=some o->μ2 n=some (b,c)->¬dom st b:=by
  intro n o b c hc hg hm hd;obtain⟨o',c',q1,q2⟩:=tracked b hd;have:=hh.inj _ _ _ _ _ _ _ hg q1 hm q2
  grind[cQ,gF,fb1]
 have hkd:Kd W W':=by
  refine Kd.qG hfr.size λb hb=>?_;by_cases hd:dom st b
  .simp [*]
  .exact .inl (hfr.block b hb hd)
 have hE:(aG C2 μ2 hp W).Le (aG C2 μ' (fL hp 1 (.fam (sS st'))) W'):=by
  have same:∀b,(aG C2 μ2 hp W).U b->W'.heap[b]?=W.heap[b]?:=by
   intro b hb;refine hfr.block b hb.1 λhd=>?_;obtain⟨o,c,q1,q2⟩:=tracked b hd;exact hb.2.2.1 _ _ _ q1 q2
  refine⟨⟨⟨λb hb=>?_,same⟩,λn p e=>(hμ' n).1 p e⟩,hkd,λ_ _ _ e=>e⟩;refine⟨bM hb.1 hfr.size,hb.2.1,λn o c hg hm=>?_,λy hy=>hb.2.2.2 y (by grind)⟩;rcases cls n o b c hg hm with⟨_,⟨o',q1,q2⟩|⟨_,q⟩⟩|⟨_,q1,q2⟩
  .exact hb.2.2.1 _ _ _ q1 q2
  .grind
  .exact hb.2.2.1 _ _ _ q1 q2
 refine⟨true,_,nx,μ',rfl,hk,hE,?_⟩;refine⟨⟨λn o e=>?_,λn o hg=>?_⟩,?_,?_,λn o e=>?_,λn p e hlt=>?_,λn p e hge=>?_,λn p e=>(hμ' n).1 p (hh.pin n p e),?_,?_⟩
 .rw [get?_putH,get?_cons]at e;split at e
  .grind [fb1]
  .exact hh.obj.keys _ _ e
 .have hg':=hg;rw[Aj h1]at hg;by_cases hc:FB<=n/\n%FB=1
  .rw [if_pos hc]at hg;simp only[aF]at hg;obtain⟨o',ho',rfl⟩:=hg;obtain⟨k1,k2⟩:=st'D _ _ ho';have k3:Jl o'=false:=(d3 _ k1).2 _ k2;cases hm:μ2 n with
   |none=>exact⟨_,_,o',(hμ' n).2.1 hm hc.1 hc.2 ⟨o',ho'⟩,k2,rfl,gW.1 k3⟩
   |some p =>
    obtain⟨pb,pc⟩:=p;obtain⟨o2,q1,q2⟩:=raw_old n _ hm hc.1 hc.2;simp only at q2;exact⟨pb,pc,o',(hμ' n).1 _ hm,by rw[q2]; exact k2,rfl,gW.1 k3⟩
  .rw [if_neg hc]at hg;obtain⟨b,c,x,e1,e2,e3⟩:=hh.obj.obj n o hg;have e1':μ2 n=some (b,c):=e1;exact⟨b,c,x,(hμ' n).1 _ e1',(hfr.block b (hh.lt hg e1') (by grind)).trans e2,e3.mono hE⟩
 .intro n n' o o' b c c' hg hg' hm hm';rcases cls n o b c hg hm with⟨⟨a1,a2,a3,_⟩,h⟩|⟨a1,a2,a3⟩<;>rcases cls n' o' b c' hg' hm' with⟨⟨b1,b2,b3,_⟩,h'⟩|⟨b1,b2,b3⟩
  .grind [nI]
  .rcases h with⟨o2,q1,q2⟩|⟨_,q⟩
   .grind
   .have:=hh.lt b2 b3; omega
  .rcases h' with⟨o2,q1,q2⟩|⟨_,q⟩
   .grind
   .have:=hh.lt a2 a3; omega
  .exact hh.inj _ _ _ _ _ _ _ a2 b2 a3 b3
 .intro n o b c hg hm;rcases cls n o b c hg hm with⟨_,⟨o2,q1,q2⟩|⟨_,q⟩⟩|⟨_,a2,a3⟩
  .exact hh.mine _ _ _ _ q1 q2
  .exact .inr (aV hh.frm.size q)
  .exact hh.mine _ _ _ _ a2 a3
 .rw [get?_putH,get?_cons]at e;split at e
  .rename_i h; rw[<- h]; exact hh.keys _ _ h1
  .exact hh.keys _ _ e
 .rcases (hμ' n).2.2 _ e with e|⟨_,e1,_,_,_⟩
  .exact hh.nx _ _ e hlt
  .omega
 .rw [Aj h1];by_cases hc:FB<=n/\n%FB=1
  .rw [if_pos hc];have hD:D' (n/FB-1):=by
    rcases(hμ' n).2.2 _ e with e|⟨_,_,_,e3,_⟩
    .obtain ⟨o2,q1,_⟩:=raw_old n _ e hc.1 hc.2;exact d1 _ ⟨o2,q1⟩
    .rw [<- hdom]; exact e3
   simp[*]
  .rw [if_neg hc];rcases(hμ' n).2.2 _ e with e|⟨_,e1,e2,_,_⟩
   .exact hh.fam _ _ e hge
   omega
 .refine hh.frm.trans' hfr λb hb=>?_;obtain⟨o,c,q1,q2⟩:=tracked b hb;exact hh.mine _ _ _ _ q1 q2
 .intro n p q e hge hg;obtain⟨pb,pc⟩:=p;rcases cls n _ pb pc hg e with⟨⟨_,_,a3,_⟩,_⟩|⟨_,a2,a3⟩
  .exact a3
  .exact hh.pos _ _ _ a3 hge a2
noncomputable def aGn (tab:List (Nat×fV)) (sc:aY) (res:List lL) (items:List SV) (args:SV) (F:Nat->aL) (Q:(Nat->(Nat->Option Obj)->Prop)->St->Prop):Prop :=
 ∀(G:Nat->(Nat->Option Obj)->Prop) (st0:Nat->Option Obj),G 0 st0 ->
  aA8 sc ⟨tab,[(0,Im items G)],upto 3,0,1⟩ ⟨nN (.cons (.yield 2) args) 0,yHp F st0,3⟩ λe st =>
   match e with
   |.exit _=>False
   |_=>Dy st res λ_=>Q G st
def aGd(S:rW)(x:S.X)(G:Nat->(Nat->Option Obj)->Prop)(st:St):Prop :=
 ∃y st',S.post x y/\G (S.items x).length st'/\lI (upto 3) 0 ⟨[],st.hp,st.nx⟩ ⟨[],yHp (S.F1 x y) st',3⟩
theorem rW.okR{f:Nat}{S:rW}{G joins hint:List Nat}{rg:List (Nat×Nat×aY×Nat)}{sc:aY}{res:List lL}{n:Nat}(hc:bO P f G joins hint rg=some (sc,res,n))(hrg:lT P rg)
  (tab:S.X->List (Nat×fV)) (htab:∀x,S.pre x->aO P (tab x))
  (h:∀x,S.pre x->nH (.cons (.yield 2) (S.args x)) n/\aGn (tab x) sc res (S.items x) (S.args x) (S.F0 x) (aGd S x)):S.Ok P f:=by
 refine⟨qR hc,?_⟩;intro x w μ vs T U r0 l st0 J _hU hgc hh0 hm2 hpre hR hY;have hraw:=hh0.raw (st:=st0) rfl;have hG0:GS T w l r0 st0 J 0 st0:=by
  refine⟨λ_ h=>h,λ_ h=>.inl h,λW hcn hf hl=>hY.stb 0 (dom st0) w W hY.start (λ_ h=>h) hf (λb hb=>?_) hl⟩;obtain⟨o,ho⟩:=hb;simp[*]
 obtain⟨hok,hev⟩:=h x hpre;have hev:=hev _ st0 hG0;rw[Lo]at hev;let C:Ctx:={ Bm w T U μ r0 with n:=n };have hC:bD C μ (yHp (S.F0 x) st0) 3 w:=(hh0.to (C':=C) rfl rfl rfl (λ_ _ _ e=>e) hh0.pin).1;have hpin:rH C:=by
  intro id p e;have e':μ id=some p:=e;by_cases hlt:id<FB
  .left; simp only[fbase,hlt,if_true]; exact wE.2 (hC.nx id p e' hlt)
  .left;simp only[fbase,hlt,if_false];obtain⟨o,ho⟩:=hC.fam id p e' (bJ.1 hlt);simp only[hget,hlt,if_false]at ho;split at ho
   .rename_i f' hf'; exact wE.2 (hC.keys _ _ hf')
   .cases ho
 have hg:uG C:=⟨hgc.gok,hgc.gT⟩;have htb:wU P C ⟨tab x,[(0,Im (S.items x) (GS T w l r0 st0 J))],upto 3,0,1⟩:=by
  refine⟨htab x hpre,λlab hd e=>?_,rfl,rfl,rfl,hg⟩;rw[get?_cons]at e;split at e
  .rename_i e0;cases e;subst e0;exact Qk hY hg Nat.zero_lt_one (λo ho=>ho.2.2) hm2 rfl rfl (λq p e=>e)
  .cases e
 have hR':R (aG C μ (yHp (S.F0 x) st0) w) (.cons (.yield 2) (S.args x)) (.func (.yield l) #[] #[]::vs):=by
  simp only[R];exact⟨_,_,rfl,⟨l,0,hm2,rfl⟩,hR⟩
 refine B9 hc hrg (C:=C) rfl hpin rfl rfl htb hC hR' hok (K:=λ_ st=>aGd S x (GS T w l r0 st0 J) st) hev ?_;intro sv st μ1 w' v hk hh1 _ hkd;obtain⟨y,st',hpost,hG,hsub⟩:=hk;let C2:Ctx:={ C with R0:=iV (λ_=>False) w' };have hrep:cR C2 μ1 ⟨[],st.hp,st.nx⟩ ⟨Array.replicate n undef,[]⟩ w':=by
  refine⟨by simp; rfl,rS.nil _ _,λs=>mS _ _ _,(hh1.to (C':=C2) rfl rfl rfl (λ_ _ _ e=>e) hh1.pin).1,⟨λ_ h=>h.elim,λ_ h=>h.elim⟩,Kd.refl _⟩
 obtain⟨⟨μ',hrep'⟩,_⟩:=nF (C:=C2) hpin hrep (λs d w x e=>by cases e) hsub;have hfin:=(hrep'.hep.to (C':=Bm w T U μ r0) rfl rfl rfl (λ_ _ _ e=>e) hrep'.hep.pin).1;refine⟨y,st',μ',hpost,?_,hG.1,hfin,hkd⟩;refine hG.2.2 w' (hfin.raw rfl) (hfin.frm.weak λ_ h=>.inl h) ?_;obtain⟨o,ho,hHo⟩:=hfin.recAt (id:=2) (l:=0) (p:=0) rfl (hfin.pin 2 _ hm2);rw[ho,hHo.2.2]
end Go.Eng
end
section
set_option maxHeartbeats 10000000
open Go Go.Eng Go.Proofs A0 T1 T2 T3 T4 T5 T6 T13 T14 T28 T29 T30
set_option maxRecDepth 100000
namespace T31
mutual
def bB:B->TT->List (B×B)
 |t,.node ids k=>ids.map (λi=>(t,i))++nO t k
def nO:B->TK->List (B×B)
 |_,.nil=>[]
 |t,.cons b s r=>bB (t++[b]) s++nO t r
end
def dH:TK->List (UInt8×TT)
 |.nil=>[]
 |.cons b s r=>(b,s)::dH r
mutual
def htT:TT->Nat
 |.node _ k=>htK k+1
def htK:TK->Nat
 |.nil=>0
 |.cons _ t r=>max (htT t) (htK r)
end
mutual
def G4:TT->Prop
 |.node _ k=>J0 k
def J0:TK->Prop
 |.nil=>True
 |.cons b t r=>b.toNat<128/\G4 t/\J0 r
end
theorem Ao(t:B):∀k:TK,nO t k=(dH k).flatMap λp=>bB (t++[p.1]) p.2
 |.nil=>rfl
 |.cons b s r=>by simp only[nO,dH,List.flatMap_cons,Ao t r]
theorem nT:∀k:TK,cC k=(dH k).map (·.1)
 |.nil=>rfl
 |.cons b s r=>by simp only[cC,dH,bK,nT r]
theorem sB:∀{k:TK} {b:UInt8} {s:TT},Sb (cC k)->(b,s)∈dH k->dN k b=some s
 |.nil,_,_,_,h=>by cases h
 |.cons x u r,b,s,hs,h=>by
  simp only[dN];simp only[cC]at hs;have hs':=aT.1 hs;rcases aR.1 h with e|e
  .grind
  .have hb:b∈cC r:=by rw[nT]; grind
   have:=hs'.1 b hb;rw[if_neg (by rintro rfl; exact gZ _ this)];exact sB hs'.2 e
theorem tG:∀{k:TK} {b:UInt8} {s:TT},(b,s)∈dH k->wfK k->J0 k->wfT s/\b.toNat<128/\G4 s/\htT s<=htK k/\szT s<=szK k
 |.nil,_,_,h,_,_=>by cases h
 |.cons x u r,b,s,h,w,l=>by
  simp only[wfK]at w;simp only[J0]at l;simp only[htK,szK];rcases aR.1 h with e|e
  .grind
  .obtain ⟨h1,h2,h3,h4,h5⟩:=tG e w.2.2 l.2.2
   grind
theorem sL:∀{k:TK},wfK k->(dH k).length<=szK k
 |.nil,_=>aN _
 |.cons x u r,w=>by
  simp only[wfK]at w;have:=sL w.2.2;simp only[dH,bA,szK];omega
theorem aA7{E E':Env}(hμ:∀q p,E.μ (fid 0 q)=some p->E'.μ (fid 0 q)=some p):∀{l:List (bQ×Nat×Nat)} {es:List MapEntry},hZ E (λv=>.fown 0 v 0) l es->hZ E' (λv=>.fown 0 v 0) l es:=by
 intro l;induction l with
 |nil=>intro es h; exact h
 |cons x r ih =>
  intro es h;obtain⟨e,t,h1,h2,h3,h4,h5⟩:=h;obtain⟨b,c,k1,k2⟩:=h3;exact⟨e,t,h1,h2,⟨b,c,hμ _ _ k1,k2⟩,h4,ih h5⟩
theorem Ea(N:Nat->NO):qM (λq=>noO 0 (N q)):=by
 intro E E' _ hμ q o ho c x h;have eo:=solid?_self (dX?_solid ho);have ho':dX? (noO 0 (N q))=some o:=ho;replace eo:o=noO 0 (N q):=eo;cases e:N q with
 |none=>rw[e]at ho'; cases ho'
 |node a n m sz mk =>
  rw[e]at eo;subst eo;obtain⟨cs,rfl,hr⟩:=h;refine⟨cs,rfl,?_⟩;obtain⟨x1,r1,rfl,h1,x2,r2,rfl,h2,h3⟩:=hr;refine⟨x1,_,rfl,?_,x2,_,rfl,?_,h3⟩
  .rcases h1 with h1|⟨b,c',k1,k2⟩
   .exact .inl h1
   .exact .inr ⟨b,c',hμ _ _ k1,k2⟩
  .obtain ⟨b,c',k1,k2⟩:=h2;exact⟨b,c',hμ _ _ k1,k2⟩
 |map l q' =>
  rw[e]at eo;subst eo;obtain⟨h0,es,h1,h2⟩:=h;exact⟨h0,es,h1,aA7 hμ h2⟩
 |arr l =>
  rw[e]at eo;subst eo;obtain⟨cs,h1,h2,h3,h4⟩:=h;refine⟨cs,h1,h2,h3,λi hi=>?_⟩;obtain⟨xs,a,b,d⟩:=h4 i hi;exact⟨xs,a,b,d⟩
def rL(p:B×B):SV:=.cons (.agg (.cons (.str p.1) (.cons (.str p.2) .nil))) .nil
structure AX where
 N:Nat->NO
 T:TT
 v:Nat
 t:B
structure AOk(n:Nat)(x:AX):Prop where
 rep:∃D F,gJ D x.N x.T x.v F
 wf:wfT x.T
 sz:szT x.T<=24
 tk:∀i l q,x.N i=.map l q->Tk l q
 low:G4 x.T
 ht:htT x.T<=n
 ln:x.t.length+htT x.T<=1000000
def caps(v:Nat)(t:B):SV:=.cons (.cptr (.cons (.fown 0 v 0) .nil)) (.cons (.cptr (.cons (.str t) .nil)) .nil)
def Ns(n:Nat):rW where
 X:=AX
 Y:=Unit
 args:=λx=>caps x.v x.t
 pre:=AOk n
 F0:=λx q=>noO 0 (x.N q)
 items:=λx=>(bB x.t x.T).map rL
 post:=λ_ _=>True
 F1:=λx _ q=>noO 0 (x.N q)
theorem Jh:∀T:TT,0<htT T
 |.node _ k=>by grind[htT]
end T31
end
section
set_option maxHeartbeats 10000000
open Go Go.Eng Go.Proofs A0 T1 T2 T3 T4 T5 T6 T13 T14 T28 T29 T30 T31
set_option maxRecDepth 100000
namespace T32
theorem pJ{k:Keep}{hp:List (Nat×aL)}(st:Nat->Option Obj)(i:Nat):gQ k hp (sS st i) (sS st i):=by
 unfold sS;cases st i with
 |none=>exact rfl
 |some o=>exact rfl
theorem wR{k:Keep}{hp:List (Nat×aL)}(st:Nat->Option Obj)(i:Nat):gQ k hp (cJ st i) (cJ st i):=by
 unfold cJ;cases st i with
 |none=>exact rfl
 |some o=>exact rfl
def g48:List Nat:=[0,1,2,3,4]
def c48:aY :=
 .seq (.region g48 [(zo 2 (.box 61 (.s 0))),(zo 3 (.box 9 (.s 1))),(zo 4 (.move (.c (.nilfn))))]) (.seq (.region g48 [(zo 5 (.mkfn 72 [.s 2,.s 3])),(mv 4 5)]) .ret)
theorem e48:bO Tryz.prog 48 g48 [] [] []=some (c48,[.slot 4],6):=by kernel_rfl
def aAe:bC where
 X:=(Nat->NO)×Nat×B
 Y:=Unit
 args:=λx=>.cons (.fown 0 x.2.1 0) (.cons (.str x.2.2) .nil)
 pre:=λ_=>True
 h0:=λx=>[(0,.fam λq=>noO 0 (x.1 q))]
 nx0:=1
 post:=λ_ _=>True
 res:=λx _=>.fn 72 (caps x.2.1 x.2.2)
 h1:=λx _=>[(0,.fam λq=>noO 0 (x.1 q))]
 nx1:=1
theorem Ql:aAe.Ok Tryz.prog 48:=by
 refine Eng.bC.okR e48 .nil (λ_=>[]) (λ_ _=>aO.nil) ?_;rintro⟨N,v,t⟩ _;refine⟨trivial,?_⟩;refine aB () ?_;repeat' (first|apply aA|exact trivial|exact rfl|exact zm N rfl|fail)
def g72:List Nat:=[0,13,15,12,5,23,14,27,29,26,1,2,7,43,44,3,8,48,28]
def c72:aY :=
 .seq (.region g72 [(zo 3 (.box 60 (.s 0)))]) (.seq (.seq (.region g72 [(ld 9 1),(zo 10 (.nilCheck (.s 9))),(fa 11 0 10),(ld 12 11),(zo 13 (.lenSl (.s 12))),(zo 14 (.move (cj 0)))]) (.block 0 (.loop 0 [15,16,17,5,18,19,20,21,22,23,24,14] (.seq (.region g72 [(zo 15 (.bin (.lss) (.s 14) (.s 13)))]) (.seq (.cond (.s 15) .skip (.exit 0)) (.seq (.block 1 (.seq (.region g72 [(zo 16 (.idxSl 1 (.s 12) (.s 14))),(ld 17 16),(mv 5 17)]) (.seq (.region g72 [(ld 18 3),(ld 19 2),(mv 20 5),(zo 21 (.build (.cons (.str []) (.cons (.str []) .nil)) [(0,1,.s 19),(1,1,.s 20)])),(zo 22 (.call (.s 18) [.s 21])),(zo 23 (.not (.s 22)))]) (.cond (.s 23) .ret .skip)))) (.region g72 [(zo 24 (.bin (.add) (.s 14) (cj 1))),(mv 14 24)]))))))) (.seq (.region g72 [(ld 25 1),(zo 26 (.call (.c (.fn 73)) [.s 25])),(zo 27 (.lenSl (.s 26))),(zo 28 (.move (cj 0)))]) (.block 2 (.loop 1 [29,30,31,7,32,33,34,35,36,37,38,39,40,41,42,43,49,28] (.seq (.region g72 [(zo 29 (.bin (.lss) (.s 28) (.s 27)))]) (.seq (.cond (.s 29) .skip (.exit 2)) (.seq (.block 3 (.seq (.region g72 [(zo 30 (.idxSl 1 (.s 26) (.s 28))),(ld 31 30),(mv 7 31)]) (.seq (.join 2 [32,33,34,35,36,37,38,39,40,41,42,43] (.drawn g72 (.pure 0 (ld 32 1) (.pure 1 (zo 33 (.nilCheck (.s 32))) (.pure 2 (fa 34 1 33) (.pure 4 (mv 36 7) (.pure 6 (ld 38 2) (.pure 7 (mv 39 7) (.pure 8 (zo 40 (.cnv (.i32) (.s 39))) (.pure 9 (zo 41 (.runeS (.s 40))) (.pure 10 (zo 42 (.bin (.add) (.s 38) (.s 41))) (.eff 3 (ld 35 34) [(ld 38 2)] (.eff 5 (zo 37 (.mlook (.nilptr) false (.i (.u8)) (.s 35) (.s 36))) [(ld 38 2)] (.eff 11 (zo 43 (.call (.c (.fn 48)) [.s 37,.s 42])) [] .done .none) .none) .none)))))))))))) (.block 4 (.rangeY (.s 43) [44] (.region g72 [(zo 8 (.alloc 32 (.cons (.str []) (.cons (.str []) .nil)))),⟨none,none,.store 2 (.s 8) (.s 44),[]⟩]) (.block 5 (.seq (.region g72 [(ld 45 3),(zo 46 (.load 2 true (.s 8))),(zo 47 (.call (.s 45) [.s 46])),(zo 48 (.not (.s 47)))]) (.cond (.s 48) .ret .skip)))))))) (.region g72 [(zo 49 (.bin (.add) (.s 28) (cj 1))),(mv 28 49)]))))))))
theorem e72:bO Tryz.prog 72 g72 [1000000,1000001,1000002,1000003,1000004,1000005,1000006,1000007,1000008,1000009,1000010,1000011,1000012] [35,43] []=some (c72,[],50):=by kernel_rfl
theorem it0:(Ns 0).Ok Tryz.prog 72:=by
 refine⟨qR e72,?_⟩;intro x w μ vs T U r0 l st0 J _ _ _ _ hp;have:=Jh x.T;have:=hp.ht;omega
theorem item1{t:B}{ids:List B}{k:TK}{j:Nat}(h:j<ids.length):((bB t (.node ids k)).map rL)[j]?=some (rL (t,ids.getD j [])):=by
 simp only[bB,eD,List.map_map]
 grind
theorem aEt{A ids:List B}(h:A.take ids.length=ids){j:Nat}(hj:j<ids.length):A.getD (j:Int).toNat []=ids.getD j []:=by
 grind
def tT(t:B)(k:TK)(j:Nat):Nat:=(((dH k).take j).flatMap λp=>bB (t++[p.1]) p.2).length
theorem byte_at{k:TK}{j:Nat}{b:UInt8}{s:TT}(h:(dH k)[j]?=some (b,s)):(bsI (cC k)).getD (0+(j:Int).toNat) 0=bI b:=by
 rw[aP,cM,aK]
 grind[bsI,nT]
theorem Sl{t:B}{ids:List B}{k:TK}{j i:Nat}{b:UInt8}{s:TT}{p:B×B}(h:(dH k)[j]?=some (b,s))(hi:(bB (t++[b]) s)[i]?=some p) :
  ((bB t (.node ids k)).map rL)[ids.length+tT t k j+i]?=some (rL p):=by
 rw[eC];have hj:j<(dH k).length:=(bZ.1 h).1;have e:(dH k)=(dH k).take j++(b,s)::(dH k).drop (j+1):=by
  grind[List.getElem_cons_drop,List.take_append_drop]
 have hlt:i<(bB (t++[b]) s).length:=(bZ.1 hi).1;have key:(bB t (.node ids k))[ids.length+tT t k j+i]?=some p:=by
  simp only[bB];rw[Ao,dA (by simp; omega)]
  grind[tT]
 rw[key];rfl
theorem Tq{t:B}{k:TK}{j:Nat}{b:UInt8}{s:TT}(h:(dH k)[j]?=some (b,s)):tT t k (j+1)=tT t k j+(bB (t++[b]) s).length:=by
 unfold tT
 grind[List.take_succ_eq_append_getElem]
theorem X0{t:B}{ids:List B}{k:TK}:ids.length+tT t k (dH k).length=((bB t (.node ids k)).map rL).length:=by
 grind[tT,Ao,bB]
theorem it1{n:Nat}(ih:(Ns n).Ok Tryz.prog 72):(Ns (n+1)).Ok Tryz.prog 72:=by
 refine rW.okR e72 .nil (λ_=>[(73,.m aAo),(48,.m aAe),(72,.y (Ns n))]) (by grind[aO.m,Qu,Ql,aO.y,aO.nil]) ?_;rintro⟨N,T,v,t⟩ ⟨⟨D,F,hrep⟩,hwf,hsz,htk,hlow,hht,hln⟩;cases T with
 |node ids k =>
 refine⟨trivial,?_⟩;intro G st hG;replace hsz:ids.length+szK k<=24:=hsz;replace hht:htK k+1<=n+1:=hht;replace hln:t.length+(htK k+1)<=1000000:=hln;replace hwf:Srt ids/\Sb (cC k)/\wfK k:=hwf;replace hlow:J0 k:=hlow;replace htk:∀i l q,N i=.map l q->Tk l q:=htk;replace hrep:gJ D N (.node ids k) v F:=hrep;have hkl:(cC k).length<=24:=by grind[sL,nT]
 obtain⟨a,m,mk,l,q,H,hnv,hlst,hmp,_,hpm,hrk,_⟩:=hrep;refine aB (noO 0 (.node a ids.length m ((ids.length+szK k:Nat):Int) mk)) (aA (congrArg (noO 0) hnv) ?_);refine⟨⟨Nat×(Nat->Option Obj),λx=>x.1<=ids.length/\G x.1 x.2,λx=>[(14,.int .i64 (x.1:Int))],λx=>[(1,.fam (sS x.2))],λx=>ids.length-x.1⟩,(0,st),⟨aS _,hG⟩,?_,?_⟩
 .repeat' (first|apply aA|exact trivial|exact rfl|exact zm N rfl|exact λ(i:Nat)=>pJ _ i|fail)
 rintro⟨j,st⟩ ⟨(hj:j<=ids.length),(hG:G j st)⟩;repeat' (first|refine aA ?_ ?_)
 .refine λ(hlt:decide ((j:Int)<(ids.length:Int))=true)=>?_;replace hlt:j<ids.length:=by grind
  rcases hlst with⟨_,h0⟩|⟨A,hA,hA0,hA1,hA2⟩
  .rw [h0]at hlt; exact absurd hlt (cO _)
  have g0:(0:Int)<=(j:Int):=by omega
  have g1:(j:Int)<(ids.length:Int):=by omega
  repeat' (first|apply aA|(with_reducible first|exact g0|exact g1))
  refine aB (noO 0 (.arr A)) (aA (congrArg (noO 0) hA) ?_);repeat' (first|apply aA|exact rfl)
  .omega
  refine aB j (aB st (aB (rL (t,ids.getD j [])) (aA hG (aA rfl (aA (item1 hlt) (aA ?_ ?_))))))
  .repeat' (first|apply aA|exact trivial|exact rfl|exact aEt hA2 hlt|fail)
  refine λ(st':Nat->Option Obj) (hG':G (j+1) st')=>?_;have g4:j+1<=ids.length:=hlt;have g5:ids.length-(j+1)<ids.length-j:=by omega
  have g2:-9223372036854775808<=(j:Int)+1:=by omega
  have g3:(j:Int)+1<=9223372036854775807:=by omega
  repeat' (first|apply aA|exact zf|refine zt ?_|(with_reducible first|exact g2|exact g3))
  refine aB (j+1,st') (aA ⟨g4,hG'⟩ (aA ?_ g5));repeat' (first|apply aA|exact trivial|exact rfl|exact zm N rfl|exact λ(i:Nat)=>pJ _ i|fail)
 .refine λ(hlt:decide ((j:Int)<(ids.length:Int))=false)=>?_;replace hlt:j=ids.length:=by grind
  refine aB ⟨N,v,a,ids.length,m,((ids.length+szK k:Nat):Int),mk,l,q,cC k⟩ (aB [0] ?_);have hb:BOk ⟨N,v,a,ids.length,m,((ids.length+szK k:Nat):Int),mk,l,q,cC k⟩:=⟨hnv,hmp,htk _ _ _ hmp,hpm,hwf.2.1,hkl⟩;repeat' (first|exact hb|apply aA|exact trivial|exact rfl|exact zm N rfl|fail)
  refine λ(_:Unit) (_:True)=>?_;subst hlt;refine⟨⟨Nat×(Nat->Option Obj),λx=>x.1<=(dH k).length/\G (ids.length+tT t k x.1) x.2,λx=>[(28,.int .i64 (x.1:Int))],λx=>[(0,.fam λq=>noO 0 (N q)),(1,.fam (sS x.2)),(4,.arr 5 1 (cC k).length (lc bE 0 (bsI (cC k))))],λx=>(dH k).length-x.1⟩,(0,st),⟨aS _,hG⟩,?_,?_⟩
  .repeat' (first|apply aA|exact trivial|exact rfl|exact zr N rfl rfl|exact λ(i:Nat)=>pJ _ i|exact cE (λa=>dC _ _ _ a)|fail)
  rintro⟨j,st⟩ ⟨(hj:j<=(dH k).length),(hG:G (ids.length+tT t k j) st)⟩;repeat' (first|refine aA ?_ ?_)
  .refine λ(hlt:decide ((j:Int)<((cC k).length:Int))=true)=>?_;have hbl:(cC k).length=(dH k).length:=by rw[nT,cS]
   replace hlt:j<(dH k).length:=by grind
   obtain⟨b,s,hbs⟩:∃b s,(dH k)[j]?=some (b,s):=⟨_,_,aM hlt⟩;have hmem:=jF hbs;obtain⟨f1,f2,f3,f4,f5⟩:=tG hmem hwf.2.2 hlow;obtain⟨u,τ,G1,G2,hmg,hru,_⟩:=oQ hrk (sB hwf.2.1 hmem) hwf.2.1;have hbv:(bsI (cC k)).getD (0+(j:Int).toNat) 0=bI b:=byte_at hbs;have g0:(0:Int)<=(j:Int):=by omega
   have g1:(j:Int)<((cC k).length:Int):=by omega
   have g2:0+(j:Int).toNat<(cC k).length:=by omega
   have hbI:0<=bI b/\bI b<128:=by unfold bI; omega
   have q1:-2147483648<=(bsI (cC k)).getD (0+(j:Int).toNat) 0:=by omega
   have q2:(bsI (cC k)).getD (0+(j:Int).toNat) 0<=2147483647:=by omega
   have q3:0<=(bsI (cC k)).getD (0+(j:Int).toNat) 0:=by omega
   have q4:(bsI (cC k)).getD (0+(j:Int).toNat) 0<128:=by omega
   have q5:t.length+1<=9223372036854775807:=by omega
   have ht':t++[UInt8.ofNat ((bsI (cC k)).getD (0+(j:Int).toNat) 0).toNat]=t++[b]:=by grind[bI,Int.toNat_natCast,UInt8.ofNat_toNat]
   have hmg':mget l (.i .u8 ((bsI (cC k)).getD (0+(j:Int).toNat) 0))=some (u,τ):=by rw[hbv]; exact hmg
   repeat' (first|apply aA|(with_reducible first|exact g0|exact g1|exact g2))
   refine⟨⟨Unit,λ_=>True,λ_=>[(43,.fn 72 (caps u (t++[b])))],λ_=>[(0,.fam λq=>noO 0 (N q))],λ_=>0⟩,?_,?_⟩
   .repeat' (first|apply aA|exact trivial)
    .exact q1
    .exact q2
    .exact q3
    .exact q4
    .exact q5
    refine aB (noO 0 (.node a ids.length m ((ids.length+szK k:Nat):Int) mk)) (aA (congrArg (noO 0) hnv) ?_);repeat' (first|apply aA|exact trivial|exact rfl)
    refine aB (noO 0 (.map l q)) (aA (congrArg (noO 0) hmp) ?_);refine mZ.zI hmg' ?_;repeat' (first|apply aA|exact trivial|exact rfl)
    refine aB (N,u,t++[b]) (aB [0] ?_);repeat' (first|apply aA|exact trivial|exact rfl|exact zm N rfl|exact ht')
    refine λ(_:Unit) (_:True)=>?_;repeat' (first|apply aA|exact trivial)
    refine aB () ?_;repeat' (first|apply aA|exact trivial|exact rfl|exact zr N rfl rfl|exact λ(i:Nat)=>pJ _ i|grind[cE,dC]|fail)
   refine λ(_:Unit) (_:True)=>?_;refine aB ⟨N,s,u,t++[b]⟩ (aB ⟨Nat->Option Obj,λi st=>G (ids.length+tT t k j+i) st,λst=>[(1,.fam (sS st)),(2,.hid 0 0),(3,.cells 60 (.cons (.yield 2) .nil)),(4,.arr 5 1 (cC k).length (lc bE 0 (bsI (cC k))))],6⟩ ?_);repeat' (first|apply aA|exact trivial|exact rfl)
   .exact ⟨⟨D,G1,hru⟩,f1,(by grind),htk,f3,(by grind),(by grind)⟩
   .exact Ea N
   .exact λ_ _=>Ea N
   .exact λ_=>rfl
   .refine λ(g:Nat->Option Obj)=>aB st (aA hG ?_);repeat' (first|apply aA|exact trivial|exact rfl|exact λ(i:Nat)=>pJ _ i|exact λ(i:Nat)=>wR _ i|grind[cE,dC]|fail)
   .refine λ(i:Nat) (st:Nat->Option Obj) (g:Nat->Option Obj) (item:SV) (hG:G (ids.length+tT t k j+i) st) (hit:((bB (t++[b]) s).map rL)[i]?=some item)=>?_;rw[eC,aF]at hit;obtain⟨p,hp,rfl⟩:=hit;have hit2:=Sl (ids:=ids) hbs hp;repeat' (first|apply aA|exact rfl)
    refine aB (ids.length+tT t k j+i) (aB st (aB (rL p) (aA hG (aA rfl (aA hit2 (aA ?_ ?_))))))
    .repeat' (first|apply aA|exact trivial|exact rfl)
    refine λ(st':Nat->Option Obj) (hG':G (ids.length+tT t k j+i+1) st')=>?_;repeat' (first|apply aA|exact rfl|exact zf|refine zt ?_|fail)
    refine aB st' (aA hG' ?_);repeat' (first|apply aA|exact trivial|exact rfl|exact λ(i:Nat)=>pJ _ i|exact λ(i:Nat)=>wR _ i|grind[cE,dC]|fail)
   .refine λ(_:Unit) (st:Nat->Option Obj) (_:True) (hG:G (ids.length+tT t k j+((bB (t++[b]) s).map rL).length) st)=>?_;repeat' (first|refine aA ?_ ?_)
    .omega
    .omega
    have hG2:G (ids.length+tT t k (j+1)) st:=by
     grind[Tq]
    refine aB (j+1,st) (aA ⟨hlt,hG2⟩ (aA ?_ (by grind)));repeat' (first|apply aA|exact trivial|exact rfl|exact zm N rfl|exact λ(i:Nat)=>pJ _ i|grind[cE,dC]|fail)
  .refine λ(hlt:decide ((j:Int)<((cC k).length:Int))=false)=>?_;have hbl:(cC k).length=(dH k).length:=by rw[nT,cS]
   replace hlt:j=(dH k).length:=by grind
   subst hlt;refine aB () (aB st (aA trivial (aA (X0▸hG) ?_)));repeat' (first|apply aA|exact trivial|exact rfl|exact zm N rfl|exact λ(i:Nat)=>pJ _ i|fail)
theorem Se:∀n,(Ns n).Ok Tryz.prog 72
 |0=>it0
 |n+1=>it1 (Se n)
end T32
end
section
set_option maxHeartbeats 10000000
open Go Go.Eng Go.Proofs A0 T1 T2 T3 T4 T5 T6 T11 T13 T14 T28 T29 T30 T31 T32
set_option maxRecDepth 100000
namespace T33
def aDv:rW:={ Ns 0 with pre:=λx=>AOk (htT x.T) x }
theorem aBz:aDv.Ok Tryz.prog 72 :=
 ⟨(Se 0).call,λx w μ vs T U r0 l st0 J h1 h2 h3 h4 h5 h6 h7=>(Se (htT x.T)).does x w μ vs T U r0 l st0 J h1 h2 h3 h4 h5 h6 h7⟩
def kyE(K:List Ky)(j:Nat):SV:=jN (K.getD j k0)
theorem aCd{k:Keep}{hp:List (Nat×aL)}{K:List Ky}{i n:Nat}{p:Ky}{e:Nat->SV}(h:K[i]?=some p)(he:e 0=jN p)(hn:n=i+1):∀j,j<n->lM k (sub k hp 200) (gH i (kyE K) e j) (kyE K j):=by
 intro j hj;subst hn;have hx:gH i (kyE K) e j=kyE K j:=by
  unfold gH;by_cases hji:j<i
  .have hb:Nat.blt j i=true:=by simp[*]
   simp[*]
  .have hb:Nat.blt j i=false:=by
    grind[Nat.blt_eq]
   have:j=i:=by omega
   simp_all[Nat.sub_self,kyE,List.getD_eq_getElem?_getD]
 rw[hx];exact Or.inl (kI _ _ _ _)
def g71:List Nat:=[0,1,6,7,5,2,4]
def c71:aY :=
 .seq (.region g71 [(zo 2 (.box 29 (.s 0))),(zo 4 (.move (.c (.nilsl))))]) (.seq (.seq (.region g71 [(mv 6 1)]) (.block 0 (.rangeY (.s 6) [7] (.region g71 [(zo 5 (.alloc 32 (.cons (.str []) (.cons (.str []) .nil)))),⟨none,none,.store 2 (.s 5) (.s 7),[]⟩]) (.block 1 (.region g71 [(ld 8 2),(zo 9 (.load 2 true (.s 5))),(zo 10 (.buildSl 32 2 1 (.cons (.str []) (.cons (.str []) .nil)) [(0,2,.s 9)])),(zo 11 (.app 32 2 32 (.s 8) (.s 10))),⟨none,none,.store 1 (.s 2) (.s 11),[]⟩]))))) (.seq (.region g71 [(ld 12 2),(mv 4 12)]) .ret))
theorem e71:bO Tryz.prog 71 g71 [] [] []=some (c71,[.slot 4],13):=by kernel_rfl
def aDx:bC where
 X:=AX
 Y:=Unit
 args:=λx=>.cons .nilsl (.cons (.fn 72 (caps x.v x.t)) .nil)
 pre:=λx=>AOk (htT x.T) x/\(bB x.t x.T).length<=1000000
 h0:=λx=>[(0,.fam λq=>noO 0 (x.N q))]
 nx0:=1
 post:=λ_ _=>True
 res:=λx _=>.lsl 1 2 (bB x.t x.T).length
 h1:=λx _=>[(0,.fam λq=>noO 0 (x.N q)),(1,.arr 32 2 (bB x.t x.T).length (kyE (bB x.t x.T)))]
 nx1:=2
theorem aAg:aDx.Ok Tryz.prog 71:=by
 refine Eng.bC.okR e71 .nil (λ_=>[(72,.y aDv)]) (λ_ _=>aO.y aBz aO.nil) ?_;rintro⟨N,T,v,t⟩ ⟨(hok:AOk (htT T) ⟨N,T,v,t⟩),(hlen:(bB t T).length<=1000000)⟩;generalize hK:bB t T=K at hlen;refine⟨trivial,?_⟩;refine aB ⟨N,T,v,t⟩ (aB ⟨Nat,λi v=>v=i/\i<=K.length,λv=>[(1,.cells 29 (.cons (.lsl 3 2 v) .nil)),(3,.arr 32 2 v (kyE K))],4⟩ ?_);repeat' (first|apply aA|exact trivial|exact rfl)
 .exact hok
 .exact Ea N
 .exact λ_ _=>Ea N
 .exact λ_=>rfl
 .refine λ(g:Nat->Option Obj)=>aB 0 (aA ⟨rfl,aS _⟩ ?_);repeat' (first|apply aA|exact trivial|exact rfl|exact λ(i:Nat)=>wR _ i|fail)
 .rintro (i:Nat) (v:Nat) (g:Nat->Option Obj) (item:SV) ⟨(hvi:v=i),(hi:i<=K.length)⟩ (hit:((bB t T).map rL)[i]?=some item);subst hvi;rw[hK,eC,aF]at hit;obtain⟨p,hp,rfl⟩:=hit;have hlt:v<K.length:=(bZ.1 hp).1;repeat' (first|apply aA|exact rfl)
  .omega
  .omega
  refine aB (v+1) (aA ⟨rfl,hlt⟩ ?_);repeat' (first|apply aA|exact trivial|exact rfl|exact λ(i:Nat)=>wR _ i|exact aCd hp rfl rfl|fail)
 .rintro (_:Unit) (v:Nat) (_:True) ⟨(hv:v=((bB t T).map rL).length),_⟩;rw[cS,hK]at hv;subst hv;refine aB () ?_;repeat' (first|apply aA|exact trivial|exact rfl|exact zm N rfl|fail)
  .rw [hK]
  .rw [hK]
  .exact λ(j:Nat) _=>by rw[hK]; exact Or.inl (kI _ _ _ _)
def g47:List Nat:=[0,2]
def c47:aY :=
 .seq (.region g47 [(zo 2 (.move (.c (.nilsl))))]) (.seq (.region g47 [(mv 3 0),(zo 4 (.call (.c (.fn 71)) [.c (.nilsl),.s 3])),(mv 2 4)]) .ret)
theorem e47:bO Tryz.prog 47 g47 [] [] []=some (c47,[.slot 2],5):=by kernel_rfl
def aD8:bC where
 X:=AX
 Y:=Unit
 args:=λx=>.cons (.fn 72 (caps x.v x.t)) .nil
 pre:=λx=>AOk (htT x.T) x/\(bB x.t x.T).length<=1000000
 h0:=λx=>[(0,.fam λq=>noO 0 (x.N q))]
 nx0:=1
 post:=λ_ _=>True
 res:=λx _=>.lsl 1 2 (bB x.t x.T).length
 h1:=λx _=>[(0,.fam λq=>noO 0 (x.N q)),(1,.arr 32 2 (bB x.t x.T).length (kyE (bB x.t x.T)))]
 nx1:=2
theorem aAu:aD8.Ok Tryz.prog 47:=by
 refine Eng.bC.okR e47 .nil (λ_=>[(71,.m aDx)]) (λ_ _=>aO.m aAg aO.nil) ?_;rintro⟨N,T,v,t⟩ ⟨(hok:AOk (htT T) ⟨N,T,v,t⟩),(hlen:(bB t T).length<=1000000)⟩;refine⟨trivial,?_⟩;refine aB ⟨N,T,v,t⟩ (aB [0] ?_);repeat' (first|exact hok|exact hlen|apply aA|exact trivial|exact rfl|exact zm N rfl|fail)
 refine λ(_:Unit) (_:True)=>?_;refine aB () ?_;repeat' (first|apply aA|exact trivial|exact rfl|exact zr N rfl rfl|exact lz λ_=>rfl|fail)
def g16:List Nat:=[4,0,2]
def c16:aY :=
 .seq (.region g16 [(zo 2 (.move (.c (.nilsl))))]) (.seq (.seq (.region g16 [(mv 3 0),(zo 4 (.ptrEq false (.s 3) (.c (.nilptr))))]) (.cond (.s 4) (.seq (.region g16 [(zo 2 (.move (.c (.nilsl))))]) .ret) .skip)) (.seq (.region g16 [(mv 5 0),(zo 6 (.nilCheck (.s 5))),(fa 7 0 6),(ld 8 7),(zo 9 (.call (.c (.fn 48)) [.s 8,.c (.str [])])),(zo 10 (.call (.c (.fn 47)) [.s 9])),(mv 2 10)]) .ret))
theorem e16:bO Tryz.prog 16 g16 [] [] []=some (c16,[.slot 2],11):=by kernel_rfl
def Zj:bC where
 X:=AX
 Y:=Unit
 args:=λ_=>.cons (.own 0 0) .nil
 pre:=λx=>AOk (htT x.T) x/\(bB x.t x.T).length<=1000000/\x.t=[]
 h0:=λx=>tH 0 1 x.v x.N
 nx0:=2
 post:=λ_ _=>True
 res:=λx _=>.lsl 2 2 (bB x.t x.T).length
 h1:=λx _=>(2,.arr 32 2 (bB x.t x.T).length (kyE (bB x.t x.T)))::tH 0 1 x.v x.N
 nx1:=3
theorem Ml:Zj.Ok Tryz.prog 16:=by
 refine Eng.bC.okR e16 .nil (λ_=>[(48,.m aAe),(47,.m aD8)]) (by grind[aO.m,Ql,aAu,aO.nil]) ?_;rintro⟨N,T,v,t⟩ ⟨(hok:AOk (htT T) ⟨N,T,v,t⟩),(hlen:(bB t T).length<=1000000),(ht:t=[])⟩;subst ht;refine⟨trivial,?_⟩;repeat' (first|apply aA|exact zf|refine zt ?_|fail)
 refine aB (N,v,[]) (aB [1] ?_);repeat' (first|apply aA|exact trivial|exact rfl|exact zm N rfl|fail)
 refine λ(_:Unit) (_:True)=>?_;refine aB ⟨N,T,v,[]⟩ (aB [1] ?_);repeat' (first|exact hok|exact hlen|apply aA|exact trivial|exact rfl|exact zr N rfl rfl|fail)
 refine λ(_:Unit) (_:True)=>?_;refine aB () ?_;repeat' (first|apply aA|exact trivial|exact rfl|exact zr N rfl rfl|exact lz λ_=>rfl|fail)
end T33
end
section
set_option maxHeartbeats 10000000
open Go Go.Eng Go.Proofs T1 T2 T3 T7 T4 T13 T14 T23 T28 T30 T31 D1 D2 D3 D6
set_option maxRecDepth 100000
namespace D9
def Dd:Dg:=λids ks=>kQ ⟨ids,ks.map (·.1),ks.map (·.2)⟩
def ndT:TT->ND
 |.node ids k=>⟨ids,(oX Dd k).map (·.1),(oX Dd k).map (·.2)⟩
theorem tB:∀T:TT,iK Dd T=kQ (ndT T)
 |.node _ _=>rfl
theorem zY{D:Dg}:∀k:TK,(oX D k).map (·.1)=cC k
 |.nil=>rfl
 |.cons b t r=>by simp only[oX,bK,zY r,cC]
theorem pZ{D:Dg}:∀k:TK,(oX D k).map (·.2)=(dH k).map λp=>iK D p.2
 |.nil=>rfl
 |.cons b t r=>by simp only[oX,bK,pZ r,dH]
def Mk(N N':Nat->NO):Prop:=∀x,N' x=N x\/∃a n m sz mk mk',N x=.node a n m sz mk/\N' x=.node a n m sz mk'
theorem Mk.refl(N:Nat->NO):Mk N N:=λ_=>.inl rfl
theorem Mk.trans{A B C:Nat->NO}(h:Mk A B)(k:Mk B C):Mk A C:=by
 intro x;rcases h x with e|⟨a,n,m,sz,mk,mk',e1,e2⟩<;>rcases k x with f|⟨a',n',m',sz',mk1,mk1',f1,f2⟩
 .simp [*]
 .grind
 .simp [*]
 grind
theorem Mk.tk{N N':Nat->NO}(h:Mk N N')(t:∀i l q,N i=.map l q->Tk l q):∀i l q,N' i=.map l q->Tk l q:=by
 intro i l q e;rcases h i with f|⟨_,_,_,_,_,_,_,f⟩
 .grind
 grind
def Ko(N:Nat->NO)(v:Nat)(o:NO):Nat->NO:=λx=>bif Nat.beq x v then o else N x
theorem Cz(N:Nat->NO)(v:Nat)(o:NO):Ko N v o v=o:=by grind[Ko,Nat.beq_refl]
theorem Nd{N:Nat->NO}{v x:Nat}{o:NO}(h:x≠v):Ko N v o x=N x:=by
 grind[Ko,Nat.eq_of_beq_eq_true]
theorem Yg{N:Nat->NO}{v a n m:Nat}{sz:Int}{mk mk':B}(h:N v=.node a n m sz mk):Mk N (Ko N v (.node a n m sz mk')):=by
 intro x
 grind[Cz,Nd]
theorem mG:∀{k:TK} {b:UInt8} {s:TT},dN k b=some s->b∈cC k
 |.nil,_,_,h=>by cases h
 |.cons x t r,b,s,h=>by
  simp only[dN]at h;simp only[cC];by_cases e:x=b
  .simp [*]
  simp_all[mG]
theorem Cy:∀{k:TK} {b:UInt8} {s:TT},dN k b=some s->Sb (cC k)->lK k b s=k
 |.nil,_,_,h,_=>by cases h
 |.cons x t r,b,s,h,hs=>by
  simp only[dN]at h;simp only[lK];simp only[cC]at hs;have hs':=aT.1 hs;by_cases e:x=b
  .grind
  .rw [if_neg e]at h;have hlt:=hs'.1 b (mG h);rw[if_neg e,if_neg (λh'=>gZ _ (UInt8.lt_trans hlt h'))];exact congrArg (TK.cons x t) (Cy h hs'.2)
theorem Uh{D:Dg}{N:Nat->NO}:∀{k:TK} {l:List (bQ×Nat×Nat)} {G G':Nat->Prop},(∀x,G x↔G' x)->kK D N k l G->kK D N k l G'
 |.nil,_,_,_,e,h=>λx hx=>h x ((e x).2 hx)
 |.cons _ _ _,_,_,_,e,h=>by
  grind[kK]
theorem Hp{D:Dg}{N:Nat->NO}{k:TK}{l:List (bQ×Nat×Nat)}{G:Nat->Prop}{b:UInt8}{s:TT}(h:kK D N k l G)(hg:dN k b=some s)(hs:Sb (cC k)) :
  ∃u τ G1,mget l (fY b)=some (u,τ)/\gJ D N s u G1/\(∀x,G1 x->G x)/\∀N',gJ D N' s u G1->(∀x,¬G1 x->N' x=N x)->kK D N' k l G:=by
 obtain⟨u,τ,G1,G2,h1,h2,h3,h4,h5,_⟩:=oQ h hg hs
 grind[Cy,Uh]
theorem sH(n:Nat)(h:n<18446744073709551616):(Lib.itoa (n:Int)).length<=20:=by
 rw[Lib.itoa_nonneg,Lib.decDigits_length];rcases kB n with rfl|h1
 .grind [Lib.nDigits_small]
 .have:=Lib.numDigits_eq n h1 h; grind
theorem sI{M:Nat}(hM:M<18446744073709551616):∀{l:List B},(∀s∈l,s.length<=M)->(dG l).length<=l.length*(M+21)
 | [],_=>aS _
 |s::l,h=>by
  have ih:=sI hM (l:=l) (by grind);have h1:=h s aZ;have h2:=sH s.length (by omega);show(((s::l).map λs=>Lib.itoa (s.length:Int)++58::s).flatten).length<=_;rw[bK,iJ,bF,bF,bA];replace ih:((l.map λs=>Lib.itoa (s.length:Int)++58::s).flatten).length<=l.length*(M+21):=ih
  grind[Nat.succ_mul]
theorem zQ(t:B):(yW t).length<=16:=by
 unfold yW;have:=Ma (nA t (jI t) (t.length/8+1));rw[bF];have e:∀n:Nat,((List.replicate n ([48]:B)).flatten).length=n:=λn=>by simp
 rw[e];omega
theorem Lk(n:ND):(kQ n).length<=16:=by
 unfold kQ;split
 .exact zQ _
 simp
theorem F9(T:TT):(iK Dd T).length<=16:=by grind[tB,Lk]
theorem wA{n:ND}(h:∀s∈n.kids,s.length<=16):∀j,∀s∈dO n j,s.length<=16
 |0,_,hs=>by cases hs
 |j+1,s,hs=>by
  simp only[dO,bT,aR,eO,or_false]at hs;rcases hs with hs|rfl|rfl
  .exact wA h j s hs
  .grind
  grind
mutual
def shT:TT->Prop
 |.node ids k=>(∀i∈ids,i.length<=1000000)/\shK k
def shK:TK->Prop
 |.nil=>True
 |.cons _ t r=>shT t/\shK r
end
theorem Js:∀{k:TK} {b:UInt8} {s:TT},(b,s)∈dH k->shK k->shT s
 |.nil,_,_,h,_=>by cases h
 |.cons x u r,b,s,h,l=>by
  simp only[shK]at l;rcases aR.1 h with e|e
  .cases e; exact l.1
  .exact Js e l.2
structure DX where
 N:Nat->NO
 T:TT
 v:Nat
 F:Nat->Prop
structure DOk(n:Nat)(x:DX):Prop where
 rep:gJ Dd x.N x.T x.v x.F
 wf:wfT x.T
 sz:szT x.T<=24
 tk:∀i l q,x.N i=.map l q->Tk l q
 low:G4 x.T
 ht:htT x.T<=n
 sh:shT x.T
structure DPo(x:DX)(y:Nat->NO):Prop where
 mrk:Mk x.N y
 out:∀z,¬x.F z->y z=x.N z
 rep:gJ Dd y x.T x.v x.F
theorem J6{T:TT}(hw:wfT T)(hs:szT T<=24)(hl:shT T):((ndT T).ids.length<=100000/\(ndT T).kids.length<=100000)/\(dG (cA (ndT T)++dO (ndT T) (ndT T).kids.length)).length<=140737488355328:=by
 cases T with
 |node ids k =>
 replace hw:Srt ids/\Sb (cC k)/\wfK k:=hw;replace hs:ids.length+szK k<=24:=hs;replace hl:(∀i∈ids,i.length<=1000000)/\shK k:=hl;have hkl:=sL hw.2.2;have e2:(ndT (.node ids k)).kids=(dH k).map λp=>iK Dd p.2:=pZ k;have e3:(ndT (.node ids k)).kids.length=(dH k).length:=by simp[*]
 have e1:(ndT (.node ids k)).ids=ids:=rfl;refine⟨⟨by grind,by omega⟩,?_⟩;refine aV (sI (M:=1000000) (by decide) ?_) ?_
 .intro s hs';rcases bT.1 hs' with h|h
  .simp only [D6.cA,aR]at h;rcases h with rfl|rfl|h
   .decide
   .grind [sH]
   grind
  .refine aV (wA ?_ _ s h) (by decide);intro x hx;rw[e2]at hx;obtain⟨p,_,rfl⟩:=cD.1 hx;exact F9 _
 grind[mY]
end D9
end
section
set_option maxHeartbeats 10000000
open Go Go.Eng Go.Proofs T7 T8 T9 T32 A0 T1 T2 T3 T4 T5 T6 T13 T14 T23 T25 T28 T29 T30 T31 D3 D6 D9
set_option maxRecDepth 100000
namespace D10
def kdL(k:TK):List B:=(oX Dd k).map (·.2)
structure LI(N:Nat->NO)(H:Nat->Prop)(k:TK)(l:List (bQ×Nat×Nat))(j:Nat)(N':Nat->NO):Prop where
 le:j<=(dH k).length
 mrk:Mk N N'
 out:∀z,¬H z->N' z=N z
 rep:kK Dd N' k l H
theorem Fk{k:Keep}{hp:List (Nat×aL)}{n:Nat}{L L':List B}(h:L=L'):∀i,i<n->lM k (sub k hp 200) (idE (L.getD i [])) (idE (L'.getD i [])):=by
 subst h;exact λi _=>Or.inl (fS _ _ _ _)
def Rc:bC:=Dn.mof B (λx y=>y=kQ x) (λ_ y=>.str y)
theorem zA:Rc.Ok Tryz.prog 19:=Eng.Spec.jW D8.uO λ_ _=>⟨_,rfl,rfl⟩
theorem V5{k:TK}{j:Nat}{b:UInt8}{s:TT}(h:(dH k)[j]?=some (b,s)):(cC k).take (j+1)=(cC k).take j++[b]:=by
 grind[nT,List.take_add_one]
theorem Xc{k:TK}{j:Nat}{b:UInt8}{s:TT}(h:(dH k)[j]?=some (b,s)):(kdL k).take (j+1)=(kdL k).take j++[iK Dd s]:=by
 grind[kdL,pZ,List.take_add_one]
theorem An(k:TK):(kdL k).length=(dH k).length:=by
 grind[kdL,pZ]
theorem aB4{k:Keep}{hp:List (Nat×aL)}{L L':List B}{y:B}{m:Nat}(hL:L'=L++[y])(hm:m=L.length+1):∀i,i<m->lM k (sub k hp 200) (gH L.length (λj=>idE (L.getD j [])) (λq=>mO (.cons (.cons (.str y) .nil) .nil) (0+q)) i) (idE (L'.getD i [])):=by
 intro i hi;subst hm hL;have e:gH L.length (λj=>idE (L.getD j [])) (λq=>mO (.cons (.cons (.str y) .nil) .nil) (0+q)) i=idE ((L++[y]).getD i []):=by
  unfold gH;rw[wX];by_cases h:i<L.length
  .simp [*]
  .rw [if_neg h];obtain rfl:i=L.length:=by omega
   rw[aK,dA (aN _),Nat.sub_self];rfl
 rw[e];exact Or.inl (fS _ _ _ _)
def g57:List Nat:=[14,16,13,0,5,15,3,2]
def c57:aY :=
 .seq (.region g57 [(zo 2 (.alloc 39 (.cons (.nilsl) (.cons (.str []) (.cons (.nilsl) .nil)))))]) (.seq (.region g57 [(mv 6 0),(zo 7 (.nilCheck (.s 6))),(fa 8 0 7),(ld 9 8),(zo 10 (.call (.c (.fn 80)) [.s 9])),(zo 11 (.build (.cons (.nilsl) (.cons (.str []) (.cons (.nilsl) .nil))) [(0,1,.s 10)])),(zo 3 (.alloc 39 (.cons (.nilsl) (.cons (.str []) (.cons (.nilsl) .nil))))),⟨none,none,.store 3 (.s 3) (.s 11),[]⟩]) (.seq (.seq (.region g57 [(mv 12 0),(zo 13 (.call (.c (.fn 73)) [.s 12])),(zo 14 (.lenSl (.s 13))),(zo 15 (.move (cj 0)))]) (.block 0 (.loop 0 [16,17,18,5,19,20,21,22,23,24,25,26,27,28,29,30,31,32,33,34,35,36,37,38,15] (.seq (.region g57 [(zo 16 (.bin (.lss) (.s 15) (.s 14)))]) (.seq (.cond (.s 16) .skip (.exit 0)) (.seq (.block 1 (.seq (.region g57 [(zo 17 (.idxSl 1 (.s 13) (.s 15))),(ld 18 17),(mv 5 18)]) (.seq (.region g57 [(fa 19 1 3),(ld 20 19),(mv 21 5),(zo 22 (.cnv (.i32) (.s 21))),(zo 23 (.runeS (.s 22))),(zo 24 (.bin (.add) (.s 20) (.s 23))),(fa 25 1 3),⟨none,none,.store 1 (.s 25) (.s 24),[]⟩]) (.drawn g57 (.pure 0 (fa 26 2 3) (.pure 1 (ld 27 26) (.pure 2 (mv 28 0) (.pure 3 (zo 29 (.nilCheck (.s 28))) (.pure 4 (fa 30 1 29) (.pure 6 (mv 32 5) (.eff 5 (ld 31 30) [(ld 27 26)] (.eff 7 (zo 33 (.mlook (.nilptr) false (.i (.u8)) (.s 31) (.s 32))) [(ld 27 26)] (.eff 8 (zo 34 (.call (.c (.fn 55)) [.s 33])) [(ld 27 26)] (.eff 9 (zo 35 (.buildSl 9 1 1 (.cons (.str []) .nil) [(0,1,.s 34)])) [(ld 27 26)] (.eff 10 (zo 36 (.app 9 1 16 (.s 27) (.s 35))) [] (.pure 11 (fa 37 2 3) (.eff 12 ⟨none,none,.store 1 (.s 37) (.s 36),[]⟩ [] .done .none)) .none) .none) .none) .none) .none))))))))))) (.region g57 [(zo 38 (.bin (.add) (.s 15) (cj 1))),(mv 15 38)]))))))) (.seq (.region g57 [(zo 39 (.load 3 true (.s 3))),⟨none,none,.store 3 (.s 2) (.s 39),[]⟩]) .ret)))
theorem e57:bO Tryz.prog 57 g57 [] [31,34,35] []=some (c57,[.cell 2 3 true],40):=by kernel_rfl
def shS(n:Nat):bC where
 X:=DX
 Y:=Nat->NO
 args:=λx=>.cons (.fown 0 x.v 0) .nil
 pre:=DOk n
 h0:=λx=>[(0,.fam λq=>noO 0 (x.N q))]
 nx0:=1
 post:=DPo
 res:=λx _=>.agg (.cons (.lsl 1 1 (ndT x.T).ids.length) (.cons (.str (ndT x.T).bys) (.cons (.lsl 2 1 (ndT x.T).kids.length) .nil)))
 h1:=λx y=>[(0,.fam λq=>noO 0 (y q)),lsH 1 (ndT x.T).ids,lsH 2 (ndT x.T).kids]
 nx1:=3
def dgS(n:Nat):bC where
 X:=DX
 Y:=Nat->NO
 args:=λx=>.cons (.fown 0 x.v 0) .nil
 pre:=DOk n
 h0:=λx=>[(0,.fam λq=>noO 0 (x.N q))]
 nx0:=1
 post:=DPo
 res:=λx _=>.str (iK Dd x.T)
 h1:=λ_ y=>[(0,.fam λq=>noO 0 (y q))]
 nx1:=1
theorem Z3{n:Nat}(ih:(dgS n).Ok Tryz.prog 55):(shS (n+1)).Ok Tryz.prog 57:=by
 refine Eng.bC.okR e57 .nil (λ_=>[(80,.m aD4),(73,.m aAo),(55,.m (dgS n)),(2097152,.own)]) (by grind[aO.m,aAq,Qu,aO.o,aO.nil]) ?_;rintro⟨N,T,v,F⟩ ⟨hrep,hwf,hsz,htk,hlow,hht,hsh⟩;cases T with
 |node ids k =>
 replace hsz:ids.length+szK k<=24:=hsz;replace hht:htK k+1<=n+1:=hht;replace hwf:Srt ids/\Sb (cC k)/\wfK k:=hwf;replace hlow:J0 k:=hlow;replace hsh:(∀i∈ids,i.length<=1000000)/\shK k:=hsh;replace htk:∀i l q,N i=.map l q->Tk l q:=htk;replace hrep:gJ Dd N (.node ids k) v F:=hrep;have hkl:(cC k).length<=24:=by grind[sL,nT]
 obtain⟨a,m,mk,l,q,H,hnv,hlst,hmp,hmk,hpm,hrk,hav,ham,hHv,hHm,hHa,hF⟩:=hrep;refine⟨trivial,?_⟩;refine aB (noO 0 (.node a ids.length m ((ids.length+szK k:Nat):Int) mk)) (aA (congrArg (noO 0) hnv) ?_);have hln:ids.length<=1000000:=by omega
 have hl:(N a=.none/\ids.length=0)\/∃A,N a=.arr A/\A≠[]/\ids.length<=A.length:=by
  grind
 have hids:ids=fM N a ids.length:=by
  grind[fM]
 refine aB ids (aB [] ?_);repeat' (first|exact hln|exact zP (h:=0) (N:=N) (a:=a) (n:=ids.length) rfl (Is.no 0 (N a)) rfl hl hids|apply aA|exact trivial)
 refine λ(_:Unit) (_:True)=>?_;refine aB ⟨N,v,a,ids.length,m,((ids.length+szK k:Nat):Int),mk,l,q,cC k⟩ (aB [0] ?_);have hb:BOk ⟨N,v,a,ids.length,m,((ids.length+szK k:Nat):Int),mk,l,q,cC k⟩:=⟨hnv,hmp,htk _ _ _ hmp,hpm,hwf.2.1,hkl⟩;repeat' (first|exact hb|apply aA|exact trivial|exact rfl|exact zm N rfl|fail)
 refine λ(_:Unit) (_:True)=>?_;have hkd:(ndT (.node ids k)).kids=kdL k:=rfl;refine⟨⟨Nat×(Nat->NO),λx=>LI N H k l x.1 x.2,λx=>[(15,.int .i64 (x.1:Int))],λx=>[(0,.fam λq=>noO 0 (x.2 q)),lsH 2 ids,(3,.cells 39 (.cons (.lsl 2 1 ids.length) (.cons (.str ((cC k).take x.1)) (.cons (.lsl 30 1 ((kdL k).take x.1).length) .nil)))),(4,.arr 5 1 (cC k).length (lc bE 0 (bsI (cC k)))),lsH 30 ((kdL k).take x.1)],λx=>(dH k).length-x.1⟩,(0,N),⟨aS _,Mk.refl N,λ_ _=>rfl,hrk⟩,?_,?_⟩
 .repeat' (first|apply aA|exact trivial|exact rfl|exact zr N rfl rfl|exact lz λ_=>rfl|exact cE (λa=>dC _ _ _ a)|fail)
 rintro⟨j,N'⟩ ⟨(hj:j<=(dH k).length),(hM:Mk N N'),(hO:∀z,¬H z->N' z=N z),(hR:kK Dd N' k l H)⟩;have hbl:(cC k).length=(dH k).length:=by rw[nT,cS]
 have hnv':N' v=.node a ids.length m ((ids.length+szK k:Nat):Int) mk:=(hO v hHv).trans hnv;have hmp':N' m=.map l q:=(hO m hHm).trans hmp;repeat' (first|refine aA ?_ ?_)
 .refine λ(hlt:decide ((j:Int)<((cC k).length:Int))=true)=>?_;replace hlt:j<(dH k).length:=by grind
  obtain⟨b,s,hbs⟩:∃b s,(dH k)[j]?=some (b,s):=⟨_,_,aM hlt⟩;have hmem:=jF hbs;obtain⟨f1,f2,f3,f4,f5⟩:=tG hmem hwf.2.2 hlow;obtain⟨u,τ,G1,hmg,hru,hG1,hup⟩:=Hp hR (sB hwf.2.1 hmem) hwf.2.1;have hbv:(bsI (cC k)).getD (0+(j:Int).toNat) 0=bI b:=byte_at hbs;have g0:(0:Int)<=(j:Int):=by omega
  have g1:(j:Int)<((cC k).length:Int):=by omega
  have g2:0+(j:Int).toNat<(cC k).length:=by omega
  have hbI:0<=bI b/\bI b<128:=by unfold bI; omega
  have q1:-2147483648<=(bsI (cC k)).getD (0+(j:Int).toNat) 0:=by omega
  have q2:(bsI (cC k)).getD (0+(j:Int).toNat) 0<=2147483647:=by omega
  have q3:0<=(bsI (cC k)).getD (0+(j:Int).toNat) 0:=by omega
  have q4:(bsI (cC k)).getD (0+(j:Int).toNat) 0<128:=by omega
  have hk10:((kdL k).take j).length<=24:=by grind
  have q5:((cC k).take j).length+1<=9223372036854775807:=by grind
  have ht':(cC k).take j++[UInt8.ofNat ((bsI (cC k)).getD (0+(j:Int).toNat) 0).toNat]=(cC k).take (j+1):=by
   grind[bI,UInt8.ofNat_toNat,V5]
  have hmg':mget l (.i .u8 ((bsI (cC k)).getD (0+(j:Int).toNat) 0))=some (u,τ):=by rw[hbv]; exact hmg
  repeat' (first|apply aA|exact trivial|(with_reducible first|exact g0|exact g1|exact g2))
  .exact q1
  .exact q2
  .exact q3
  .exact q4
  .exact q5
  refine aB (noO 0 (.node a ids.length m ((ids.length+szK k:Nat):Int) mk)) (aA (congrArg (noO 0) hnv') ?_);repeat' (first|apply aA|exact trivial|exact rfl)
  refine aB (noO 0 (.map l q)) (aA (congrArg (noO 0) hmp') ?_);refine mZ.zI hmg' ?_;repeat' (first|apply aA|exact trivial|exact rfl)
  refine aB ⟨N',s,u,G1⟩ (aB [0] ?_);have hd:DOk n ⟨N',s,u,G1⟩:=⟨hru,f1,(by grind),hM.tk htk,f3,(by grind),Js hmem hsh.2⟩;repeat' (first|exact hd|apply aA|exact trivial|exact rfl|exact zm N' rfl|fail)
  refine λ(N2:Nat->NO) (hp2:DPo ⟨N',s,u,G1⟩ N2)=>?_;repeat' (first|apply aA|exact trivial|exact rfl)
  .omega
  .exact λj hj=>by obtain rfl:j=0:=(by omega); rfl
  .grind
  .grind
  .omega
  .omega
  have hkt:(kdL k).take (j+1)=(kdL k).take j++[iK Dd s]:=Xc hbs;have hkl2:((kdL k).take j).length+1=((kdL k).take (j+1)).length:=by simp[*]
  have hLI:LI N H k l (j+1) N2:=⟨hlt,hM.trans hp2.mrk,λz hz=>(hp2.out z (by grind)).trans (hO z hz),hup N2 hp2.rep hp2.out⟩;refine aB (j+1,N2) (aA hLI (aA ?_ (by grind)));repeat' (first|apply aA|exact trivial|exact rfl|exact lz λ_=>rfl|exact cE (λa=>dC _ _ _ a)|exact zr N2 rfl rfl|exact ht'|exact hkl2)
  .exact aB4 hkt rfl
 .refine λ(hlt:decide ((j:Int)<((cC k).length:Int))=false)=>?_;replace hlt:j=(dH k).length:=by grind
  subst hlt;have hb1:(cC k).take (dH k).length=(ndT (.node ids k)).bys:=by
   show _=(oX Dd k).map (·.1)
   grind[zY]
  have hk1:(kdL k).take (dH k).length=(ndT (.node ids k)).kids:=by
   grind[An]
  have hk2:((kdL k).take (dH k).length).length=(ndT (.node ids k)).kids.length:=by rw[hk1]
  have hk3:(kdL k).take (dH k).length=kdL k:=hk1;have hpo:DPo ⟨N,.node ids k,v,F⟩ N':=by
   refine⟨hM,(by grind),a,m,mk,l,q,H,hnv',?_,hmp',hmk,hpm,hR,hav,ham,hHv,hHm,hHa,hF⟩
   grind
  refine aB N' (aA hpo ?_);repeat' (first|apply aA|exact trivial|exact rfl|exact zm N' rfl|exact lz λ_=>rfl|exact hb1|exact hk2)
  exact Fk hk3
def g55:List Nat:=[7,0,2]
def c55:aY :=
 .seq (.region g55 [(zo 2 (.move (.c (.str []))))]) (.seq (.seq (.region g55 [(mv 3 0),(zo 4 (.nilCheck (.s 3))),(fa 5 3 4),(ld 6 5),(zo 7 (.bin (.eql) (.s 6) (.c (.str []))))]) (.cond (.s 7) (.region g55 [(mv 8 0),(mv 9 0),(zo 10 (.call (.c (.fn 57)) [.s 9])),(zo 11 (.call (.c (.fn 19)) [.s 10])),(zo 12 (.nilCheck (.s 8))),(fa 13 3 12),⟨none,none,.store 1 (.s 13) (.s 11),[]⟩]) .skip)) (.seq (.region g55 [(mv 14 0),(zo 15 (.nilCheck (.s 14))),(fa 16 3 15),(ld 17 16),(mv 2 17)]) .ret))
theorem e55:bO Tryz.prog 55 g55 [] [] []=some (c55,[.slot 2],18):=by kernel_rfl
theorem dg0:(dgS 0).Ok Tryz.prog 55:=by
 refine⟨qR e55,?_⟩;intro x w μ vs T U;intros;rename_i hp _;have:=Jh x.T;have:=hp.ht;omega
theorem aEd{n:Nat}(ih:(shS n).Ok Tryz.prog 57):(dgS n).Ok Tryz.prog 55:=by
 refine Eng.bC.okR e55 .nil (λ_=>[(57,.m (shS n)),(19,.m Rc)]) (by grind[aO.m,zA,aO.nil]) ?_;rintro⟨N,T,v,F⟩ hok;cases T with
 |node ids k =>
 have hrep:gJ Dd N (.node ids k) v F:=hok.rep;have hpre:=J6 hok.wf hok.sz hok.sh;obtain⟨a,m,mk,l,q,H,hnv,hlst,hmp,hmk,hpm,hrk,hav,ham,hHv,hHm,hHa,hF⟩:=hrep;refine⟨trivial,?_⟩;refine aB (noO 0 (.node a ids.length m ((ids.length+szK k:Nat):Int) mk)) (aA (congrArg (noO 0) hnv) ?_);repeat' (first|refine aA ?_ ?_)
 have hset:∀(N2:Nat->NO) (d:B) (i:Nat),(bif Nat.beq i v then noO 0 (.node a ids.length m ((ids.length+szK k:Nat):Int) d)else noO 0 (N2 i))=noO 0 (Ko N2 v (.node a ids.length m ((ids.length+szK k:Nat):Int) d) i):=by
  grind[Ko]
 .refine λ(hk0:decide (mk=[])=true)=>?_;replace hk0:mk=[]:=of_decide_eq_true hk0;refine aB ⟨N,.node ids k,v,F⟩ (aB [0] ?_);repeat' (first|exact hok|apply aA|exact trivial|exact rfl|exact zm N rfl|fail)
  refine λ(N2:Nat->NO) (hp2:DPo ⟨N,.node ids k,v,F⟩ N2)=>?_;refine aB (ndT (.node ids k)) (aB [] ?_);repeat' (first|exact hpre|apply aA|exact trivial|exact rfl|exact cN (aP _)|exact(λ(j:Nat) _=>by rw[aP]; exact Or.inl (fS _ _ _ _))|fail)
  refine λ(y:B) (hy:y=kQ (ndT (.node ids k)))=>?_;subst hy;obtain⟨a',m',mk',l',q',H',hnv2,hlst2,hmp2,hmk2,hpm2,hrk2,hav2,ham2,hHv2,hHm2,hHa2,hF2⟩:=hp2.rep;refine aB (rnO [(0,0),(1,1),(2,2)] [(0,0),(1,1),(2,2)] (noO 0 (.node a' ids.length m' ((ids.length+szK k:Nat):Int) mk'))) (aA (by grind) ?_);refine aB _ (aA (vJ _ _ _) ?_);have hpo:DPo ⟨N,.node ids k,v,F⟩ (put N2 v (.node a' ids.length m' ((ids.length+szK k:Nat):Int) (kQ (ndT (.node ids k))))):=by
   have hMk2:=Yg (mk':=kQ (ndT (.node ids k))) hnv2;have hne:∀x,x≠v->put N2 v (.node a' ids.length m' ((ids.length+szK k:Nat):Int) (kQ (ndT (.node ids k)))) x=N2 x:=λx hx=>Nd (o:=.node a' ids.length m' ((ids.length+szK k:Nat):Int) (kQ (ndT (.node ids k)))) hx;have hmv:m'≠v:=by
    grind
   refine⟨hp2.mrk.trans hMk2,λz hz=>?_,a',m',_,l',q',H',Cz _ _ _,?_,(by grind),.inr rfl,hpm2,?_,hav2,ham2,hHv2,hHm2,hHa2,hF2⟩
   .have hzv:z≠v:=(by grind);exact(hne z hzv).trans (hp2.out z hz)
   .grind
   grind[kY]
  refine aB (put N2 v (.node a' ids.length m' ((ids.length+szK k:Nat):Int) (kQ (ndT (.node ids k))))) (aA hpo ?_);repeat' (first|apply aA|exact trivial|exact rfl|exact rF (nG (by exact rfl)) (λi=>mL (by exact rfl) (by exact rfl) (N2 i))|fail)
 .refine λ(hk0:decide (mk=[])=false)=>?_;replace hk0:mk≠[]:=of_decide_eq_false hk0;have hmk':mk=iK Dd (.node ids k):=by
   rcases hmk with h|h
   .grind
   .exact h
  refine aB (noO 0 (.node a ids.length m ((ids.length+szK k:Nat):Int) mk)) (aA (congrArg (noO 0) hnv) ?_);refine aB N (aA ⟨Mk.refl N,λ_ _=>rfl,hok.rep⟩ ?_);repeat' (first|exact hmk'|apply aA|exact trivial|exact zm N rfl|fail)
theorem sh0:(shS 0).Ok Tryz.prog 57:=by
 refine⟨qR e57,?_⟩;intro x w μ vs T U;intros;rename_i hp _;have:=Jh x.T;have:=hp.ht;omega
theorem both:∀n,(dgS n).Ok Tryz.prog 55/\(shS n).Ok Tryz.prog 57
 |0=>⟨dg0,sh0⟩
 |n+1=>⟨aEd (Z3 (both n).1),Z3 (both n).1⟩
end D10
end
