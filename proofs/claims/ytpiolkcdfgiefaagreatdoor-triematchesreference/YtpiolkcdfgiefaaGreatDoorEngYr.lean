/- A part of the proof. -/
import Derived.Test.YtpiolkcdfgiefaaGreatDoorEngYa
set_option maxHeartbeats 10000000
namespace Go.Eng
open Go Go.RowKit
variable {P:Program}
theorem Ie{E E':Env}(hE:E.LeR E'){V:Type}{ev:V->SV}:∀{l:List (bQ×V×Nat)} {es:List MapEntry},hZ E ev l es->hZ E' ev l es:=by
 intro l;induction l with
 |nil=>intro es h; exact h
 |cons x r ih =>
  intro es h;obtain⟨e,t,h1,h2,h3,h4,h5⟩:=h;exact⟨e,t,h1,h2,eW hE h3,h4,ih h5⟩
theorem rT{E E':Env}(hE:E.LeR E')(hH:∀l p o,E.H l p o->E'.H l p o){o:aL}{c:Nat}{x:Obj}(k:HR E o c x):HR E' o c x:=by
 cases o with
 |cells T l=>obtain⟨cs,h1,h2⟩:=k; exact⟨cs,h1,eW hE h2⟩
 |arr T sz len enc =>
  obtain⟨cs,h1,h2,h3,h4⟩:=k;refine⟨cs,h1,h2,h3,λi hi=>?_⟩
  grind[eW]
 |obj o'=>exact k
 |snap o'=>exact k
 |hid lab pd=>exact hH _ _ _ k
 |map V kk l clock ev iv=>obtain⟨h0,es,h1,h2⟩:=k; exact⟨h0,es,h1,Ie hE h2⟩
 |iter src since seen last=>obtain⟨r,h1,h2⟩:=k; exact⟨r,eW hE h1,h2⟩
 |fam f=>exact k
 |gone=>exact k
theorem eQ(g:Nat->Option Obj)(q:Nat):dX? (cJ g q)=(g q).map .snap:=by
 unfold cJ;cases g q<;>rfl
theorem fb0:0<FB:=by decide
theorem bD.move{C C2:Ctx}{μ:Nat->Option (Nat×Nat)}{hp hp2:List (Nat×aL)}{nx:Nat}{W W2:World}(h:bD C μ hp nx W)
  (hk:∀id o,get? hp2 id=some o->id<FB/\id<nx)
  (hdom:∀n o,hget hp2 n=some o->∃o',hget hp n=some o')
  (hdom':∀n o,hget hp n=some o->∃o',hget hp2 n=some o')
  (hobj:∀n o,hget hp2 n=some o->∃b c x,μ n=some (b,c)/\W2.heap[b]?=some x/\HR (aG C2 μ hp2 W2) o c x)
  (hmine:∀n o b c,hget hp n=some o->μ n=some (b,c)->C2.T b\/C2.w0.heap.size<=b)
  (hpin:∀id p,C2.pin id=some p->μ id=some p)
  (hfrm:Frm C2.T C2.w0 W2)
  (hpos:∀n q,hget hp2 n=some (.obj q)->∃q',hget hp n=some (.obj q')):bD C2 μ hp2 nx W2:=by
 refine⟨⟨(by grind),hobj⟩,?_,?_,(by grind),h.nx,?_,hpin,hfrm,?_⟩
 .intro id id' o o' b c c' g g' e e';obtain⟨_,g1⟩:=hdom _ _ g;obtain⟨_,g2⟩:=hdom _ _ g';exact h.inj _ _ _ _ _ _ _ g1 g2 e e'
 .grind
 .intro id p e hge;obtain⟨o,ho⟩:=h.fam id p e hge;simp[*]
 .intro id p q e hge g;obtain⟨q',g1⟩:=hpos _ _ g;exact h.pos _ _ _ e hge g1
structure YC(C:Ctx)(μ:Nat->Option (Nat×Nat))(hp:List (Nat×aL))(nx:Nat)(w:World)(l dl rid:Nat)(r0:Loop)(F:Nat->aL):Prop where
 h:bD C μ hp nx w
 pin:C.pin=μ
 R0:C.R0=aG C μ hp w
 g:uG C
 fn:∀lb o o',C.H lb 0 o->C.H lb 0 o'->o=o'
 recd:get? hp rid=some (.hid dl 0)
 mrec:μ rid=some (l,0)
 rec0:C.H dl 0 (.loop r0)
 hid0:∀n lb p,get? hp n=some (.hid lb p)->p=0
 f0:get? hp 0=some (.fam F)
 fo:qM F
def isF(n:Nat):Prop:=FB<=n/\n%FB=0
section
variable {C:Ctx} {μ:Nat->Option (Nat×Nat)} {hp:List (Nat×aL)} {nx:Nat} {w:World} {l dl rid:Nat} {r0:Loop} {F:Nat->aL}
def fbk(μ:Nat->Option (Nat×Nat))(b:Nat):Prop:=∃q c,μ (fid 0 q)=some (b,c)
def hbk(μ:Nat->Option (Nat×Nat))(hp:List (Nat×aL))(b:Nat):Prop:=∃n lb c,get? hp n=some (.hid lb 0)/\μ n=some (b,c)
def rbk(μ:Nat->Option (Nat×Nat))(hp:List (Nat×aL))(b:Nat):Prop:=∃n o c,hget hp n=some o/\(∀l p,o≠.hid l p)/\¬isF n/\μ n=some (b,c)
def yT(μ:Nat->Option (Nat×Nat))(hp:List (Nat×aL))(l b:Nat):Prop:=fbk μ b\/rbk μ hp b\/b=l
def yTR(μ:Nat->Option (Nat×Nat))(hp:List (Nat×aL))(D:Nat->Prop)(b:Nat):Prop:=D b\/fbk μ b\/hbk μ hp b
def yCR(C:Ctx)(μ:Nat->Option (Nat×Nat))(hp:List (Nat×aL))(w:World)(D:Nat->Prop)(W:World):Ctx :=
 { C with w0:=W,T:=yTR μ hp D,U0:=Ufor C μ hp w }
def Snap(μ:Nat->Option (Nat×Nat))(g:Nat->Option Obj)(W:World):Prop :=
 ∀q,(∀p,μ (fid 0 q)=some p->∃o,g q=some o/\W.heap[p.1]?=some o/\Jl o=false)/\(μ (fid 0 q)=none->g q=none)
theorem jA{hp:List (Nat×aL)}{F:Nat->aL}(h:get? hp 0=some (.fam F)){n:Nat}(hn:isF n):hget hp n=dX? (F (n/FB-1)):=by
 simp only[hget,bJ.2 hn.1,if_false,hn.2,h]
theorem mJ(q:Nat):isF (fid 0 q):=⟨cQ 0 q,gF q fb0⟩
theorem nL{n:Nat}(h:isF n):n=fid 0 (n/FB-1):=by
 have:=nI h.1;rw[h.2]at this;exact this.symm
theorem xJ{hp:List (Nat×aL)}{F F':Nat->aL}(h:get? hp 0=some (.fam F))(n:Nat):hget (fL hp 0 (.fam F')) n=if FB<=n/\n%FB=0 then dX? (F' (n/FB-1))else hget hp n:=by
 by_cases hn:n<FB
 .have:¬(FB<=n/\n%FB=0):=λh=>by omega
  rw[if_neg this,fF hn,fF hn,get?_putH,get?_cons];by_cases e:0=n
  .subst e;rw[if_pos rfl,h];rfl
  simp[*]
 .by_cases e:n%FB=0
  .rw [if_pos ⟨bJ.1 hn,e⟩];simp[*,hget,get?_putH,get?_cons]
  .have:¬(FB<=n/\n%FB=0):=λh=>e h.2;rw[if_neg this];simp only[hget,hn,if_false,get?_putH,get?_cons,if_neg (fR e)]
theorem qV{r:List (Nat×aL)}{F F':Nat->aL}(n:Nat)(hn:¬isF n):hget ((0,.fam F)::r) n=hget ((0,.fam F')::r) n:=by
 by_cases hlt:n<FB
 .rw [fF hlt,fF hlt,get?_cons,get?_cons];by_cases e:0=n
  .subst e; rfl
  simp[*]
 .have e:¬0=n%FB:=λe=>hn ⟨bJ.1 hlt,e.symm⟩;simp_all[hget,get?_cons,if_neg]
theorem YC.fplain(y:YC C μ hp nx w l dl rid r0 F){b:Nat}(h:fbk μ b):b<w.heap.size/\Plain w b:=by
 obtain⟨q,c,e⟩:=h;obtain⟨o,ho⟩:=y.h.fam _ _ e (cQ 0 q);refine⟨y.h.lt ho e,y.h.obj.plain ho e ?_⟩;rintro lb p rfl;have:=(qB ho).1
 grind[cQ]
theorem YC.rplain(y:YC C μ hp nx w l dl rid r0 F){b:Nat}(h:rbk μ hp b):b<w.heap.size/\Plain w b:=by
 obtain⟨n,o,c,h1,h2,_,h4⟩:=h;exact⟨y.h.lt h1 h4,y.h.obj.plain h1 h4 h2⟩
theorem YC.hloop(y:YC C μ hp nx w l dl rid r0 F){b:Nat}(h:hbk μ hp b):b<w.heap.size/\∃r,w.heap[b]?=some (.loop r):=by
 obtain⟨n,lb,c,h1,h2⟩:=h;obtain⟨o,ho,hH⟩:=y.h.recAt h1 h2;obtain⟨r,rfl⟩:=C.Hl _ _ _ hH
 grind
theorem YC.lat(y:YC C μ hp nx w l dl rid r0 F):w.heap[l]?=some (.loop r0):=by
 obtain⟨o,ho,hH⟩:=y.h.recAt y.recd y.mrec;rw[ho,y.fn _ _ _ hH y.rec0]
theorem YC.hl(y:YC C μ hp nx w l dl rid r0 F):hbk μ hp l:=⟨rid,dl,0,y.recd,y.mrec⟩
theorem YC.fr(y:YC C μ hp nx w l dl rid r0 F){b:Nat}(h:fbk μ b)(k:rbk μ hp b):False:=by
 obtain⟨q,c,e⟩:=h;obtain⟨n,o,c',h1,_,h3,h4⟩:=k;obtain⟨o',ho⟩:=y.h.fam _ _ e (cQ 0 q);have:=y.h.inj _ _ _ _ _ _ _ ho h1 e h4
 grind[mJ]
theorem YC.ph(y:YC C μ hp nx w l dl rid r0 F){b:Nat}(h:Plain w b)(k:hbk μ hp b):False:=by
 obtain⟨_,r,e⟩:=y.hloop k;have:=h _ e;cases this
theorem YC.tY(y:YC C μ hp nx w l dl rid r0 F){b:Nat}(h:yT μ hp l b):C.T b\/C.w0.heap.size<=b:=by
 rcases h with⟨q,c,e⟩|⟨n,o,c,h1,_,_,h4⟩|rfl
 .obtain ⟨o,ho⟩:=y.h.fam _ _ e (cQ 0 q);exact y.h.mine _ _ _ _ ho e
 .exact y.h.mine _ _ _ _ h1 h4
 .exact y.h.mine _ _ _ _ (y.h.get y.recd rfl) y.mrec
theorem YC.Zo(y:YC C μ hp nx w l dl rid r0 F){b:Nat}(h:hbk μ hp b):C.T b\/C.w0.heap.size<=b:=by
 obtain⟨n,lb,c,h1,h2⟩:=h;exact y.h.mine _ _ _ _ (y.h.get h1 rfl) h2
structure YW(C:Ctx)(μ:Nat->Option (Nat×Nat))(hp:List (Nat×aL))(w:World)(l:Nat)(r0:Loop)(D:Nat->Prop)(W:World):Prop where
 frm:Frm (λb=>yT μ hp l b\/D b) w W
 lat:W.heap[l]?=some (.loop r0)
 dD:∀b,D b->rbk μ hp b\/w.heap.size<=b
theorem YW.hsame(y:YC C μ hp nx w l dl rid r0 F){D:Nat->Prop}{W:World}(k:YW C μ hp w l r0 D W){b:Nat}(h:hbk μ hp b):W.heap[b]?=w.heap[b]?:=by
 by_cases hl:b=l
 .subst hl; rw[k.lat,y.lat]
 .have hb:=y.hloop h;refine k.frm.block b hb.1 ?_;rintro((h1|h1|h1)|h1)
  .exact y.ph (y.fplain h1).2 h
  .exact y.ph (y.rplain h1).2 h
  .exact hl h1
  .rcases k.dD b h1 with h2|h2
   .exact y.ph (y.rplain h2).2 h
   .omega
theorem YW.usame(y:YC C μ hp nx w l dl rid r0 F){D:Nat->Prop}{W:World}(k:YW C μ hp w l r0 D W){b:Nat}(h:Ufor C μ hp w b):W.heap[b]?=w.heap[b]?:=by
 refine k.frm.block b h.1 ?_;have hr:¬rbk μ hp b:=by
  rintro⟨n,o,c,h1,_,_,h4⟩;exact h.2.2.1 _ _ _ h1 h4
 rintro((⟨q,c,e⟩|h1|h1)|h1)
 .obtain ⟨o,ho⟩:=y.h.fam _ _ e (cQ 0 q);exact h.2.2.1 _ _ _ ho e
 .exact hr h1
 .subst h1;exact y.ph h.2.2.2 y.hl
 .rcases k.dD b h1 with h2|h2
  .exact hr h2
  .have:=h.1; omega
def rV(hp hpv:List (Nat×aL)):Prop:=∀n lb p,get? hpv n=some (.hid lb p)↔get? hp n=some (.hid lb p)
theorem Kq{F:Nat->aL}{q lb p:Nat}:dX? (F q)≠some (.hid lb p):=by
 intro e;have h1:=solid?_self (dX?_solid e);rw[<- h1]at e;cases e
theorem Bi(y:YC C μ hp nx w l dl rid r0 F){D:Nat->Prop}{W W2:World}(hY:YW C μ hp w l r0 D W2){μ2:Nat->Option (Nat×Nat)}{g:Nat->Option Obj}{hpv:List (Nat×aL)}{nv:Nat}
  (h:bD (yCR C μ hp w D W) μ2 ((0,.fam (cJ g))::hpv) nv W2) (hs:Snap μ g W2) {n b c:Nat} {o:aL} (hg:hget ((0,.fam (cJ g))::hpv) n=some o) (hm:μ2 n=some (b,c)) (hn:∀l p,o≠.hid l p) :
  (isF n/\fbk μ b)\/(¬isF n/\¬fbk μ b/\(D b\/W.heap.size<=b)):=by
 have h00:get? ((0,aL.fam (cJ g))::hpv) 0=some (.fam (cJ g)):=rfl;have hfm:∀q c',μ (fid 0 q)=some (b,c')->n=fid 0 q:=by
  intro q c' e;obtain⟨o',ho',_⟩:=(hs q).1 _ e;have h2:μ2 (fid 0 q)=some (b,c'):=h.pin _ _ (by show C.pin _=_; rw[y.pin]; exact e);have h3:hget ((0,.fam (cJ g))::hpv) (fid 0 q)=some (.snap o'):=by
   grind[jA,mJ,fE,fb0,eQ]
  exact h.inj _ _ _ _ _ _ _ hg h3 hm h2
 by_cases hF:isF n
 .left;refine⟨hF,?_⟩;rw[jA h00 hF,eQ]at hg;cases hq:g (n/FB-1) with
  |none=>grind
  |some o' =>
   cases hmm:μ (fid 0 (n/FB-1)) with
   |none=>rw[(hs _).2 hmm]at hq; cases hq
   |some p =>
    have h2:μ2 (fid 0 (n/FB-1))=some p:=h.pin _ _ (by show C.pin _=_; rw[y.pin]; exact hmm);rw[<- nL hF,hm]at h2;cases h2;exact⟨_,_,hmm⟩
 .right;refine⟨hF,?_,?_⟩
  .rintro ⟨q,c',e⟩
   grind[mJ]
  .rcases h.mine _ _ _ _ hg hm with(h1|⟨q,c',h1⟩|h1)|h1
   .grind
   .grind [mJ]
   .have hpl:=h.obj.plain hg hm hn;obtain⟨_,r,e⟩:=y.hloop h1;have:=hpl _ ((hY.hsame y h1).trans e);cases this
   .exact .inr h1
theorem transfer(y:YC C μ hp nx w l dl rid r0 F){D:Nat->Prop}{W0 W:World}(k0:YW C μ hp w l r0 D W0)(k:YW C μ hp w l r0 D W)(hD:∀b,D b->W.heap[b]?=W0.heap[b]?)
  {μ2:Nat->Option (Nat×Nat)} {g0 g:Nat->Option Obj} {hpv:List (Nat×aL)} {nv:Nat} (h:bD (yCR C μ hp w D W0) μ2 ((0,.fam (cJ g0))::hpv) nv W0) (hs0:Snap μ g0 W0) (hs:Snap μ g W) (hh:rV hp hpv) :
  bD (yCR C μ hp w D W) μ2 ((0,.fam (cJ g))::hpv) nv W:=by
 have h00:∀g:Nat->Option Obj,get? ((0,aL.fam (cJ g))::hpv) 0=some (.fam (cJ g)):=λ_=>rfl;have dom1:∀q,(∃o,g0 q=some o)↔∃o,g q=some o:=by
  intro q;cases hm:μ (fid 0 q) with
  |none=>rw[(hs0 q).2 hm,(hs q).2 hm]
  |some p =>
   obtain⟨o,ho,_⟩:=(hs0 q).1 p hm;obtain⟨o',ho',_⟩:=(hs q).1 p hm;simp[*]
 have dom:∀n,(∃o,hget ((0,.fam (cJ g0))::hpv) n=some o)↔∃o,hget ((0,.fam (cJ g))::hpv) n=some o:=by
  intro n;by_cases hn:isF n
  .rw [jA (h00 _) hn,jA (h00 _) hn,eQ,eQ];simp only[aF];constructor
   .rintro ⟨_,o,ho,_⟩; obtain⟨o',ho'⟩:=(dom1 _).1 ⟨o,ho⟩; simp[*]
   .rintro ⟨_,o,ho,_⟩; obtain⟨o',ho'⟩:=(dom1 _).2 ⟨o,ho⟩; exact⟨_,o',ho',rfl⟩
  grind[qV]
 have same:∀b,Ufor (yCR C μ hp w D W0) μ2 ((0,.fam (cJ g0))::hpv) W0 b->W.heap[b]?=W0.heap[b]?:=by
  rintro b ⟨b1,b2,b3,b4⟩;rcases b2 with h1|(h1|⟨q,c,h1⟩|h1)|h1
  .rw [k.usame y h1,k0.usame y h1]
  .grind
  .exfalso;obtain⟨o,ho,_⟩:=(hs0 q).1 _ h1;have h2:μ2 (fid 0 q)=some (b,c):=h.pin _ _ (by show C.pin _=_; rw[y.pin]; exact h1);refine b3 (fid 0 q) (.snap o) c ?_ h2
   grind[jA,mJ,fE,fb0,eQ]
  .rw [k.hsame y h1,k0.hsame y h1]
  .have h1:W0.heap.size<=b:=h1;omega
 have hE:(aG (yCR C μ hp w D W0) μ2 ((0,.fam (cJ g0))::hpv) W0).LeR (aG (yCR C μ hp w D W) μ2 ((0,.fam (cJ g))::hpv) W):=by
  refine⟨⟨λb hb=>?_,same⟩,λ_ _ e=>e⟩;refine⟨(aU.1 ((same b hb).trans (bU hb.1))).1,?_,λn o c hg hm=>?_,λx hx=>hb.2.2.2 x ((same b hb).symm.trans hx)⟩
  .rcases hb.2.1 with h1|h1|h1
   .exact .inl h1
   .exact .inr (.inl h1)
   .have h1:W0.heap.size<=b:=h1;have:=hb.1; omega
  .obtain ⟨o',ho'⟩:=(dom n).2 ⟨o,hg⟩;exact hb.2.2.1 _ _ _ ho' hm
 refine h.move (λid o e=>?_) (by simp_all) (λn o e=>(dom n).1 ⟨o,e⟩) (λn o hg=>?_) (λn o b c hg hm=>?_) h.pin (Frm.refl _ _) (λn q e=>?_)
 .rw [get?_cons]at e;have key:∀o',get? ((0,aL.fam (cJ g0))::hpv) id=some o'->id<FB/\id<nv:=λo' e'=>⟨h.obj.keys _ _ e',h.keys _ _ e'⟩;by_cases h0:0=id
  .grind
  simp_all[get?_cons]
 .by_cases hn:isF n
  .rw [jA (h00 _) hn,eQ]at hg;simp only[aF]at hg;obtain⟨o1,ho1,rfl⟩:=hg;cases hm:μ (fid 0 (n/FB-1)) with
   |none=>rw[(hs _).2 hm]at ho1; cases ho1
   |some p =>
    obtain⟨o2,e1,e2,e3⟩:=(hs _).1 p hm;rw[ho1]at e1;cases e1;have h2:μ2 (fid 0 (n/FB-1))=some p:=h.pin _ _ (by show C.pin _=_; rw[y.pin]; exact hm);rw[<- nL hn]at h2;exact⟨p.1,p.2,o1,h2,e2,rfl,gW.1 e3⟩
  .have hg':=hg;rw[qV (F:=cJ g) (F':=cJ g0) n hn]at hg';obtain⟨b,c,x,e1,e2,e3⟩:=h.obj.obj n o hg';have e1':μ2 n=some (b,c):=e1;refine⟨b,c,x,e1',?_,rT hE (λ_ _ _ e=>e) e3⟩;have e2':W0.heap[b]?=some x:=e2;rw[<- e2'];by_cases ho:∀l p,o≠.hid l p
   .rcases Bi y k0 h hs0 hg' e1' ho with⟨h1,_⟩|⟨_,_,h1|h1⟩
    .grind
    .grind
    grind
   .obtain ⟨lb,p,rfl⟩:∃lb p,o=.hid lb p:=(by grind);have h1:=(qB hg').2;rw[get?_cons]at h1;split at h1
    .cases h1
    have h2:=(hh _ _ _).1 h1;have h3:=y.hid0 _ _ _ h2;subst h3;cases hm:μ n with
    |none =>
     obtain⟨b',c',x',z,_⟩:=y.h.obj.obj n _ (y.h.get h2 rfl);have z':μ n=some (b',c'):=z
     grind
    |some p =>
     have h4:μ2 n=some p:=h.pin _ _ (by show C.pin _=_; rw[y.pin]; exact hm);rw[e1']at h4;cases h4;have hb:hbk μ hp b:=⟨n,lb,c,h2,hm⟩;rw[k.hsame y hb,k0.hsame y hb]
 .rcases h.mine _ _ _ _ hg hm with h1|h1
  .exact .inl h1
  .have h1:W0.heap.size<=b:=h1;have:=h.lt hg hm; omega
 .by_cases hn:isF n
  .grind [jA,eQ,Option.map_eq_some_iff]
  grind[qV]
theorem Nf{μ:Nat->Option (Nat×Nat)}{W:World}(h:∀q p,μ (fid 0 q)=some p->p.1<W.heap.size/\Plain W p.1):∃g,Snap μ g W:=by
 refine⟨λq=>match μ (fid 0 q) with|some p=>W.heap[p.1]?|none=>none,λq=>⟨λp e=>?_,λe=>by simp[e]⟩⟩;obtain⟨h1,h2⟩:=h q p e;refine⟨W.heap[p.1],by simp[e],bU h1,h2 _ (bU h1)⟩
theorem zC(y:YC C μ hp nx w l dl rid r0 F){C2:Ctx}(hpin:C2.pin=C.pin){μ2:Nat->Option (Nat×Nat)}{F2:Nat->aL}{hpv:List (Nat×aL)}{nv:Nat}{W:World}(h:bD C2 μ2 ((0,.fam F2)::hpv) nv W)(hh:rV hp hpv){n lb p b c:Nat}
  (hg:hget ((0,.fam F2)::hpv) n=some (.hid lb p)) (hm:μ2 n=some (b,c)):p=0/\get? hp n=some (.hid lb 0)/\μ n=some (b,c):=by
 have h1:=(qB hg).2;rw[get?_cons]at h1;split at h1
 .cases h1
 have h2:=(hh _ _ _).1 h1;have h3:=y.hid0 _ _ _ h2;subst h3;obtain⟨b',c',x',z,_⟩:=y.h.obj.obj n _ (y.h.get h2 rfl);have z':μ n=some (b',c'):=z;have h4:μ2 n=some (b',c'):=h.pin _ _ (by rw[hpin,y.pin]; exact z')
 grind
theorem Mb(y:YC C μ hp nx w l dl rid r0 F){C2:Ctx}(hpin:C2.pin=C.pin){μ2:Nat->Option (Nat×Nat)}{F2:Nat->aL}{hpv:List (Nat×aL)}{nv:Nat}{W:World}(h:bD C2 μ2 ((0,.fam F2)::hpv) nv W)(hh:rV hp hpv){n lb b c:Nat}
  (hg:get? hp n=some (.hid lb 0)) (hm:μ n=some (b,c)):get? ((0,.fam F2)::hpv) n=some (.hid lb 0)/\μ2 n=some (b,c):=by
 refine⟨?_,h.pin _ _ (by rw[hpin,y.pin]; exact hm)⟩;rw[get?_cons,if_neg]
 .exact (hh _ _ _).2 hg
 .rintro rfl;rw[y.f0]at hg;cases hg
theorem Kp(y:YC C μ hp nx w l dl rid r0 F){g:Nat->Option Obj}(hs:Snap μ g w) :
  bD C μ (fL hp 0 (.fam (cJ g))) nx w/\∀n,(∃o,hget (fL hp 0 (.fam (cJ g))) n=some o)↔∃o,hget hp n=some o:=by
 have dom:∀n,(∃o,hget (fL hp 0 (.fam (cJ g))) n=some o)↔∃o,hget hp n=some o:=by
  intro n;rw[xJ y.f0];by_cases hn:isF n
  .rw [if_pos (show FB<=n/\n%FB=0 from hn),eQ];simp only[aF];constructor
   .rintro ⟨_,o,ho,_⟩;cases hm:μ (fid 0 (n/FB-1)) with
    |none=>rw[(hs _).2 hm]at ho; cases ho
    |some p =>
     have:=y.h.fam _ _ hm (cQ 0 _)
     grind[nL]
   .rintro ⟨o,ho⟩;obtain⟨b,c,x,e,_⟩:=y.h.obj.obj n o ho;have e':μ n=some (b,c):=e;rw[nL hn]at e';obtain⟨o',q,_⟩:=(hs _).1 _ e';simp[*]
  .rw [if_neg (show ¬(FB<=n/\n%FB=0) from hn)]
 have hE:(aG C μ hp w).LeR (aG C μ (fL hp 0 (.fam (cJ g))) w):=by
  refine⟨⟨λb hb=>⟨hb.1,hb.2.1,λn o c hg hm=>?_,hb.2.2.2⟩,λ_ _=>rfl⟩,λ_ _ e=>e⟩;obtain⟨o',ho'⟩:=(dom n).1 ⟨o,hg⟩;exact hb.2.2.1 _ _ _ ho' hm
 refine⟨y.h.move (λid o e=>?_) (λn o e=>(dom n).1 ⟨o,e⟩) (by simp_all) (λn o hg=>?_) y.h.mine y.h.pin y.h.frm (λn q e=>?_),dom⟩
 .rw [get?_putH,get?_cons]at e;split at e
  .rename_i h0; rw[<- h0]; exact⟨fb0,y.h.keys _ _ y.f0⟩
  .exact ⟨y.h.obj.keys _ _ e,y.h.keys _ _ e⟩
 .rw [xJ y.f0]at hg;by_cases hn:isF n
  .rw [if_pos (show FB<=n/\n%FB=0 from hn),eQ]at hg;simp only[aF]at hg;obtain⟨o1,ho1,rfl⟩:=hg;cases hm:μ (fid 0 (n/FB-1)) with
   |none=>rw[(hs _).2 hm]at ho1; cases ho1
   |some p =>
    obtain⟨o2,e1,e2,e3⟩:=(hs _).1 p hm;rw[ho1]at e1;cases e1;rw[<- nL hn]at hm;exact⟨p.1,p.2,o1,hm,e2,rfl,gW.1 e3⟩
  .rw [if_neg (show ¬(FB<=n/\n%FB=0) from hn)]at hg;obtain⟨b,c,x,e1,e2,e3⟩:=y.h.obj.obj n o hg;exact⟨b,c,x,e1,e2,rT hE (λ_ _ _ e=>e) e3⟩
 .rw [xJ y.f0]at e;by_cases hn:isF n
  .rw [if_pos (show FB<=n/\n%FB=0 from hn),eQ]at e;simp_all
  .rw [if_neg (show ¬(FB<=n/\n%FB=0) from hn)]at e;simp[*]
theorem Yz(y:YC C μ hp nx w l dl rid r0 F)(hpo:rH C)(hnp:C.np=eT hp)(hbnd:C.bnd=nx){g:Nat->Option Obj}(hs:Snap μ g w){hpv:List (Nat×aL)}{nv:Nat}(hh:rV hp hpv)
  (hsub:lI (eT hp) nx ⟨[],fL hp 0 (.fam (cJ g)),nx⟩ ⟨[],(0,.fam (cJ g))::hpv,nv⟩):∃μ2,bD (yCR C μ hp w (rbk μ hp) w) μ2 ((0,.fam (cJ g))::hpv) nv w:=by
 obtain⟨hS,dom⟩:=Kp y hs;let C2:Ctx:={ C with n:=0,R0:=aG C μ (fL hp 0 (.fam (cJ g))) w };have hrep:cR C2 μ ⟨[],fL hp 0 (.fam (cJ g)),nx⟩ ⟨#[],[]⟩ w :=
  ⟨rfl,rS.nil _ _,λs=>mS _ _ _,(hS.to (C':=C2) rfl rfl rfl (λ_ _ _ e=>e) hS.pin).1,Env.LeU.refl _,Kd.refl _⟩
 obtain⟨⟨μ2,hrep'⟩,_⟩:=nF (C:=C2) hpo hrep (λs d w x e=>by cases e) (by show lI C.np C.bnd _ _; rw[hnp,hbnd]; exact hsub);have h:=hrep'.hep;have hle:=hrep'.le;have h00:get? ((0,aL.fam (cJ g))::hpv) 0=some (.fam (cJ g)):=rfl;have tr:∀n o b c,hget ((0,.fam (cJ g))::hpv) n=some o->μ2 n=some (b,c)->(∀l p,o≠.hid l p)->∃m o' c',hget hp m=some o'/\μ m=some (b,c'):=by
  intro n o b c hg hm hn;refine dP λhc=>?_;have hB:C.B b:=by
   rcases h.mine _ _ _ _ hg hm with h1|h1
   .exact .inr (.inl h1)
   .exact .inr (.inr h1)
  have hU:=hle.U b ⟨h.lt hg hm,hB,λm o' c' hg' hm'=>by
   obtain⟨o2,ho2⟩:=(dom m).1 ⟨o',hg'⟩
   grind,h.obj.plain hg hm hn⟩
  exact hU.2.2.1 _ _ _ hg hm
 have fT:∀b,fbk μ b->∃n o c,hget ((0,.fam (cJ g))::hpv) n=some o/\μ2 n=some (b,c):=by
  rintro b ⟨q,c,e⟩;obtain⟨o,ho,_⟩:=(hs q).1 _ e;exact⟨fid 0 q,.snap o,c,by grind[jA,mJ,fE,fb0,eQ],h.pin _ _ (by show C.pin _=_; rw[y.pin]; exact e)⟩
 have kinds:∀m o c b,hget hp m=some o->μ m=some (b,c)->fbk μ b\/hbk μ hp b\/rbk μ hp b:=by
  intro m o c b hg hm;by_cases hn:isF m
  .rw [nL hn]at hm;exact .inl ⟨_,_,hm⟩
  .by_cases hd:∀l p,o≠.hid l p
   .exact .inr (.inr ⟨m,o,c,hg,hd,hn,hm⟩)
   .obtain ⟨lb,p,rfl⟩:∃lb p,o=.hid lb p:=(by grind);have h1:=(qB hg).2;have:=y.hid0 _ _ _ h1;subst this;exact .inr (.inl ⟨m,lb,c,h1,hm⟩)
 have hE:(aG C2 μ2 ((0,.fam (cJ g))::hpv) w).LeR (aG (yCR C μ hp w (rbk μ hp) w) μ2 ((0,.fam (cJ g))::hpv) w):=by
  refine⟨⟨λb hb=>⟨hb.1,?_,hb.2.2.1,hb.2.2.2⟩,λ_ _=>rfl⟩,λ_ _ e=>e⟩;by_cases ht:∃m o c,hget hp m=some o/\μ m=some (b,c)
  .obtain ⟨m,o,c,q1,q2⟩:=ht;rcases kinds m o c b q1 q2 with h1|h1|h1
   .obtain ⟨n,o',c',z1,z2⟩:=fT b h1;exact absurd z2 (hb.2.2.1 _ _ _ z1)
   .exact (y.ph hb.2.2.2 h1).elim
   .exact .inr (.inl (.inl h1))
  .exact .inl ⟨hb.1,hb.2.1,(by grind),hb.2.2.2⟩
 refine⟨μ2,h.move (λid o e=>⟨h.obj.keys _ _ e,h.keys _ _ e⟩) (by grind) (by grind) (λn o hg=>?_) (λn o b c hg hm=>?_) h.pin (Frm.refl _ _) (by grind)⟩
 .obtain ⟨b,c,x,e1,e2,e3⟩:=h.obj.obj n o hg;exact⟨b,c,x,e1,e2,rT hE (λ_ _ _ e=>e) e3⟩
 .by_cases hd:∀l p,o≠.hid l p
  .obtain ⟨m,o',c',q1,q2⟩:=tr n o b c hg hm hd;rcases kinds m o' c' b q1 q2 with h1|h1|h1
   .exact .inl (.inr (.inl h1))
   .exact .inl (.inr (.inr h1))
   .exact .inl (.inl h1)
  .obtain ⟨lb,p,rfl⟩:∃lb p,o=.hid lb p:=(by grind);obtain⟨rfl,q1,q2⟩:=zC y (C2:=C2) rfl h hh hg hm;exact .inl (.inr (.inr ⟨n,lb,c,q1,q2⟩))
theorem aGe(y:YC C μ hp nx w l dl rid r0 F){D:Nat->Prop}{W W':World}(k:YW C μ hp w l r0 D W){g:Nat->Option Obj}(hs:Snap μ g W){μ2:Nat->Option (Nat×Nat)}{hpv:List (Nat×aL)}{nv:Nat}
  (h:bD (yCR C μ hp w D W) μ2 ((0,.fam (cJ g))::hpv) nv W') (hh:rV hp hpv) {D':Nat->Prop} (hD':∀b,D' b↔D b\/(W.heap.size<=b/\b<W'.heap.size/\Plain W' b)) :
  bD (yCR C μ hp w D' W') μ2 ((0,.fam (cJ g))::hpv) nv W'/\Snap μ g W'/\Frm D W W'/\YW C μ hp w l r0 D' W':=by
 have h00:get? ((0,aL.fam (cJ g))::hpv) 0=some (.fam (cJ g)):=rfl;have hs':Snap μ g W':=by
  intro q;refine⟨λp e=>?_,(hs q).2⟩;obtain⟨o,ho,_⟩:=(hs q).1 p e;have h2:μ2 (fid 0 q)=some p:=h.pin _ _ (by show C.pin _=_; rw[y.pin]; exact e);have h3:hget ((0,.fam (cJ g))::hpv) (fid 0 q)=some (.snap o):=by
   grind[jA,mJ,fE,fb0,eQ]
  obtain⟨b,c,x,e1,e2,e3,e4⟩:=h.obj.obj _ _ h3;have e1':μ2 (fid 0 q)=some (b,c):=e1;rw[h2]at e1';cases e1';subst e3;exact⟨_,ho,e2,gW.2 e4⟩
 have hid':∀b,hbk μ hp b->W'.heap[b]?=w.heap[b]?:=by
  rintro b ⟨n,lb,c,q1,q2⟩;obtain⟨z1,z2⟩:=Mb y (C2:=yCR C μ hp w D W) rfl h hh q1 q2;obtain⟨o,ho,hH⟩:=h.recAt z1 z2;obtain⟨o',ho',hH'⟩:=y.h.recAt q1 q2;have hH:C.H lb 0 o:=hH;rw[ho,ho',y.fn _ _ _ hH hH']
 have hfrm:Frm D W W':=by
  have h0:Frm (yTR μ hp D) W W':=h.frm;refine⟨h0.os,h0.tape,h0.output,h0.size,λb hb hd=>?_,h0.drawn⟩;by_cases ht:yTR μ hp D b
  .rcases ht with h1|⟨q,c,h1⟩|h1
   .grind
   .obtain ⟨o,ho,e,_⟩:=(hs q).1 _ h1;obtain⟨o',ho',e',_⟩:=(hs' q).1 _ h1
    grind
   .rw [hid' b h1,k.hsame y h1]
  .exact h0.block b hb ht
 have k':YW C μ hp w l r0 D' W':=by
  refine⟨(k.frm.weak (by grind)).trans (hfrm.weak (by grind)),by rw[hid' l y.hl,y.lat],λb hb=>?_⟩;rcases(hD' b).1 hb with h1|h1
  .exact k.dD b h1
  .exact .inr (aV k.frm.size h1.1)
 refine⟨?_,hs',hfrm,k'⟩;have hE:(aG (yCR C μ hp w D W) μ2 ((0,.fam (cJ g))::hpv) W').LeR (aG (yCR C μ hp w D' W') μ2 ((0,.fam (cJ g))::hpv) W'):=by
  refine⟨⟨λb hb=>⟨hb.1,?_,hb.2.2.1,hb.2.2.2⟩,λ_ _=>rfl⟩,λ_ _ e=>e⟩;rcases hb.2.1 with h1|(h1|h1)|h1
  .exact .inl h1
  .exact .inr (.inl (.inl ((hD' b).2 (.inl h1))))
  .exact .inr (.inl (.inr h1))
  .exact .inr (.inl (.inl ((hD' b).2 (.inr ⟨h1,hb.1,hb.2.2.2⟩))))
 refine h.move (λid o e=>⟨h.obj.keys _ _ e,h.keys _ _ e⟩) (by grind) (by grind) (λn o hg=>?_) (λn o b c hg hm=>?_) h.pin (Frm.refl _ _) (by grind)
 .obtain ⟨b,c,x,e1,e2,e3⟩:=h.obj.obj n o hg;exact⟨b,c,x,e1,e2,rT hE (λ_ _ _ e=>e) e3⟩
 .by_cases hd:∀l p,o≠.hid l p
  .rcases h.mine _ _ _ _ hg hm with(h1|h1)|h1
   .exact .inl (.inl ((hD' b).2 (.inl h1)))
   .exact .inl (.inr h1)
   .exact .inl (.inl ((hD' b).2 (.inr ⟨h1,h.lt hg hm,h.obj.plain hg hm hd⟩)))
  .obtain ⟨lb,p,rfl⟩:∃lb p,o=.hid lb p:=(by grind);obtain⟨rfl,q1,q2⟩:=zC y (C2:=yCR C μ hp w D W) rfl h hh hg hm;exact .inl (.inr (.inr ⟨n,lb,c,q1,q2⟩))
def YJ(C:Ctx)(μ:Nat->Option (Nat×Nat))(hp:List (Nat×aL))(w:World)(l:Nat)(r0:Loop)(V:Nr)(i:Nat)(D:Nat->Prop)(W:World):Prop :=
 ∃v μ2 W0 g,V.I i v/\bD (yCR C μ hp w D W0) μ2 ((0,.fam (cJ g))::V.hp v) V.nx W0/\Snap μ g W0/\YW C μ hp w l r0 D W0/\∀b,D b->W.heap[b]?=W0.heap[b]?
theorem Vq(y:YC C μ hp nx w l dl rid r0 F)(hpo:rH C)(hnp:C.np=eT hp)(hbnd:C.bnd=nx){Hd:Handler}(hH:lA P C dl Hd){V:Nr}(hh:∀v,rV hp (V.hp v)){items:List SV}
  (hstart:∀g,∃v,V.I 0 v/\lI (eT hp) nx ⟨[],fL hp 0 (.fam (cJ g)),nx⟩ ⟨[],(0,.fam (cJ g))::V.hp v,V.nx⟩)
  (hround:∀i v g item,V.I i v->items[i]?=some item->isL item=true/\Hd rid (eT ((0,.fam (cJ g))::V.hp v)) V.nx C.dep item ((0,.fam (cJ g))::V.hp v) V.nx λgo hp' nx' =>
   go=true/\∃v',V.I (i+1) v'/\lI (eT hp) nx ⟨[],hp',nx'⟩ ⟨[],(0,.fam (cJ g))::V.hp v',V.nx⟩)
  {st0:Nat->Option Obj} (hst:dom st0=rbk μ hp) {μc:Nat->Option (Nat×Nat)} (hμc:∀q,μc (fid 0 q)=μ (fid 0 q)):yZ P (yT μ hp l) w μc l r0 items st0 (YJ C μ hp w l r0 V):=by
 refine⟨?_,?_,?_⟩
 .rw [hst];obtain⟨g,hs⟩:=Nf (μ:=μ) (W:=w) λq p e=>y.fplain ⟨q,p.2,e⟩;obtain⟨v,hI,hsub⟩:=hstart g;obtain⟨μ2,h⟩:=Yz y hpo hnp hbnd hs (hh v) hsub;exact⟨v,μ2,w,g,hI,h,hs,⟨Frm.refl _ _,y.lat,λb hb=>.inl hb⟩,λ_ _=>rfl⟩
 .rintro i D W W' ⟨v,μ2,W0,g,a1,a2,a3,a4,a5⟩ _ _ hc _;exact⟨v,μ2,W0,g,a1,a2,a3,a4,(by grind)⟩
 .rintro i D W item vs hit ⟨v,μ2,W0,g0,hI,h0,hs0,k0,hD⟩ hD0 hDp hDn hfrm hlat _ hR hfp;have k:YW C μ hp w l r0 D W:=⟨hfrm,hlat,(by simp_all)⟩;obtain⟨g,hs⟩:=Nf (μ:=μ) (W:=W) (by grind);have h1:=transfer y k0 k hD h0 hs0 hs (hh v);have hsz:w.heap.size<=W.heap.size:=hfrm.size;let C2:Ctx:=yCR C μ hp w D W;have ext:C.Ext C2:=by
   refine⟨y.h.frm.trans' hfrm λb hb=>?_,λb hb=>?_,aN _,λ_ _ _ _=>dF,Env.LeU.refl _,Kd.refl _,λ_ _ e=>e⟩
   .rcases hb with hb|hb
    .exact y.tY hb
    .rcases k.dD b hb with h|h
     .exact y.tY (.inr (.inl h))
     .exact .inr (aV y.h.frm.size h)
   .rcases hb with hb|hb|hb
    .rcases k.dD b hb with h|h
     .exact y.tY (.inr (.inl h))
     .exact .inr (aV y.h.frm.size h)
    .exact y.tY (.inl hb)
    .exact y.Zo hb
  have hle:(aG C μ hp w).LeU (aG C2 μ2 ((0,.fam (cJ g))::V.hp v) W):=by
   refine⟨λb hb=>?_,λb hb=>k.usame y hb⟩;have hb':Ufor C μ hp w b:=hb;refine⟨bM hb'.1 hsz,.inl hb',λn o c hg hm=>?_,hb'.2.2.2.same (k.usame y hb')⟩;by_cases hd:∀l p,o≠.hid l p
   .rcases Bi y k h1 hs hg hm hd with⟨_,q,c',e⟩|⟨_,_,h2|h2⟩
    .obtain ⟨o',ho'⟩:=y.h.fam _ _ e (cQ 0 q);exact hb'.2.2.1 _ _ _ ho' e
    .rcases k.dD b h2 with⟨n',o',c',q1,_,_,q4⟩|h3
     .exact hb'.2.2.1 _ _ _ q1 q4
     .have:=hb'.1; omega
    .have:=hb'.1; omega
   .obtain ⟨lb,p,rfl⟩:∃lb p,o=.hid lb p:=(by grind);obtain⟨rfl,q1,q2⟩:=zC y (C2:=C2) rfl h1 (hh v) hg hm;exact hb'.2.2.1 _ _ _ (y.h.get q1 rfl) q2
  have hkd:Kd w W:=by
   refine Kd.Kf hsz λb hb=>?_;by_cases hl:b=l
   .subst hl;exact .inr (.inl ⟨⟨_,y.lat⟩,⟨_,hlat⟩⟩)
   .by_cases ht:yT μ hp l b\/D b
    .refine .inr (.inr ?_);rcases ht with(h2|h2|h2)|h2
     .obtain ⟨q,c,e⟩:=h2;exact⟨(y.fplain ⟨q,c,e⟩).2,(hfp q _ (by rw[hμc]; exact e)).2⟩
     .exact ⟨(y.rplain h2).2,(hDp b (hD0 b (by rw[hst]; exact h2))).2⟩
     .omega
     .rcases k.dD b h2 with h3|h3
      .exact ⟨(y.rplain h3).2,(hDp b h2).2⟩
      .omega
    .exact .inl (hfrm.block b hb ht)
  obtain⟨z1,z2⟩:=Mb y (C2:=C2) rfl h1 (hh v) y.recd y.mrec;have hRi:R (aG C2 μ2 ((0,.fam (cJ g))::V.hp v) W) item vs :=
   eW (E:=iV (λ_=>False) W) ⟨⟨λ_ h=>h.elim,λ_ h=>h.elim⟩,(by grind)⟩ hR
  obtain⟨f,tmps,assign,body,hy,hrd⟩:=hH C2 ext μ2 _ V.nx W rid l 0 item vs _ h1 (by show C.R0.LeU _; rw[y.R0]; exact hle) (by show Kd C.R0.w W; rw[y.R0]; exact hkd) z1 z2 hRi (hround i v g item hI hit).1 (hround i v g item hI hit).2;refine⟨f,tmps,assign,body,hy,hrd.mono ?_⟩;intro e W' he;cases e with
  |panicked c=>exact he.elim
  |outgrown=>exact he.elim
  |returned u =>
   obtain⟨bb,hp',nx',μ',rfl,⟨rfl,v',hI',hsub⟩,hE,hh'⟩:=he;let C3:Ctx:={ C2 with n:=0,R0:=iV (λ_=>False) W' };have hrep:cR C3 μ' ⟨[],hp',nx'⟩ ⟨#[],[]⟩ W' :=
    ⟨rfl,rS.nil _ _,λs=>mS _ _ _,(hh'.to (C':=C3) rfl rfl rfl (λ_ _ _ e=>e) hh'.pin).1,⟨λ_ h=>h.elim,λ_ h=>h.elim⟩,Kd.refl _⟩
   obtain⟨⟨μ3,hrep'⟩,_⟩:=nF (C:=C3) hpo hrep (λs d w x e=>by cases e) (by show lI C.np C.bnd _ _; rw[hnp,hbnd]; exact hsub);have h3:bD C2 μ3 ((0,.fam (cJ g))::V.hp v') V.nx W':=(hrep'.hep.to (C':=C2) rfl rfl rfl (λ_ _ _ e=>e) hrep'.hep.pin).1;obtain⟨D',hD'⟩:∃D':Nat->Prop,∀b,D' b↔D b\/(W.heap.size<=b/\b<W'.heap.size/\Plain W' b):=⟨_,λ_=>dF⟩;obtain⟨e1,e2,e3,e4⟩:=aGe y k hs h3 (hh v') hD';refine⟨rfl,D',⟨v',μ3,W',g,hI',e1,e2,e4,λ_ _=>rfl⟩,(by grind),(by grind),λb hb=>?_,e3,e4.lat⟩;rcases(hD' b).1 hb with h4|h4
   .exact ⟨bM (hDp b h4).1 e3.size,hE.kd.plain b (hDp b h4).1 (hDp b h4).2⟩
   grind
theorem sD(F:Nat->aL)(st:Nat->Option Obj)(n:Nat) :
  hget (yHp F st) n=if n=2 then some (.hid 0 0)else if FB<=n/\n%FB=0 then dX? (F (n/FB-1))else if FB<=n/\n%FB=1 then (st (n/FB-1)).map .obj else none:=by
 by_cases hn:n<FB
 .have c1:¬(FB<=n/\n%FB=0):=λh=>by omega
  have c2:¬(FB<=n/\n%FB=1):=λh=>by omega
  rw[if_neg c1,if_neg c2,fF hn];simp only[yHp,get?_cons];by_cases h0:0=n
  .subst h0; rfl
  .by_cases h1:1=n
   .subst h1; rfl
   .by_cases h2:2=n
    .subst h2; rfl
    simp_all[Ne.symm,get?_nil]
 .have hge:FB<=n:=bJ.1 hn;have h2:n≠2:=by grind[FB]
  rw[if_neg h2];simp only[hget,hn,if_false,yHp,get?_cons,hge,true_and];by_cases h0:n%FB=0
  .simp [*]
  .by_cases h1:n%FB=1
   .simp [h1,vB]
   .have c0:¬0=n%FB:=λe=>h0 e.symm;have c1:¬1=n%FB:=λe=>h1 e.symm;simp only[h0,h1,c0,c1,if_false]
    grind[get?_nil]
theorem YC.uT(y:YC C μ hp nx w l dl rid r0 F){b:Nat}(h:Ufor C μ hp w b)(k:yT μ hp l b):False:=by
 rcases k with⟨q,c,e⟩|⟨n,o,c,h1,_,_,h4⟩|rfl
 .obtain ⟨o,ho⟩:=y.h.fam _ _ e (cQ 0 q);exact h.2.2.1 _ _ _ ho e
 .exact h.2.2.1 _ _ _ h1 h4
 .exact y.ph h.2.2.2 y.hl
theorem aDr{S:rW}{f:Nat}(hS:S.Ok P f){x:S.X}(y:YC C μ hp nx w l dl rid r0 (S.F0 x))(hpo:rH C)(hnp:C.np=eT hp)(hbnd:C.bnd=nx){Hd:Handler}(hH:lA P C dl Hd)(hx:S.pre x)
  {caps:SV} {cs:List Value} (hcaps:R (aG C μ hp w) caps cs) (hsubc:sub .y hp 200 caps (S.args x)) {V:Nr} (hh:∀v,rV hp (V.hp v)) (hfo:∀z,S.post x z->qM (S.F1 x z))
  (hstart:∀g,∃v,V.I 0 v/\lI (eT hp) nx ⟨[],fL hp 0 (.fam (cJ g)),nx⟩ ⟨[],(0,.fam (cJ g))::V.hp v,V.nx⟩)
  (hround:∀i v g item,V.I i v->(S.items x)[i]?=some item->isL item=true/\Hd rid (eT ((0,.fam (cJ g))::V.hp v)) V.nx C.dep item ((0,.fam (cJ g))::V.hp v) V.nx λgo hp' nx' =>
   go=true/\∃v',V.I (i+1) v'/\lI (eT hp) nx ⟨[],hp',nx'⟩ ⟨[],(0,.fam (cJ g))::V.hp v',V.nx⟩) :
  Calls P f (.func (.yield l) #[] #[]::cs).toArray w fun
   |.returned _,w'=>∃z v μ3,S.post x z/\V.I (S.items x).length v/\bD C μ3 ((0,.fam (S.F1 x z))::V.hp v) V.nx w'/\(aG C μ hp w).LeR (aG C μ3 ((0,.fam (S.F1 x z))::V.hp v) w')/\Kd w w'/\w'.heap[l]?=some (.loop r0)
   |_,_=>False:=by
 have h1F:1<FB:=by decide
 have h2F:2<FB:=by decide
 obtain⟨st0,hst⟩:∃st0:Nat->Option Obj,∀q,(rbk μ hp q->st0 q=w.heap[q]?)/\(¬rbk μ hp q->st0 q=none):=by
  classical
  exact⟨λq=>if rbk μ hp q then w.heap[q]? else none,(by grind)⟩
 have st0r:∀q o,st0 q=some o->rbk μ hp q/\w.heap[q]?=some o:=by
  grind
 have hdom:dom st0=rbk μ hp:=by
  funext q;refine propext ⟨λ⟨o,e⟩=>(st0r q o e).1,λh=>?_⟩;exact⟨w.heap[q]'(y.rplain h).1,by simp[*]⟩
 obtain⟨μc,m2,mF,mR,m0,mI⟩:∃μc:Nat->Option (Nat×Nat),μc 2=some (l,0)/\(∀n,isF n->μc n=μ n)/\(∀n,FB<=n->n%FB=1->dom st0 (n/FB-1)->μc n=some (n/FB-1,0))/\μc 0=μ 0 /\
   ∀n p,μc n=some p->(n=2/\p=(l,0))\/(isF n/\μ n=some p)\/(FB<=n/\n%FB=1/\dom st0 (n/FB-1)/\p=(n/FB-1,0))\/n=0:=by
  classical
  refine⟨λn=>if n=2 then some (l,0)else if isF n then μ n else if FB<=n/\n%FB=1/\dom st0 (n/FB-1)then some (n/FB-1,0)else if n=0 then μ 0 else none,by simp,λn h=>?_,λn a b c=>?_,?_,λn p e=>?_⟩
  .have:n≠2:=by have:=h.1; omega
   simp[*]
  .grind [isF]
  .simp
  grind
 obtain⟨T,hT⟩:∃T,T=yT μ hp l:=⟨_,rfl⟩;obtain⟨U,hU⟩:∃U,U=Ufor C μ hp w:=⟨_,rfl⟩;have hgF:∀n,isF n->hget hp n=dX? (S.F0 x (n/FB-1)):=λn hn=>jA y.f0 hn
 -- the callee's side
 have cls:∀n o b c,hget (yHp (S.F0 x) st0) n=some o->μc n=some (b,c)->(n=2/\b=l/\o=.hid 0 0)\/(isF n/\hget hp n=some o/\μ n=some (b,c))\/(FB<=n/\n%FB=1/\b=n/FB-1/\rbk μ hp b/\∃o',o=.obj o'/\w.heap[b]?=some o'):=by
  intro n o b c hg hm;rw[sD]at hg;split at hg
  .grind
  .split at hg
   .grind
   .split at hg
    .rename_i h4;simp only[aF]at hg;obtain⟨o',ho',rfl⟩:=hg;simp_all
    .cases hg
 have hLU:(aG C μ hp w).LeU (aG (Bm w T U μc r0) μc (yHp (S.F0 x) st0) w):=by
  refine⟨λb hb=>?_,λ_ _=>rfl⟩;have hb':Ufor C μ hp w b:=hb;refine⟨hb'.1,.inl (by rw[hU]; exact hb'),λn o c hg hm=>?_,hb'.2.2.2⟩;rcases cls n o b c hg hm with⟨_,rfl,_⟩|⟨_,q1,q2⟩|⟨_,_,_,q,_⟩
  .exact y.uT hb' (.inr (.inr rfl))
  .exact hb'.2.2.1 _ _ _ q1 q2
  .exact y.uT hb' (.inr (.inl q))
 have hfid:∀q p,μ (fid 0 q)=some p->μc (fid 0 q)=some p:=(by grind[mJ]);have hh0:bD (Bm w T U μc r0) μc (yHp (S.F0 x) st0) 3 w:=by
  refine⟨⟨λn o e=>?_,λn o hg=>?_⟩,λn n' o o' b c c' hg hg' hm hm'=>?_,λn o b c hg hm=>?_,λn o e=>?_,λn p e hlt=>?_,λn p e hge=>?_,λ_ _ e=>e,Frm.refl _ _,λn p q e hge hg=>?_⟩
  .grind [yHp,get?_cons,get?_nil]
  .have hg0:=hg;rw[sD]at hg;split at hg
   .rename_i h2;subst h2;cases hg;exact⟨l,0,.loop r0,m2,y.lat,rfl,rfl,rfl⟩
   .split at hg
    .rename_i h3;have h3':isF n:=h3;have hg2:=hg;rw[<- hgF n h3']at hg;obtain⟨b,c,z,e1,e2,e3⟩:=y.h.obj.obj n o hg;exact⟨b,c,z,by show μc n=_; rw[mF n h3']; exact e1,e2,y.fo _ _ hLU hfid _ _ hg2 _ _ e3⟩
    .split at hg
     .rename_i h4;simp only[aF]at hg;obtain⟨o',ho',rfl⟩:=hg;obtain⟨q1,q2⟩:=st0r _ _ ho';exact⟨_,0,o',mR n h4.1 h4.2 ⟨o',ho'⟩,q2,rfl,gW.1 ((y.rplain q1).2 _ q2)⟩
     .cases hg
  .rcases cls n o b c hg hm with⟨a1,a2,_⟩|⟨a1,a2,a3⟩|⟨a1,a2,a3,a4,_⟩<;>rcases cls n' o' b c' hg' hm' with⟨b1,b2,_⟩|⟨b1,b2,b3⟩|⟨b1,b2,b3,b4,_⟩
   .omega
   .subst a2;rw[nL b1]at b3;exact(y.ph (y.fplain ⟨_,_,b3⟩).2 y.hl).elim
   .subst a2;exact(y.ph (y.rplain b4).2 y.hl).elim
   .subst b2;rw[nL a1]at a3;exact(y.ph (y.fplain ⟨_,_,a3⟩).2 y.hl).elim
   .exact y.h.inj _ _ _ _ _ _ _ a2 b2 a3 b3
   .rw [nL a1]at a3;exact(y.fr ⟨_,_,a3⟩ b4).elim
   .subst b2;exact(y.ph (y.rplain a4).2 y.hl).elim
   .rw [nL b1]at b3;exact(y.fr ⟨_,_,b3⟩ a4).elim
   .have e1:=nI a1
    grind[nI]
  .left;show T b;rw[hT];rcases cls n o b c hg hm with⟨_,a2,_⟩|⟨a1,_,a3⟩|⟨_,_,_,a4,_⟩
   .exact .inr (.inr a2)
   .rw [nL a1]at a3;exact .inl ⟨_,_,a3⟩
   .exact .inr (.inl a4)
  .grind [yHp,get?_cons,get?_nil]
  .rcases mI n p e with⟨h,_⟩|⟨h,_⟩|⟨h,_⟩|h
   .omega
   .have:=h.1; omega
   .omega
   .omega
  .rw [sD,if_neg (by omega)];rcases mI n p e with⟨h,_⟩|⟨h,h'⟩|⟨h,h',h'',_⟩|h
   .omega
   .rw [if_pos (show FB<=n/\n%FB=0 from h),<- hgF n h];exact y.h.fam _ _ h' hge
   .rw [if_neg (λh3=>by omega),if_pos ⟨h,h'⟩];obtain⟨o,ho⟩:=h'';simp[*]
   .omega
  .obtain ⟨pb,pc⟩:=p;rcases cls n _ pb pc hg e with⟨a1,_,_⟩|⟨_,a2,a3⟩|⟨_,_,a3,_,_⟩
   .omega
   .exact y.h.pos _ _ _ a3 hge a2
   .exact a3
 have hgc:uG (Bm w T U μc r0):=by
  refine⟨y.g.at y.h.frm,λb hb ht=>?_⟩;have ht':yT μ hp l b:=by rw[<- hT]; exact ht
  rcases y.tY ht' with h|h
  .exact y.g.gT b hb h
  .have:=y.g.gok.lt hb; omega
 have hUp:∀b,U b->b<w.heap.size/\Plain w b:=by
  intro b hb;rw[hU]at hb;exact⟨hb.1,hb.2.2.2⟩
 have hFr:(aG C μ hp w).Freed .y hp (aG (Bm w T U μc r0) μc (yHp (S.F0 x) st0) w):=by
  have ren0:∀n n',ren .y n=some n'->n=0/\n'=0:=by
   grind[ren,Keep.y,get?_cons,get?_nil]
  refine⟨λ_=>hLU,λn n' p e hm=>?_,λn n' i p e hm=>?_,rfl,(by grind[kept,Keep.y])⟩
  .obtain ⟨rfl,rfl⟩:=ren0 n n' e;show μc 0=_;rw[m0]; exact hm
  .obtain ⟨rfl,rfl⟩:=ren0 n n' e;exact hfid i p hm
 have hargs:=lF hFr y.h.obj 200 _ _ _ hsubc hcaps;have hY:yZ P T w μc l r0 (S.items x) st0 (YJ C μ hp w l r0 V):=by
  rw[hT];exact Vq y hpo hnp hbnd hH hh hstart hround hdom (λq=>mF _ (mJ q))
 refine(hS.does x w μc cs T U r0 l st0 _ hUp hgc hh0 m2 hx hargs hY).mono ?_;intro e w' he;cases e with
 |panicked c=>exact he.elim
 |outgrown=>exact he.elim
 |returned u =>
 obtain⟨z,st',μe,hz,⟨v,μ2,W0,g,hI,h0,hs0,k0,hD⟩,hmono,he,hkd⟩:=he;have hF1:=hfo z hz;obtain⟨D,hDd⟩:∃D,D=dom st':=⟨_,rfl⟩;rw[<- hDd]at h0 k0 hD;have hTfrm:Frm (yT μ hp l) w w':=by rw[<- hT]; exact he.frm
 have k:YW C μ hp w l r0 D w':=by
  refine⟨hTfrm.weak λ_ h=>.inl h,?_,k0.dD⟩;obtain⟨o,ho,hHo⟩:=he.recAt (id:=2) (l:=0) (p:=0) rfl (he.pin 2 _ m2);rw[ho,hHo.2.2]
 have h00:∀G:Nat->aL,get? ((0,aL.fam G)::V.hp v) 0=some (.fam G):=λ_=>rfl;have raw:∀b,D b->∃o c,hget (yHp (S.F1 x z) st') (fid 1 b)=some (.obj o)/\μe (fid 1 b)=some (b,c):=by
  intro b hb;rw[hDd]at hb;obtain⟨o,ho⟩:=hb;have hg:hget (yHp (S.F1 x z) st') (fid 1 b)=some (.obj o):=by
   have n2:fid 1 b≠2:=by grind[cQ]
   rw[sD,if_neg n2,if_neg (by grind[gF]),if_pos ⟨cQ 1 b,gF b h1F⟩,fE b h1F,ho]; rfl
  obtain⟨b',c,y',e1,_,_⟩:=he.obj.obj _ _ hg;have e1':μe (fid 1 b)=some (b',c):=e1;have:=he.pos _ _ _ e1' (cQ 1 b) hg
  grind[fE]
 have cF:∀n,isF n->hget (yHp (S.F1 x z) st') n=dX? (S.F1 x z (n/FB-1)):=by
  intro n hn;have n2:n≠2:=by have:=hn.1; omega
  rw[sD,if_neg n2,if_pos (show FB<=n/\n%FB=0 from hn)]
 obtain⟨μ3,d1,d2⟩:∃μ3:Nat->Option (Nat×Nat),(∀n,isF n->μ3 n=μe n)/\∀n,¬isF n->μ3 n=μ2 n:=by
  classical
  exact⟨λn=>if isF n then μe n else μ2 n,(by grind),(by grind)⟩
 -- the rest,as it was when the last round ended
 have kindsR:∀n o b c,¬isF n->hget ((0,.fam (cJ g))::V.hp v) n=some o->μ2 n=some (b,c)->(D b/\∀l p,o≠.hid l p)\/(hbk μ hp b/\∃lb,o=.hid lb 0):=by
  intro n o b c hn hg hm;by_cases hd:∀l p,o≠.hid l p
  .rcases Bi y k0 h0 hs0 hg hm hd with⟨q,_⟩|⟨_,_,q|q⟩
   .grind
   .grind
   .have:=h0.lt hg hm; omega
  .obtain ⟨lb,p,rfl⟩:∃lb p,o=.hid lb p:=(by grind);obtain⟨rfl,q1,q2⟩:=zC y (C2:=yCR C μ hp w D W0) rfl h0 (hh v) hg hm;exact .inr ⟨⟨n,lb,c,q1,q2⟩,lb,rfl⟩
 have sameR:∀n o b c,¬isF n->hget ((0,.fam (cJ g))::V.hp v) n=some o->μ2 n=some (b,c)->w'.heap[b]?=W0.heap[b]?:=by
  intro n o b c hn hg hm;rcases kindsR n o b c hn hg hm with⟨q,_⟩|⟨q,_⟩
  .exact hD b q
  .rw [k.hsame y q,k0.hsame y q]
 have hidp:∀b,hbk μ hp b->¬Plain w' b:=by
  intro b hb hp';obtain⟨_,r,e⟩:=y.hloop hb;have:=hp' _ ((k.hsame y hb).trans e);cases this
 have plainF:∀n o b c,isF n->hget (yHp (S.F1 x z) st') n=some o->μe n=some (b,c)->Plain w' b:=by
  intro n o b c hn hg hm;refine he.obj.plain hg hm ?_;rintro lb p rfl;simp_all[Kq]
 have apart:∀n o b c n' o' c',isF n->hget (yHp (S.F1 x z) st') n=some o->μe n=some (b,c)->¬isF n'->hget ((0,.fam (cJ g))::V.hp v) n'=some o'->μ2 n'=some (b,c')->False:=by
  intro n o b c n' o' c' hn hg hm hn' hg' hm';rcases kindsR n' o' b c' hn' hg' hm' with⟨q,_⟩|⟨q,_⟩
  .obtain ⟨o2,c2,z1,z2⟩:=raw b q;have:=he.inj _ _ _ _ _ _ _ hg z1 hm z2;rw[this]at hn;have h3:=hn.2
   grind[gF]
  grind
 have mineB:∀b,yTR μ hp D b->C.T b\/C.w0.heap.size<=b:=by
  rintro b (hb|hb|hb)
  .rcases k.dD b hb with h|h
   .exact y.tY (.inr (.inl h))
   .exact .inr (aV y.h.frm.size h)
  .exact y.tY (.inl hb)
  .exact y.Zo hb
 have hg3:∀n,¬isF n->hget ((0,.fam (S.F1 x z))::V.hp v) n=hget ((0,.fam (cJ g))::V.hp v) n:=λn hn=>qV n hn;have hg3F:∀n,isF n->hget ((0,.fam (S.F1 x z))::V.hp v) n=hget (yHp (S.F1 x z) st') n:=(by grind[jA]);have pinned:∀n p,μ n=some p->μ3 n=some p:=by
  intro n p e;by_cases hn:isF n
  .rw [d1 n hn];exact he.pin n p (by show μc n=_; simp[*])
  .rw [d2 n hn];exact h0.pin n p (by show C.pin n=_; rw[y.pin]; exact e)
 have snapT:∀b,fbk μ b->∃n o c,hget ((0,.fam (cJ g))::V.hp v) n=some o/\μ2 n=some (b,c):=by
  rintro b ⟨q,c,e⟩;obtain⟨o,ho,_⟩:=(hs0 q).1 _ e;exact⟨fid 0 q,.snap o,c,by grind[jA,mJ,fE,eQ],h0.pin _ _ (by show C.pin _=_; rw[y.pin]; exact e)⟩
 have hE3:(aG (yCR C μ hp w D W0) μ2 ((0,.fam (cJ g))::V.hp v) W0).LeR (aG C μ3 ((0,.fam (S.F1 x z))::V.hp v) w'):=by
  have same:∀b,Ufor (yCR C μ hp w D W0) μ2 ((0,.fam (cJ g))::V.hp v) W0 b->w'.heap[b]?=W0.heap[b]?/\(Ufor C μ hp w b\/D b):=by
   rintro b ⟨b1,b2,b3,b4⟩;rcases b2 with h1|(h1|h1|h1)|h1
   .exact ⟨by rw[k.usame y h1,k0.usame y h1],.inl h1⟩
   .grind
   .grind
   .exfalso;obtain⟨_,r,e⟩:=y.hloop h1;have:=b4 _ ((k0.hsame y h1).trans e);cases this
   .have h1:W0.heap.size<=b:=h1;omega
  refine⟨⟨λb hb=>?_,λb hb=>(same b hb).1⟩,λn p e=>?_⟩
  .obtain ⟨s1,s2⟩:=same b hb;refine⟨(aU.1 (s1.trans (bU hb.1))).1,?_,λn o c hg hm=>?_,hb.2.2.2.same s1⟩
   .rcases s2 with h1|h1
    .exact h1.2.1
    .rcases mineB b (.inl h1)with h2|h2
     .exact .inr (.inl h2)
     .exact .inr (.inr h2)
   .by_cases hn:isF n
    .rw [hg3F n hn]at hg;rw[d1 n hn]at hm;rcases s2 with h1|h1
     .rcases he.mine _ _ _ _ hg hm with h2|h2
      .have h2':yT μ hp l b:=by rw[<- hT]; exact h2
       exact y.uT h1 h2'
      .have h2:w.heap.size<=b:=h2;have:=h1.1; omega
     .obtain ⟨o2,c2,z1,z2⟩:=raw b h1;have:=he.inj _ _ _ _ _ _ _ hg z1 hm z2;rw[this]at hn;have h3:=hn.2
      grind[gF]
    .rw [hg3 n hn]at hg;rw[d2 n hn]at hm;exact hb.2.2.1 _ _ _ hg hm
  .by_cases hn:isF n
   .have e':μ2 n=some p:=e;obtain⟨o,ho⟩:=h0.fam _ _ e' hn.1;rw[jA (h00 _) hn,eQ]at ho;simp only[aF]at ho;obtain⟨o1,ho1,_⟩:=ho;cases hm:μ (fid 0 (n/FB-1)) with
    |none=>rw[(hs0 _).2 hm]at ho1; cases ho1
    |some p1 =>
     rw[<- nL hn]at hm;have h4:μ2 n=some p1:=h0.pin _ _ (by show C.pin _=_; rw[y.pin]; exact hm);rw[e']at h4;cases h4;exact pinned n p hm
   .show μ3 n=_;rw[d2 n hn];exact e
 have hEc:(aG (Bm w T U μc r0) μe (yHp (S.F1 x z) st') w').LeU (aG C μ3 ((0,.fam (S.F1 x z))::V.hp v) w'):=by
  refine⟨λb hb=>?_,λ_ _=>rfl⟩;refine⟨hb.1,?_,λn o c hg hm=>?_,hb.2.2.2⟩
  .rcases hb.2.1 with h1|h1|h1
   .have h1':Ufor C μ hp w b:=by rw[<- hU]; exact h1
    exact h1'.2.1
   .have h1':yT μ hp l b:=by rw[<- hT]; exact h1
    rcases y.tY h1' with h2|h2
    .exact .inr (.inl h2)
    .exact .inr (.inr h2)
   .exact .inr (.inr (aV y.h.frm.size h1))
  .by_cases hn:isF n
   .rw [hg3F n hn]at hg;rw[d1 n hn]at hm;exact hb.2.2.1 _ _ _ hg hm
   .rw [hg3 n hn]at hg;rw[d2 n hn]at hm;rcases kindsR n o b c hn hg hm with⟨q,_⟩|⟨q,_⟩
    .obtain ⟨o2,c2,z1,z2⟩:=raw b q;exact hb.2.2.1 _ _ _ z1 z2
    .exact hidp b q hb.2.2.2
 have fin:bD C μ3 ((0,.fam (S.F1 x z))::V.hp v) V.nx w':=by
  refine⟨⟨λn o e=>?_,λn o hg=>?_⟩,λn n' o o' b c c' hg hg' hm hm'=>?_,λn o b c hg hm=>?_,λn o e=>?_,λn p e hlt=>?_,λn p e hge=>?_,λn p e=>?_,?_,λn p q e hge hg=>?_⟩
  .rw [get?_cons]at e;by_cases hz0:0=n
   .omega
   .rw [if_neg hz0]at e;exact h0.obj.keys n o (by simp_all[get?_cons])
  .by_cases hn:isF n
   .rw [hg3F n hn]at hg;obtain⟨b,c,y',e1,e2,e3⟩:=he.obj.obj n o hg;rw[cF n hn]at hg;exact⟨b,c,y',by show μ3 n=_; rw[d1 n hn]; exact e1,e2,hF1 _ _ hEc (λq p e=>by show μ3 _=_; rw[d1 _ (mJ q)]; exact e) _ _ hg _ _ e3⟩
   .rw [hg3 n hn]at hg;obtain⟨b,c,y',e1,e2,e3⟩:=h0.obj.obj n o hg;exact⟨b,c,y',by show μ3 n=_; rw[d2 n hn]; exact e1,(sameR n o b c hn hg e1).trans e2,rT hE3 (λ_ _ _ e=>e) e3⟩
  .by_cases hn:isF n<;>by_cases hn':isF n'
   .rw [hg3F n hn]at hg;rw[hg3F n' hn']at hg';rw[d1 n hn]at hm;rw[d1 n' hn']at hm';exact he.inj _ _ _ _ _ _ _ hg hg' hm hm'
   .grind
   .grind
   .rw [hg3 n hn]at hg;rw[hg3 n' hn']at hg';rw[d2 n hn]at hm;rw[d2 n' hn']at hm';exact h0.inj _ _ _ _ _ _ _ hg hg' hm hm'
  .by_cases hn:isF n
   .rw [hg3F n hn]at hg;rw[d1 n hn]at hm;rcases he.mine _ _ _ _ hg hm with h2|h2
    .exact y.tY (by rw[<- hT]; exact h2)
    .exact .inr (aV y.h.frm.size h2)
   .rw [hg3 n hn]at hg;rw[d2 n hn]at hm;rcases h0.mine _ _ _ _ hg hm with h2|h2
    .exact mineB b h2
    .have h2:W0.heap.size<=b:=h2;have:=h0.lt hg hm; omega
  .rw [get?_cons]at e;by_cases hz0:0=n
   .rw [<- hz0]; exact h0.keys 0 _ (h00 _)
   .rw [if_neg hz0]at e;exact h0.keys n o (by simp_all[get?_cons])
  .rw [d2 n (λh=>by have:=h.1; omega)]at e;exact h0.nx n p e hlt
  .by_cases hn:isF n
   .rw [d1 n hn]at e;rw[hg3F n hn];exact he.fam n p e hge
   .rw [d2 n hn]at e;rw[hg3 n hn];exact h0.fam n p e hge
  .rw [y.pin]at e;simp[*]
  .exact y.h.frm.trans' hTfrm λb hb=>y.tY hb
  .by_cases hn:isF n
   .rw [d1 n hn]at e;rw[hg3F n hn]at hg;exact he.pos n p q e hge hg
   .rw [d2 n hn]at e;rw[hg3 n hn]at hg;exact h0.pos n p q e hge hg
 refine⟨z,v,μ3,hz,hI,fin,⟨⟨λb hb=>?_,λb hb=>k.usame y hb⟩,λn p e=>pinned n p e⟩,hkd,k.lat⟩;have hb':Ufor C μ hp w b:=hb;refine⟨bM hb'.1 hTfrm.size,hb'.2.1,λn o c hg hm=>?_,hb'.2.2.2.same (k.usame y hb')⟩;by_cases hn:isF n
 .rw [hg3F n hn]at hg;rw[d1 n hn]at hm;rcases he.mine _ _ _ _ hg hm with h2|h2
  .exact y.uT hb' (by rw[<- hT]; exact h2)
  .have h2:w.heap.size<=b:=h2;have:=hb'.1; omega
 .rw [hg3 n hn]at hg;rw[d2 n hn]at hm;rcases kindsR n o b c hn hg hm with⟨q,_⟩|⟨q,_⟩
  .rcases k.dD b q with h|h
   .exact y.uT hb' (.inr (.inl h))
   .have:=hb'.1; omega
  .exact y.ph hb'.2.2.2 q
end
end Go.Eng
