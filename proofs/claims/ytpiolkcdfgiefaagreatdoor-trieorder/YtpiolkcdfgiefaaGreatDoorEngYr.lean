/- A part of the proof. -/
import Derived.Test.YtpiolkcdfgiefaaGreatDoorEngYa
namespace Go.Eng
open Go Go.RowKit
variable {P:Program}
theorem Ie {E E':Env} (hE:E.LeR E') {V:Type} {ev:V->SV}:∀ {l:List (cC×V×Nat)} {es:List MapEntry},jH E ev l es->jH E' ev l es:=by
 intro l;induction l with
 | nil=>intro es h; exact h
 | cons x r ih =>
  intro es h;obtain ⟨e,t,h1,h2,h3,h4,h5⟩:=h;exact ⟨e,t,h1,h2,fQ hE h3,h4,ih h5⟩
theorem sO {E E':Env} (hE:E.LeR E') (hH:∀ l p o,E.H l p o->E'.H l p o) {o:aT} {c:Nat} {x:Obj} (k:HR E o c x):HR E' o c x:=by
 cases o with
 | cells T l=>obtain ⟨cs,h1,h2⟩:=k; exact ⟨cs,h1,fQ hE h2⟩
 | arr T sz len enc =>
  obtain ⟨cs,h1,h2,h3,h4⟩:=k;refine ⟨cs,h1,h2,h3,fun i hi=>?_⟩;obtain ⟨xs,a,b,c⟩:=h4 i hi;exact ⟨xs,fQ hE a,b,c⟩
 | obj o'=>exact k
 | snap o'=>exact k
 | hid lab pd=>exact hH _ _ _ k
 | map V kk l clock ev iv=>obtain ⟨h0,es,h1,h2⟩:=k; exact ⟨h0,es,h1,Ie hE h2⟩
 | iter src since seen last=>obtain ⟨r,h1,h2⟩:=k; exact ⟨r,fQ hE h1,h2⟩
 | fam f=>exact k
 | gone=>exact k
theorem fL (g:Nat->Option Obj) (q:Nat):eT? (cY g q)=(g q).map .snap:=by
 unfold cY;cases g q <;> rfl
theorem fb0:0 < FB:=by decide
theorem bO.move {C C2:Ctx} {μ:Nat->Option (Nat×Nat)} {hp hp2:List (Nat×aT)} {nx:Nat} {W W2:World} (h:bO C μ hp nx W)
  (hk:∀ id o,get? hp2 id=some o->id < FB/\id < nx)
  (hdom:∀ n o,hget hp2 n=some o->∃ o',hget hp n=some o')
  (hdom':∀ n o,hget hp n=some o->∃ o',hget hp2 n=some o')
  (hobj:∀ n o,hget hp2 n=some o->∃ b c x,μ n=some (b,c)/\W2.heap[b]?=some x/\HR (aN C2 μ hp2 W2) o c x)
  (hmine:∀ n o b c,hget hp n=some o->μ n=some (b,c)->C2.T b\/C2.w0.heap.size<=b)
  (hpin:∀ id p,C2.pin id=some p->μ id=some p)
  (hfrm:Frm C2.T C2.w0 W2)
  (hpos:∀ n q,hget hp2 n=some (.obj q)->∃ q',hget hp n=some (.obj q')):bO C2 μ hp2 nx W2:=by
 refine ⟨⟨fun id o e=>(hk id o e).1,hobj⟩,?_,?_,fun id o e=>(hk id o e).2,h.nx,?_,hpin,hfrm,?_⟩
 ·intro id id' o o' b c c' g g' e e';obtain ⟨_,g1⟩:=hdom _ _ g;obtain ⟨_,g2⟩:=hdom _ _ g';exact h.inj _ _ _ _ _ _ _ g1 g2 e e'
 ·intro id o b c g e;obtain ⟨_,g1⟩:=hdom _ _ g;exact hmine _ _ _ _ g1 e
 ·intro id p e hge;obtain ⟨o,ho⟩:=h.fam id p e hge;exact hdom' _ _ ho
 ·intro id p q e hge g;obtain ⟨q',g1⟩:=hpos _ _ g;exact h.pos _ _ _ e hge g1
structure YC (C:Ctx) (μ:Nat->Option (Nat×Nat)) (hp:List (Nat×aT)) (nx:Nat) (w:World) (l dl rid:Nat) (r0:Loop) (F:Nat->aT):Prop where
 h:bO C μ hp nx w
 pin:C.pin=μ
 R0:C.R0=aN C μ hp w
 g:uY C
 fn:∀ lb o o',C.H lb 0 o->C.H lb 0 o'->o=o'
 recd:get? hp rid=some (.hid dl 0)
 mrec:μ rid=some (l,0)
 rec0:C.H dl 0 (.loop r0)
 hid0:∀ n lb p,get? hp n=some (.hid lb p)->p=0
 f0:get? hp 0=some (.fam F)
 fo:rH F
def isF (n:Nat):Prop:=FB<=n/\n % FB=0
section
variable {C:Ctx} {μ:Nat->Option (Nat×Nat)} {hp:List (Nat×aT)} {nx:Nat} {w:World} {l dl rid:Nat} {r0:Loop} {F:Nat->aT}
def fbk (μ:Nat->Option (Nat×Nat)) (b:Nat):Prop:=∃ q c,μ (fid 0 q)=some (b,c)
def hbk (μ:Nat->Option (Nat×Nat)) (hp:List (Nat×aT)) (b:Nat):Prop:=∃ n lb c,get? hp n=some (.hid lb 0)/\μ n=some (b,c)
def rbk (μ:Nat->Option (Nat×Nat)) (hp:List (Nat×aT)) (b:Nat):Prop:=∃ n o c,hget hp n=some o/\(∀ l p,o≠.hid l p)/\¬ isF n/\μ n=some (b,c)
def yT (μ:Nat->Option (Nat×Nat)) (hp:List (Nat×aT)) (l b:Nat):Prop:=fbk μ b\/rbk μ hp b\/b=l
def yTR (μ:Nat->Option (Nat×Nat)) (hp:List (Nat×aT)) (D:Nat->Prop) (b:Nat):Prop:=D b\/fbk μ b\/hbk μ hp b
def yCR (C:Ctx) (μ:Nat->Option (Nat×Nat)) (hp:List (Nat×aT)) (w:World) (D:Nat->Prop) (W:World):Ctx :=
 { C with w0:=W,T:=yTR μ hp D,U0:=Ufor C μ hp w }
def Snap (μ:Nat->Option (Nat×Nat)) (g:Nat->Option Obj) (W:World):Prop :=
 ∀ q,(∀ p,μ (fid 0 q)=some p->∃ o,g q=some o/\W.heap[p.1]?=some o/\Jk o=false)/\(μ (fid 0 q)=none->g q=none)
theorem kI {hp:List (Nat×aT)} {F:Nat->aT} (h:get? hp 0=some (.fam F)) {n:Nat} (hn:isF n):hget hp n=eT? (F (n / FB - 1)):=by
 simp only [hget,bJ.2 hn.1,if_false,hn.2,h]
theorem nL (q:Nat):isF (fid 0 q):=⟨dO 0 q,gW q fb0⟩
theorem oI {n:Nat} (h:isF n):n=fid 0 (n / FB - 1):=by
 have:=nJ h.1;rw [h.2] at this;exact this.symm
theorem xX {hp:List (Nat×aT)} {F F':Nat->aT} (h:get? hp 0=some (.fam F)) (n:Nat):hget (gQ hp 0 (.fam F')) n=if FB<=n/\n % FB=0 then eT? (F' (n / FB - 1)) else hget hp n:=by
 by_cases hn:n < FB
 ·have:¬ (FB<=n/\n % FB=0):=fun h=>by omega
  rw [if_neg this,fH hn,fH hn,get?_putH,get?_cons];by_cases e:0=n
  ·subst e;rw [if_pos rfl,h];rfl
  ·rw [if_neg e]
 ·by_cases e:n % FB=0
  ·rw [if_pos ⟨bJ.1 hn,e⟩];simp only [hget,hn,if_false,e,get?_putH,get?_cons,if_true]
  ·have:¬ (FB<=n/\n % FB=0):=fun h=>e h.2;rw [if_neg this];simp only [hget,hn,if_false,get?_putH,get?_cons,if_neg (dY e)]
theorem rP {r:List (Nat×aT)} {F F':Nat->aT} (n:Nat) (hn:¬ isF n):hget ((0,.fam F)::r) n=hget ((0,.fam F')::r) n:=by
 by_cases hlt:n < FB
 ·rw [fH hlt,fH hlt,get?_cons,get?_cons];by_cases e:0=n
  ·subst e; rfl
  ·rw [if_neg e,if_neg e]
 ·have e:¬ 0=n % FB:=fun e=>hn ⟨bJ.1 hlt,e.symm⟩;simp only [hget,hlt,if_false,get?_cons,if_neg e]
theorem YC.fplain (y:YC C μ hp nx w l dl rid r0 F) {b:Nat} (h:fbk μ b):b < w.heap.size/\Plain w b:=by
 obtain ⟨q,c,e⟩:=h;obtain ⟨o,ho⟩:=y.h.fam _ _ e (dO 0 q);refine ⟨y.h.lt ho e,y.h.obj.plain ho e ?_⟩;rintro lb p rfl;have:=(qX ho).1;have:=dO 0 q;omega
theorem YC.rplain (y:YC C μ hp nx w l dl rid r0 F) {b:Nat} (h:rbk μ hp b):b < w.heap.size/\Plain w b:=by
 obtain ⟨n,o,c,h1,h2,_,h4⟩:=h;exact ⟨y.h.lt h1 h4,y.h.obj.plain h1 h4 h2⟩
theorem YC.hloop (y:YC C μ hp nx w l dl rid r0 F) {b:Nat} (h:hbk μ hp b):b < w.heap.size/\∃ r,w.heap[b]?=some (.loop r):=by
 obtain ⟨n,lb,c,h1,h2⟩:=h;obtain ⟨o,ho,hH⟩:=y.h.recAt h1 h2;obtain ⟨r,rfl⟩:=C.Hl _ _ _ hH;exact ⟨(aS.1 ho).1,r,ho⟩
theorem YC.lat (y:YC C μ hp nx w l dl rid r0 F):w.heap[l]?=some (.loop r0):=by
 obtain ⟨o,ho,hH⟩:=y.h.recAt y.recd y.mrec;rw [ho,y.fn _ _ _ hH y.rec0]
theorem YC.hl (y:YC C μ hp nx w l dl rid r0 F):hbk μ hp l:=⟨rid,dl,0,y.recd,y.mrec⟩
theorem YC.fr (y:YC C μ hp nx w l dl rid r0 F) {b:Nat} (h:fbk μ b) (k:rbk μ hp b):False:=by
 obtain ⟨q,c,e⟩:=h;obtain ⟨n,o,c',h1,_,h3,h4⟩:=k;obtain ⟨o',ho⟩:=y.h.fam _ _ e (dO 0 q);have:=y.h.inj _ _ _ _ _ _ _ ho h1 e h4;subst this;exact h3 (nL q)
theorem YC.ph (y:YC C μ hp nx w l dl rid r0 F) {b:Nat} (h:Plain w b) (k:hbk μ hp b):False:=by
 obtain ⟨_,r,e⟩:=y.hloop k;have:=h _ e;cases this
theorem YC.uP (y:YC C μ hp nx w l dl rid r0 F) {b:Nat} (h:yT μ hp l b):C.T b\/C.w0.heap.size<=b:=by
 rcases h with ⟨q,c,e⟩|⟨n,o,c,h1,_,_,h4⟩|rfl
 ·obtain ⟨o,ho⟩:=y.h.fam _ _ e (dO 0 q);exact y.h.mine _ _ _ _ ho e
 ·exact y.h.mine _ _ _ _ h1 h4
 ·exact y.h.mine _ _ _ _ (y.h.get y.recd rfl) y.mrec
theorem YC.Wj (y:YC C μ hp nx w l dl rid r0 F) {b:Nat} (h:hbk μ hp b):C.T b\/C.w0.heap.size<=b:=by
 obtain ⟨n,lb,c,h1,h2⟩:=h;exact y.h.mine _ _ _ _ (y.h.get h1 rfl) h2
structure YW (C:Ctx) (μ:Nat->Option (Nat×Nat)) (hp:List (Nat×aT)) (w:World) (l:Nat) (r0:Loop) (D:Nat->Prop) (W:World):Prop where
 frm:Frm (fun b=>yT μ hp l b\/D b) w W
 lat:W.heap[l]?=some (.loop r0)
 dD:∀ b,D b->rbk μ hp b\/w.heap.size<=b
theorem YW.hsame (y:YC C μ hp nx w l dl rid r0 F) {D:Nat->Prop} {W:World} (k:YW C μ hp w l r0 D W) {b:Nat} (h:hbk μ hp b):W.heap[b]?=w.heap[b]?:=by
 by_cases hl:b=l
 ·subst hl; rw [k.lat,y.lat]
 ·have hb:=y.hloop h;refine k.frm.block b hb.1 ?_;rintro ((h1|h1|h1)|h1)
  ·exact y.ph (y.fplain h1).2 h
  ·exact y.ph (y.rplain h1).2 h
  ·exact hl h1
  ·rcases k.dD b h1 with h2|h2
   ·exact y.ph (y.rplain h2).2 h
   ·omega
theorem YW.usame (y:YC C μ hp nx w l dl rid r0 F) {D:Nat->Prop} {W:World} (k:YW C μ hp w l r0 D W) {b:Nat} (h:Ufor C μ hp w b):W.heap[b]?=w.heap[b]?:=by
 refine k.frm.block b h.1 ?_;have hr:¬ rbk μ hp b:=by
  rintro ⟨n,o,c,h1,_,_,h4⟩;exact h.2.2.1 _ _ _ h1 h4
 rintro ((⟨q,c,e⟩|h1|h1)|h1)
 ·obtain ⟨o,ho⟩:=y.h.fam _ _ e (dO 0 q);exact h.2.2.1 _ _ _ ho e
 ·exact hr h1
 ·subst h1;exact y.ph h.2.2.2 y.hl
 ·rcases k.dD b h1 with h2|h2
  ·exact hr h2
  ·have:=h.1; omega
def sQ (hp hpv:List (Nat×aT)):Prop:=∀ n lb p,get? hpv n=some (.hid lb p) ↔ get? hp n=some (.hid lb p)
theorem Km {F:Nat->aT} {q lb p:Nat}:eT? (F q)≠some (.hid lb p):=by
 intro e;have h1:=solid?_self (eT?_solid e);rw [<- h1] at e;cases e
theorem Bm (y:YC C μ hp nx w l dl rid r0 F) {D:Nat->Prop} {W W2:World} (hY:YW C μ hp w l r0 D W2) {μ2:Nat->Option (Nat×Nat)} {g:Nat->Option Obj} {hpv:List (Nat×aT)} {nv:Nat}
  (h:bO (yCR C μ hp w D W) μ2 ((0,.fam (cY g))::hpv) nv W2) (hs:Snap μ g W2) {n b c:Nat} {o:aT} (hg:hget ((0,.fam (cY g))::hpv) n=some o) (hm:μ2 n=some (b,c)) (hn:∀ l p,o≠.hid l p) :
  (isF n/\fbk μ b)\/(¬ isF n/\¬ fbk μ b/\(D b\/W.heap.size<=b)):=by
 have h00:get? ((0,aT.fam (cY g))::hpv) 0=some (.fam (cY g)):=rfl;have hfm:∀ q c',μ (fid 0 q)=some (b,c')->n=fid 0 q:=by
  intro q c' e;obtain ⟨o',ho',_⟩:=(hs q).1 _ e;have h2:μ2 (fid 0 q)=some (b,c'):=h.pin _ _ (by show C.pin _=_; rw [y.pin]; exact e);have h3:hget ((0,.fam (cY g))::hpv) (fid 0 q)=some (.snap o'):=by
   rw [kI h00 (nL q),fR q fb0,fL,ho']; rfl
  exact h.inj _ _ _ _ _ _ _ hg h3 hm h2
 by_cases hF:isF n
 ·left;refine ⟨hF,?_⟩;rw [kI h00 hF,fL] at hg;cases hq:g (n / FB - 1) with
  | none=>rw [hq] at hg; cases hg
  | some o' =>
   cases hmm:μ (fid 0 (n / FB - 1)) with
   | none=>rw [(hs _).2 hmm] at hq; cases hq
   | some p =>
    have h2:μ2 (fid 0 (n / FB - 1))=some p:=h.pin _ _ (by show C.pin _=_; rw [y.pin]; exact hmm);rw [<- oI hF,hm] at h2;cases h2;exact ⟨_,_,hmm⟩
 ·right;refine ⟨hF,?_,?_⟩
  ·rintro ⟨q,c',e⟩;exact hF (by rw [hfm q c' e]; exact nL q)
  ·rcases h.mine _ _ _ _ hg hm with (h1|⟨q,c',h1⟩|h1)|h1
   ·exact .inl h1
   ·exact absurd (by rw [hfm q c' h1]; exact nL q) hF
   ·have hpl:=h.obj.plain hg hm hn;obtain ⟨_,r,e⟩:=y.hloop h1;have:=hpl _ ((hY.hsame y h1).trans e);cases this
   ·exact .inr h1
theorem transfer (y:YC C μ hp nx w l dl rid r0 F) {D:Nat->Prop} {W0 W:World} (k0:YW C μ hp w l r0 D W0) (k:YW C μ hp w l r0 D W) (hD:∀ b,D b->W.heap[b]?=W0.heap[b]?)
  {μ2:Nat->Option (Nat×Nat)} {g0 g:Nat->Option Obj} {hpv:List (Nat×aT)} {nv:Nat} (h:bO (yCR C μ hp w D W0) μ2 ((0,.fam (cY g0))::hpv) nv W0) (hs0:Snap μ g0 W0) (hs:Snap μ g W) (hh:sQ hp hpv) :
  bO (yCR C μ hp w D W) μ2 ((0,.fam (cY g))::hpv) nv W:=by
 have h00:∀ g:Nat->Option Obj,get? ((0,aT.fam (cY g))::hpv) 0=some (.fam (cY g)):=fun _=>rfl;have dom1:∀ q,(∃ o,g0 q=some o) ↔ ∃ o,g q=some o:=by
  intro q;cases hm:μ (fid 0 q) with
  | none=>rw [(hs0 q).2 hm,(hs q).2 hm]
  | some p =>
   obtain ⟨o,ho,_⟩:=(hs0 q).1 p hm;obtain ⟨o',ho',_⟩:=(hs q).1 p hm;exact ⟨fun _=>⟨o',ho'⟩,fun _=>⟨o,ho⟩⟩
 have dom:∀ n,(∃ o,hget ((0,.fam (cY g0))::hpv) n=some o) ↔ ∃ o,hget ((0,.fam (cY g))::hpv) n=some o:=by
  intro n;by_cases hn:isF n
  ·rw [kI (h00 _) hn,kI (h00 _) hn,fL,fL];simp only [aG];constructor
   ·rintro ⟨_,o,ho,_⟩; obtain ⟨o',ho'⟩:=(dom1 _).1 ⟨o,ho⟩; exact ⟨_,o',ho',rfl⟩
   ·rintro ⟨_,o,ho,_⟩; obtain ⟨o',ho'⟩:=(dom1 _).2 ⟨o,ho⟩; exact ⟨_,o',ho',rfl⟩
  ·rw [rP (F:=cY g0) (F':=cY g) n hn]
 have same:∀ b,Ufor (yCR C μ hp w D W0) μ2 ((0,.fam (cY g0))::hpv) W0 b->W.heap[b]?=W0.heap[b]?:=by
  rintro b ⟨b1,b2,b3,b4⟩;rcases b2 with h1|(h1|⟨q,c,h1⟩|h1)|h1
  ·rw [k.usame y h1,k0.usame y h1]
  ·exact hD b h1
  ·exfalso;obtain ⟨o,ho,_⟩:=(hs0 q).1 _ h1;have h2:μ2 (fid 0 q)=some (b,c):=h.pin _ _ (by show C.pin _=_; rw [y.pin]; exact h1);refine b3 (fid 0 q) (.snap o) c ?_ h2;rw [kI (h00 _) (nL q),fR q fb0,fL,ho]; rfl
  ·rw [k.hsame y h1,k0.hsame y h1]
  ·have h1:W0.heap.size<=b:=h1;omega
 have hE:(aN (yCR C μ hp w D W0) μ2 ((0,.fam (cY g0))::hpv) W0).LeR (aN (yCR C μ hp w D W) μ2 ((0,.fam (cY g))::hpv) W):=by
  refine ⟨⟨fun b hb=>?_,same⟩,fun _ _ e=>e⟩;refine ⟨(aS.1 ((same b hb).trans (bA hb.1))).1,?_,fun n o c hg hm=>?_,fun x hx=>hb.2.2.2 x ((same b hb).symm.trans hx)⟩
  ·rcases hb.2.1 with h1|h1|h1
   ·exact .inl h1
   ·exact .inr (.inl h1)
   ·have h1:W0.heap.size<=b:=h1;have:=hb.1; omega
  ·obtain ⟨o',ho'⟩:=(dom n).2 ⟨o,hg⟩;exact hb.2.2.1 _ _ _ ho' hm
 refine h.move (fun id o e=>?_) (fun n o e=>(dom n).2 ⟨o,e⟩) (fun n o e=>(dom n).1 ⟨o,e⟩) (fun n o hg=>?_) (fun n o b c hg hm=>?_) h.pin (Frm.refl _ _) (fun n q e=>?_)
 ·rw [get?_cons] at e;have key:∀ o',get? ((0,aT.fam (cY g0))::hpv) id=some o'->id < FB/\id < nv:=fun o' e'=>⟨h.obj.keys _ _ e',h.keys _ _ e'⟩;by_cases h0:0=id
  ·exact key (.fam (cY g0)) (by rw [get?_cons,if_pos h0])
  ·rw [if_neg h0] at e;exact key o (by rw [get?_cons,if_neg h0]; exact e)
 ·by_cases hn:isF n
  ·rw [kI (h00 _) hn,fL] at hg;simp only [aG] at hg;obtain ⟨o1,ho1,rfl⟩:=hg;cases hm:μ (fid 0 (n / FB - 1)) with
   | none=>rw [(hs _).2 hm] at ho1; cases ho1
   | some p =>
    obtain ⟨o2,e1,e2,e3⟩:=(hs _).1 p hm;rw [ho1] at e1;cases e1;have h2:μ2 (fid 0 (n / FB - 1))=some p:=h.pin _ _ (by show C.pin _=_; rw [y.pin]; exact hm);rw [<- oI hn] at h2;exact ⟨p.1,p.2,o1,h2,e2,rfl,iY.1 e3⟩
  ·have hg':=hg;rw [rP (F:=cY g) (F':=cY g0) n hn] at hg';obtain ⟨b,c,x,e1,e2,e3⟩:=h.obj.obj n o hg';have e1':μ2 n=some (b,c):=e1;refine ⟨b,c,x,e1',?_,sO hE (fun _ _ _ e=>e) e3⟩;have e2':W0.heap[b]?=some x:=e2;rw [<- e2'];by_cases ho:∀ l p,o≠.hid l p
   ·rcases Bm y k0 h hs0 hg' e1' ho with ⟨h1,_⟩|⟨_,_,h1|h1⟩
    ·exact absurd h1 hn
    ·exact hD b h1
    ·have:=h.lt hg' e1'; omega
   ·obtain ⟨lb,p,rfl⟩:∃ lb p,o=.hid lb p:=bR fun hc=>ho fun lb p e=>hc ⟨lb,p,e⟩;have h1:=(qX hg').2;rw [get?_cons] at h1;split at h1
    ·cases h1
    have h2:=(hh _ _ _).1 h1;have h3:=y.hid0 _ _ _ h2;subst h3;cases hm:μ n with
    | none =>
     obtain ⟨b',c',x',z,_⟩:=y.h.obj.obj n _ (y.h.get h2 rfl);have z':μ n=some (b',c'):=z;rw [hm] at z'; cases z'
    | some p =>
     have h4:μ2 n=some p:=h.pin _ _ (by show C.pin _=_; rw [y.pin]; exact hm);rw [e1'] at h4;cases h4;have hb:hbk μ hp b:=⟨n,lb,c,h2,hm⟩;rw [k.hsame y hb,k0.hsame y hb]
 ·rcases h.mine _ _ _ _ hg hm with h1|h1
  ·exact .inl h1
  ·have h1:W0.heap.size<=b:=h1;have:=h.lt hg hm; omega
 ·by_cases hn:isF n
  ·rw [kI (h00 _) hn,fL] at e;simp only [aG] at e;obtain ⟨_,_,e⟩:=e;cases e
  ·exact ⟨q,by rw [rP (F:=cY g0) (F':=cY g) n hn]; exact e⟩
theorem Mz {μ:Nat->Option (Nat×Nat)} {W:World} (h:∀ q p,μ (fid 0 q)=some p->p.1 < W.heap.size/\Plain W p.1):∃ g,Snap μ g W:=by
 refine ⟨fun q=>match μ (fid 0 q) with|some p=>W.heap[p.1]?|none=>none,fun q=>⟨fun p e=>?_,fun e=>by simp [e]⟩⟩;obtain ⟨h1,h2⟩:=h q p e;refine ⟨W.heap[p.1],by simp [e],bA h1,h2 _ (bA h1)⟩
theorem zP (y:YC C μ hp nx w l dl rid r0 F) {C2:Ctx} (hpin:C2.pin=C.pin) {μ2:Nat->Option (Nat×Nat)} {F2:Nat->aT} {hpv:List (Nat×aT)} {nv:Nat} {W:World} (h:bO C2 μ2 ((0,.fam F2)::hpv) nv W) (hh:sQ hp hpv) {n lb p b c:Nat}
  (hg:hget ((0,.fam F2)::hpv) n=some (.hid lb p)) (hm:μ2 n=some (b,c)):p=0/\get? hp n=some (.hid lb 0)/\μ n=some (b,c):=by
 have h1:=(qX hg).2;rw [get?_cons] at h1;split at h1
 ·cases h1
 have h2:=(hh _ _ _).1 h1;have h3:=y.hid0 _ _ _ h2;subst h3;obtain ⟨b',c',x',z,_⟩:=y.h.obj.obj n _ (y.h.get h2 rfl);have z':μ n=some (b',c'):=z;have h4:μ2 n=some (b',c'):=h.pin _ _ (by rw [hpin,y.pin]; exact z');rw [hm] at h4;cases h4;exact ⟨rfl,h2,z'⟩
theorem Ma (y:YC C μ hp nx w l dl rid r0 F) {C2:Ctx} (hpin:C2.pin=C.pin) {μ2:Nat->Option (Nat×Nat)} {F2:Nat->aT} {hpv:List (Nat×aT)} {nv:Nat} {W:World} (h:bO C2 μ2 ((0,.fam F2)::hpv) nv W) (hh:sQ hp hpv) {n lb b c:Nat}
  (hg:get? hp n=some (.hid lb 0)) (hm:μ n=some (b,c)):get? ((0,.fam F2)::hpv) n=some (.hid lb 0)/\μ2 n=some (b,c):=by
 refine ⟨?_,h.pin _ _ (by rw [hpin,y.pin]; exact hm)⟩;rw [get?_cons,if_neg]
 ·exact (hh _ _ _).2 hg
 ·rintro rfl;rw [y.f0] at hg;cases hg
theorem Kl (y:YC C μ hp nx w l dl rid r0 F) {g:Nat->Option Obj} (hs:Snap μ g w) :
  bO C μ (gQ hp 0 (.fam (cY g))) nx w/\∀ n,(∃ o,hget (gQ hp 0 (.fam (cY g))) n=some o) ↔ ∃ o,hget hp n=some o:=by
 have dom:∀ n,(∃ o,hget (gQ hp 0 (.fam (cY g))) n=some o) ↔ ∃ o,hget hp n=some o:=by
  intro n;rw [xX y.f0];by_cases hn:isF n
  ·rw [if_pos (show FB<=n/\n % FB=0 from hn),fL];simp only [aG];constructor
   ·rintro ⟨_,o,ho,_⟩;cases hm:μ (fid 0 (n / FB - 1)) with
    | none=>rw [(hs _).2 hm] at ho; cases ho
    | some p =>
     have:=y.h.fam _ _ hm (dO 0 _)
     rwa [<- oI hn] at this
   ·rintro ⟨o,ho⟩;obtain ⟨b,c,x,e,_⟩:=y.h.obj.obj n o ho;have e':μ n=some (b,c):=e;rw [oI hn] at e';obtain ⟨o',q,_⟩:=(hs _).1 _ e';exact ⟨_,o',q,rfl⟩
  ·rw [if_neg (show ¬ (FB<=n/\n % FB=0) from hn)]
 have hE:(aN C μ hp w).LeR (aN C μ (gQ hp 0 (.fam (cY g))) w):=by
  refine ⟨⟨fun b hb=>⟨hb.1,hb.2.1,fun n o c hg hm=>?_,hb.2.2.2⟩,fun _ _=>rfl⟩,fun _ _ e=>e⟩;obtain ⟨o',ho'⟩:=(dom n).1 ⟨o,hg⟩;exact hb.2.2.1 _ _ _ ho' hm
 refine ⟨y.h.move (fun id o e=>?_) (fun n o e=>(dom n).1 ⟨o,e⟩) (fun n o e=>(dom n).2 ⟨o,e⟩) (fun n o hg=>?_) y.h.mine y.h.pin y.h.frm (fun n q e=>?_),dom⟩
 ·rw [get?_putH,get?_cons] at e;split at e
  ·rename_i h0; rw [<- h0]; exact ⟨fb0,y.h.keys _ _ y.f0⟩
  ·exact ⟨y.h.obj.keys _ _ e,y.h.keys _ _ e⟩
 ·rw [xX y.f0] at hg;by_cases hn:isF n
  ·rw [if_pos (show FB<=n/\n % FB=0 from hn),fL] at hg;simp only [aG] at hg;obtain ⟨o1,ho1,rfl⟩:=hg;cases hm:μ (fid 0 (n / FB - 1)) with
   | none=>rw [(hs _).2 hm] at ho1; cases ho1
   | some p =>
    obtain ⟨o2,e1,e2,e3⟩:=(hs _).1 p hm;rw [ho1] at e1;cases e1;rw [<- oI hn] at hm;exact ⟨p.1,p.2,o1,hm,e2,rfl,iY.1 e3⟩
  ·rw [if_neg (show ¬ (FB<=n/\n % FB=0) from hn)] at hg;obtain ⟨b,c,x,e1,e2,e3⟩:=y.h.obj.obj n o hg;exact ⟨b,c,x,e1,e2,sO hE (fun _ _ _ e=>e) e3⟩
 ·rw [xX y.f0] at e;by_cases hn:isF n
  ·rw [if_pos (show FB<=n/\n % FB=0 from hn),fL] at e;simp only [aG] at e;obtain ⟨_,_,e⟩:=e;cases e
  ·rw [if_neg (show ¬ (FB<=n/\n % FB=0) from hn)] at e;exact ⟨q,e⟩
theorem Vv (y:YC C μ hp nx w l dl rid r0 F) (hpo:sC C) (hnp:C.np=fN hp) (hbnd:C.bnd=nx) {g:Nat->Option Obj} (hs:Snap μ g w) {hpv:List (Nat×aT)} {nv:Nat} (hh:sQ hp hpv)
  (hsub:mM (fN hp) nx ⟨[],gQ hp 0 (.fam (cY g)),nx⟩ ⟨[],(0,.fam (cY g))::hpv,nv⟩):∃ μ2,bO (yCR C μ hp w (rbk μ hp) w) μ2 ((0,.fam (cY g))::hpv) nv w:=by
 obtain ⟨hS,dom⟩:=Kl y hs;let C2:Ctx:={ C with n:=0,R0:=aN C μ (gQ hp 0 (.fam (cY g))) w };have hrep:dR C2 μ ⟨[],gQ hp 0 (.fam (cY g)),nx⟩ ⟨#[],[]⟩ w :=
  ⟨rfl,sN.nil _ _,fun s=>nQ _ _ _,(hS.to (C':=C2) rfl rfl rfl (fun _ _ _ e=>e) hS.pin).1,Env.LeU.refl _,Kd.refl _⟩
 obtain ⟨⟨μ2,hrep'⟩,_⟩:=oE (C:=C2) hpo hrep (fun s d w x e=>by cases e) (by show mM C.np C.bnd _ _; rw [hnp,hbnd]; exact hsub);have h:=hrep'.hep;have hle:=hrep'.le;have h00:get? ((0,aT.fam (cY g))::hpv) 0=some (.fam (cY g)):=rfl;have tr:∀ n o b c,hget ((0,.fam (cY g))::hpv) n=some o->μ2 n=some (b,c)->(∀ l p,o≠.hid l p)->∃ m o' c',hget hp m=some o'/\μ m=some (b,c'):=by
  intro n o b c hg hm hn;refine bR fun hc=>?_;have hB:C.B b:=by
   rcases h.mine _ _ _ _ hg hm with h1|h1
   ·exact .inr (.inl h1)
   ·exact .inr (.inr h1)
  have hU:=hle.U b ⟨h.lt hg hm,hB,fun m o' c' hg' hm'=>by
   obtain ⟨o2,ho2⟩:=(dom m).1 ⟨o',hg'⟩;exact hc ⟨m,o2,c',ho2,hm'⟩,h.obj.plain hg hm hn⟩
  exact hU.2.2.1 _ _ _ hg hm
 have fT:∀ b,fbk μ b->∃ n o c,hget ((0,.fam (cY g))::hpv) n=some o/\μ2 n=some (b,c):=by
  rintro b ⟨q,c,e⟩;obtain ⟨o,ho,_⟩:=(hs q).1 _ e;exact ⟨fid 0 q,.snap o,c,by rw [kI h00 (nL q),fR q fb0,fL,ho]; rfl,h.pin _ _ (by show C.pin _=_; rw [y.pin]; exact e)⟩
 have kinds:∀ m o c b,hget hp m=some o->μ m=some (b,c)->fbk μ b\/hbk μ hp b\/rbk μ hp b:=by
  intro m o c b hg hm;by_cases hn:isF m
  ·rw [oI hn] at hm;exact .inl ⟨_,_,hm⟩
  ·by_cases hd:∀ l p,o≠.hid l p
   ·exact .inr (.inr ⟨m,o,c,hg,hd,hn,hm⟩)
   ·obtain ⟨lb,p,rfl⟩:∃ lb p,o=.hid lb p:=bR fun hc=>hd fun lb p e=>hc ⟨lb,p,e⟩;have h1:=(qX hg).2;have:=y.hid0 _ _ _ h1;subst this;exact .inr (.inl ⟨m,lb,c,h1,hm⟩)
 have hE:(aN C2 μ2 ((0,.fam (cY g))::hpv) w).LeR (aN (yCR C μ hp w (rbk μ hp) w) μ2 ((0,.fam (cY g))::hpv) w):=by
  refine ⟨⟨fun b hb=>⟨hb.1,?_,hb.2.2.1,hb.2.2.2⟩,fun _ _=>rfl⟩,fun _ _ e=>e⟩;by_cases ht:∃ m o c,hget hp m=some o/\μ m=some (b,c)
  ·obtain ⟨m,o,c,q1,q2⟩:=ht;rcases kinds m o c b q1 q2 with h1|h1|h1
   ·obtain ⟨n,o',c',z1,z2⟩:=fT b h1;exact absurd z2 (hb.2.2.1 _ _ _ z1)
   ·exact (y.ph hb.2.2.2 h1).elim
   ·exact .inr (.inl (.inl h1))
  ·exact .inl ⟨hb.1,hb.2.1,fun m o c q1 q2=>ht ⟨m,o,c,q1,q2⟩,hb.2.2.2⟩
 refine ⟨μ2,h.move (fun id o e=>⟨h.obj.keys _ _ e,h.keys _ _ e⟩) (fun n o e=>⟨o,e⟩) (fun n o e=>⟨o,e⟩) (fun n o hg=>?_) (fun n o b c hg hm=>?_) h.pin (Frm.refl _ _) (fun n q e=>⟨q,e⟩)⟩
 ·obtain ⟨b,c,x,e1,e2,e3⟩:=h.obj.obj n o hg;exact ⟨b,c,x,e1,e2,sO hE (fun _ _ _ e=>e) e3⟩
 ·by_cases hd:∀ l p,o≠.hid l p
  ·obtain ⟨m,o',c',q1,q2⟩:=tr n o b c hg hm hd;rcases kinds m o' c' b q1 q2 with h1|h1|h1
   ·exact .inl (.inr (.inl h1))
   ·exact .inl (.inr (.inr h1))
   ·exact .inl (.inl h1)
  ·obtain ⟨lb,p,rfl⟩:∃ lb p,o=.hid lb p:=bR fun hc=>hd fun lb p e=>hc ⟨lb,p,e⟩;obtain ⟨rfl,q1,q2⟩:=zP y (C2:=C2) rfl h hh hg hm;exact .inl (.inr (.inr ⟨n,lb,c,q1,q2⟩))
theorem aBw (y:YC C μ hp nx w l dl rid r0 F) {D:Nat->Prop} {W W':World} (k:YW C μ hp w l r0 D W) {g:Nat->Option Obj} (hs:Snap μ g W) {μ2:Nat->Option (Nat×Nat)} {hpv:List (Nat×aT)} {nv:Nat}
  (h:bO (yCR C μ hp w D W) μ2 ((0,.fam (cY g))::hpv) nv W') (hh:sQ hp hpv) {D':Nat->Prop} (hD':∀ b,D' b ↔ D b\/(W.heap.size<=b/\b < W'.heap.size/\Plain W' b)) :
  bO (yCR C μ hp w D' W') μ2 ((0,.fam (cY g))::hpv) nv W'/\Snap μ g W'/\Frm D W W'/\YW C μ hp w l r0 D' W':=by
 have h00:get? ((0,aT.fam (cY g))::hpv) 0=some (.fam (cY g)):=rfl;have hs':Snap μ g W':=by
  intro q;refine ⟨fun p e=>?_,(hs q).2⟩;obtain ⟨o,ho,_⟩:=(hs q).1 p e;have h2:μ2 (fid 0 q)=some p:=h.pin _ _ (by show C.pin _=_; rw [y.pin]; exact e);have h3:hget ((0,.fam (cY g))::hpv) (fid 0 q)=some (.snap o):=by
   rw [kI h00 (nL q),fR q fb0,fL,ho]; rfl
  obtain ⟨b,c,x,e1,e2,e3,e4⟩:=h.obj.obj _ _ h3;have e1':μ2 (fid 0 q)=some (b,c):=e1;rw [h2] at e1';cases e1';subst e3;exact ⟨_,ho,e2,iY.2 e4⟩
 have hid':∀ b,hbk μ hp b->W'.heap[b]?=w.heap[b]?:=by
  rintro b ⟨n,lb,c,q1,q2⟩;obtain ⟨z1,z2⟩:=Ma y (C2:=yCR C μ hp w D W) rfl h hh q1 q2;obtain ⟨o,ho,hH⟩:=h.recAt z1 z2;obtain ⟨o',ho',hH'⟩:=y.h.recAt q1 q2;have hH:C.H lb 0 o:=hH;rw [ho,ho',y.fn _ _ _ hH hH']
 have hfrm:Frm D W W':=by
  have h0:Frm (yTR μ hp D) W W':=h.frm;refine ⟨h0.os,h0.tape,h0.output,h0.size,fun b hb hd=>?_,h0.drawn⟩;by_cases ht:yTR μ hp D b
  ·rcases ht with h1|⟨q,c,h1⟩|h1
   ·exact absurd h1 hd
   ·obtain ⟨o,ho,e,_⟩:=(hs q).1 _ h1;obtain ⟨o',ho',e',_⟩:=(hs' q).1 _ h1;rw [ho] at ho';cases ho';rw [e,e']
   ·rw [hid' b h1,k.hsame y h1]
  ·exact h0.block b hb ht
 have k':YW C μ hp w l r0 D' W':=by
  refine ⟨(k.frm.weak fun b hb=>hb.imp id fun hb=>(hD' b).2 (.inl hb)).trans (hfrm.weak fun b hb=>.inr ((hD' b).2 (.inl hb))),by rw [hid' l y.hl,y.lat],fun b hb=>?_⟩;rcases (hD' b).1 hb with h1|h1
  ·exact k.dD b h1
  ·exact .inr (bC k.frm.size h1.1)
 refine ⟨?_,hs',hfrm,k'⟩;have hE:(aN (yCR C μ hp w D W) μ2 ((0,.fam (cY g))::hpv) W').LeR (aN (yCR C μ hp w D' W') μ2 ((0,.fam (cY g))::hpv) W'):=by
  refine ⟨⟨fun b hb=>⟨hb.1,?_,hb.2.2.1,hb.2.2.2⟩,fun _ _=>rfl⟩,fun _ _ e=>e⟩;rcases hb.2.1 with h1|(h1|h1)|h1
  ·exact .inl h1
  ·exact .inr (.inl (.inl ((hD' b).2 (.inl h1))))
  ·exact .inr (.inl (.inr h1))
  ·exact .inr (.inl (.inl ((hD' b).2 (.inr ⟨h1,hb.1,hb.2.2.2⟩))))
 refine h.move (fun id o e=>⟨h.obj.keys _ _ e,h.keys _ _ e⟩) (fun n o e=>⟨o,e⟩) (fun n o e=>⟨o,e⟩) (fun n o hg=>?_) (fun n o b c hg hm=>?_) h.pin (Frm.refl _ _) (fun n q e=>⟨q,e⟩)
 ·obtain ⟨b,c,x,e1,e2,e3⟩:=h.obj.obj n o hg;exact ⟨b,c,x,e1,e2,sO hE (fun _ _ _ e=>e) e3⟩
 ·by_cases hd:∀ l p,o≠.hid l p
  ·rcases h.mine _ _ _ _ hg hm with (h1|h1)|h1
   ·exact .inl (.inl ((hD' b).2 (.inl h1)))
   ·exact .inl (.inr h1)
   ·exact .inl (.inl ((hD' b).2 (.inr ⟨h1,h.lt hg hm,h.obj.plain hg hm hd⟩)))
  ·obtain ⟨lb,p,rfl⟩:∃ lb p,o=.hid lb p:=bR fun hc=>hd fun lb p e=>hc ⟨lb,p,e⟩;obtain ⟨rfl,q1,q2⟩:=zP y (C2:=yCR C μ hp w D W) rfl h hh hg hm;exact .inl (.inr (.inr ⟨n,lb,c,q1,q2⟩))
def YJ (C:Ctx) (μ:Nat->Option (Nat×Nat)) (hp:List (Nat×aT)) (w:World) (l:Nat) (r0:Loop) (V:Nc) (i:Nat) (D:Nat->Prop) (W:World):Prop :=
 ∃ v μ2 W0 g,V.I i v/\bO (yCR C μ hp w D W0) μ2 ((0,.fam (cY g))::V.hp v) V.nx W0/\Snap μ g W0/\YW C μ hp w l r0 D W0/\∀ b,D b->W.heap[b]?=W0.heap[b]?
theorem Te (y:YC C μ hp nx w l dl rid r0 F) (hpo:sC C) (hnp:C.np=fN hp) (hbnd:C.bnd=nx) {Hd:Handler} (hH:mC P C dl Hd) {V:Nc} (hh:∀ v,sQ hp (V.hp v)) {items:List SV}
  (hstart:∀ g,∃ v,V.I 0 v/\mM (fN hp) nx ⟨[],gQ hp 0 (.fam (cY g)),nx⟩ ⟨[],(0,.fam (cY g))::V.hp v,V.nx⟩)
  (hround:∀ i v g item,V.I i v->items[i]?=some item->isL item=true/\Hd rid (fN ((0,.fam (cY g))::V.hp v)) V.nx C.dep item ((0,.fam (cY g))::V.hp v) V.nx fun go hp' nx' =>
   go=true/\∃ v',V.I (i+1) v'/\mM (fN hp) nx ⟨[],hp',nx'⟩ ⟨[],(0,.fam (cY g))::V.hp v',V.nx⟩)
  {st0:Nat->Option Obj} (hst:dom st0=rbk μ hp) {μc:Nat->Option (Nat×Nat)} (hμc:∀ q,μc (fid 0 q)=μ (fid 0 q)):zN P (yT μ hp l) w μc l r0 items st0 (YJ C μ hp w l r0 V):=by
 refine ⟨?_,?_,?_⟩
 ·rw [hst];obtain ⟨g,hs⟩:=Mz (μ:=μ) (W:=w) fun q p e=>y.fplain ⟨q,p.2,e⟩;obtain ⟨v,hI,hsub⟩:=hstart g;obtain ⟨μ2,h⟩:=Vv y hpo hnp hbnd hs (hh v) hsub;exact ⟨v,μ2,w,g,hI,h,hs,⟨Frm.refl _ _,y.lat,fun b hb=>.inl hb⟩,fun _ _=>rfl⟩
 ·rintro i D W W' ⟨v,μ2,W0,g,a1,a2,a3,a4,a5⟩ _ _ hc _;exact ⟨v,μ2,W0,g,a1,a2,a3,a4,fun b hb=>(hc b hb).trans (a5 b hb)⟩
 ·rintro i D W item vs hit ⟨v,μ2,W0,g0,hI,h0,hs0,k0,hD⟩ hD0 hDp hDn hfrm hlat _ hR hfp;have k:YW C μ hp w l r0 D W:=⟨hfrm,hlat,fun b hb=>by have:=hDn b hb; rwa [hst] at this⟩;obtain ⟨g,hs⟩:=Mz (μ:=μ) (W:=W) fun q p e=>hfp q p (by rw [hμc]; exact e);have h1:=transfer y k0 k hD h0 hs0 hs (hh v);have hsz:w.heap.size<=W.heap.size:=hfrm.size;let C2:Ctx:=yCR C μ hp w D W;have ext:C.Ext C2:=by
   refine ⟨y.h.frm.trans' hfrm fun b hb=>?_,fun b hb=>?_,aL _,fun _ _ _ _=>dP,Env.LeU.refl _,Kd.refl _,fun _ _ e=>e⟩
   ·rcases hb with hb|hb
    ·exact y.uP hb
    ·rcases k.dD b hb with h|h
     ·exact y.uP (.inr (.inl h))
     ·exact .inr (bC y.h.frm.size h)
   ·rcases hb with hb|hb|hb
    ·rcases k.dD b hb with h|h
     ·exact y.uP (.inr (.inl h))
     ·exact .inr (bC y.h.frm.size h)
    ·exact y.uP (.inl hb)
    ·exact y.Wj hb
  have hle:(aN C μ hp w).LeU (aN C2 μ2 ((0,.fam (cY g))::V.hp v) W):=by
   refine ⟨fun b hb=>?_,fun b hb=>k.usame y hb⟩;have hb':Ufor C μ hp w b:=hb;refine ⟨bX hb'.1 hsz,.inl hb',fun n o c hg hm=>?_,hb'.2.2.2.same (k.usame y hb')⟩;by_cases hd:∀ l p,o≠.hid l p
   ·rcases Bm y k h1 hs hg hm hd with ⟨_,q,c',e⟩|⟨_,_,h2|h2⟩
    ·obtain ⟨o',ho'⟩:=y.h.fam _ _ e (dO 0 q);exact hb'.2.2.1 _ _ _ ho' e
    ·rcases k.dD b h2 with ⟨n',o',c',q1,_,_,q4⟩|h3
     ·exact hb'.2.2.1 _ _ _ q1 q4
     ·have:=hb'.1; omega
    ·have:=hb'.1; omega
   ·obtain ⟨lb,p,rfl⟩:∃ lb p,o=.hid lb p:=bR fun hc=>hd fun lb p e=>hc ⟨lb,p,e⟩;obtain ⟨rfl,q1,q2⟩:=zP y (C2:=C2) rfl h1 (hh v) hg hm;exact hb'.2.2.1 _ _ _ (y.h.get q1 rfl) q2
  have hkd:Kd w W:=by
   refine Kd.J9 hsz fun b hb=>?_;by_cases hl:b=l
   ·subst hl;exact .inr (.inl ⟨⟨_,y.lat⟩,⟨_,hlat⟩⟩)
   ·by_cases ht:yT μ hp l b\/D b
    ·refine .inr (.inr ?_);rcases ht with (h2|h2|h2)|h2
     ·obtain ⟨q,c,e⟩:=h2;exact ⟨(y.fplain ⟨q,c,e⟩).2,(hfp q _ (by rw [hμc]; exact e)).2⟩
     ·exact ⟨(y.rplain h2).2,(hDp b (hD0 b (by rw [hst]; exact h2))).2⟩
     ·exact absurd h2 hl
     ·rcases k.dD b h2 with h3|h3
      ·exact ⟨(y.rplain h3).2,(hDp b h2).2⟩
      ·omega
    ·exact .inl (hfrm.block b hb ht)
  obtain ⟨z1,z2⟩:=Ma y (C2:=C2) rfl h1 (hh v) y.recd y.mrec;have hRi:R (aN C2 μ2 ((0,.fam (cY g))::V.hp v) W) item vs :=
   fQ (E:=kP (fun _=>False) W) ⟨⟨fun _ h=>h.elim,fun _ h=>h.elim⟩,fun _ _ e=>by cases e⟩ hR
  obtain ⟨f,tmps,assign,body,hy,hrd⟩:=hH C2 ext μ2 _ V.nx W rid l 0 item vs _ h1 (by show C.R0.LeU _; rw [y.R0]; exact hle) (by show Kd C.R0.w W; rw [y.R0]; exact hkd) z1 z2 hRi (hround i v g item hI hit).1 (hround i v g item hI hit).2;refine ⟨f,tmps,assign,body,hy,hrd.mono ?_⟩;intro e W' he;cases e with
  | panicked c=>exact he.elim
  | outgrown=>exact he.elim
  | returned u =>
   obtain ⟨bb,hp',nx',μ',rfl,⟨rfl,v',hI',hsub⟩,hE,hh'⟩:=he;let C3:Ctx:={ C2 with n:=0,R0:=kP (fun _=>False) W' };have hrep:dR C3 μ' ⟨[],hp',nx'⟩ ⟨#[],[]⟩ W' :=
    ⟨rfl,sN.nil _ _,fun s=>nQ _ _ _,(hh'.to (C':=C3) rfl rfl rfl (fun _ _ _ e=>e) hh'.pin).1,⟨fun _ h=>h.elim,fun _ h=>h.elim⟩,Kd.refl _⟩
   obtain ⟨⟨μ3,hrep'⟩,_⟩:=oE (C:=C3) hpo hrep (fun s d w x e=>by cases e) (by show mM C.np C.bnd _ _; rw [hnp,hbnd]; exact hsub);have h3:bO C2 μ3 ((0,.fam (cY g))::V.hp v') V.nx W':=(hrep'.hep.to (C':=C2) rfl rfl rfl (fun _ _ _ e=>e) hrep'.hep.pin).1;obtain ⟨D',hD'⟩:∃ D':Nat->Prop,∀ b,D' b ↔ D b\/(W.heap.size<=b/\b < W'.heap.size/\Plain W' b):=⟨_,fun _=>dP⟩;obtain ⟨e1,e2,e3,e4⟩:=aBw y k hs h3 (hh v') hD';refine ⟨rfl,D',⟨v',μ3,W',g,hI',e1,e2,e4,fun _ _=>rfl⟩,fun b hb=>(hD' b).2 (.inl hb),fun b hb=>((hD' b).1 hb).imp id (·.1),fun b hb=>?_,e3,e4.lat⟩;rcases (hD' b).1 hb with h4|h4
   ·exact ⟨bX (hDp b h4).1 e3.size,hE.kd.plain b (hDp b h4).1 (hDp b h4).2⟩
   ·exact h4.2
theorem sY (F:Nat->aT) (st:Nat->Option Obj) (n:Nat) :
  hget (yHp F st) n=if n=2 then some (.hid 0 0) else if FB<=n/\n % FB=0 then eT? (F (n / FB - 1)) else if FB<=n/\n % FB=1 then (st (n / FB - 1)).map .obj else none:=by
 by_cases hn:n < FB
 ·have c1:¬ (FB<=n/\n % FB=0):=fun h=>by omega
  have c2:¬ (FB<=n/\n % FB=1):=fun h=>by omega
  rw [if_neg c1,if_neg c2,fH hn];simp only [yHp,get?_cons];by_cases h0:0=n
  ·subst h0; rfl
  ·by_cases h1:1=n
   ·subst h1; rfl
   ·by_cases h2:2=n
    ·subst h2; rfl
    ·simp only [h0,h1,h2,dY h2,if_false,get?_nil]; rfl
 ·have hge:FB<=n:=bJ.1 hn;have h2:n≠2:=by have:2 < FB:=(by decide); omega
  rw [if_neg h2];simp only [hget,hn,if_false,yHp,get?_cons,hge,true_and];by_cases h0:n % FB=0
  ·simp only [h0,if_true]
  ·by_cases h1:n % FB=1
   ·simp [h1,vS]
   ·have c0:¬ 0=n % FB:=fun e=>h0 e.symm;have c1:¬ 1=n % FB:=fun e=>h1 e.symm;simp only [h0,h1,c0,c1,if_false];by_cases h3:2=n % FB
    ·simp [h3]
    ·simp [h3,get?_nil]
theorem YC.uT (y:YC C μ hp nx w l dl rid r0 F) {b:Nat} (h:Ufor C μ hp w b) (k:yT μ hp l b):False:=by
 rcases k with ⟨q,c,e⟩|⟨n,o,c,h1,_,_,h4⟩|rfl
 ·obtain ⟨o,ho⟩:=y.h.fam _ _ e (dO 0 q);exact h.2.2.1 _ _ _ ho e
 ·exact h.2.2.1 _ _ _ h1 h4
 ·exact y.ph h.2.2.2 y.hl
theorem Zt {S:sR} {f:Nat} (hS:S.Ok P f) {x:S.X} (y:YC C μ hp nx w l dl rid r0 (S.F0 x)) (hpo:sC C) (hnp:C.np=fN hp) (hbnd:C.bnd=nx) {Hd:Handler} (hH:mC P C dl Hd) (hx:S.pre x)
  {caps:SV} {cs:List Value} (hcaps:R (aN C μ hp w) caps cs) (hsubc:sub .y hp 200 caps (S.args x)) {V:Nc} (hh:∀ v,sQ hp (V.hp v)) (hfo:∀ z,S.post x z->rH (S.F1 x z))
  (hstart:∀ g,∃ v,V.I 0 v/\mM (fN hp) nx ⟨[],gQ hp 0 (.fam (cY g)),nx⟩ ⟨[],(0,.fam (cY g))::V.hp v,V.nx⟩)
  (hround:∀ i v g item,V.I i v->(S.items x)[i]?=some item->isL item=true/\Hd rid (fN ((0,.fam (cY g))::V.hp v)) V.nx C.dep item ((0,.fam (cY g))::V.hp v) V.nx fun go hp' nx' =>
   go=true/\∃ v',V.I (i+1) v'/\mM (fN hp) nx ⟨[],hp',nx'⟩ ⟨[],(0,.fam (cY g))::V.hp v',V.nx⟩) :
  Calls P f (.func (.yield l) #[] #[]::cs).toArray w fun
   | .returned _,w'=>∃ z v μ3,S.post x z/\V.I (S.items x).length v/\bO C μ3 ((0,.fam (S.F1 x z))::V.hp v) V.nx w'/\(aN C μ hp w).LeR (aN C μ3 ((0,.fam (S.F1 x z))::V.hp v) w')/\Kd w w'/\w'.heap[l]?=some (.loop r0)
   | _,_=>False:=by
 have h1F:1 < FB:=by decide
 have h2F:2 < FB:=by decide
 obtain ⟨st0,hst⟩:∃ st0:Nat->Option Obj,∀ q,(rbk μ hp q->st0 q=w.heap[q]?)/\(¬ rbk μ hp q->st0 q=none):=by
  classical
  exact ⟨fun q=>if rbk μ hp q then w.heap[q]? else none,fun q=>⟨fun h=>by simp [h],fun h=>by simp [h]⟩⟩
 have st0r:∀ q o,st0 q=some o->rbk μ hp q/\w.heap[q]?=some o:=by
  intro q o e;by_cases h:rbk μ hp q
  ·exact ⟨h,by rw [<- (hst q).1 h]; exact e⟩
  ·rw [(hst q).2 h] at e; cases e
 have hdom:dom st0=rbk μ hp:=by
  funext q;refine propext ⟨fun ⟨o,e⟩=>(st0r q o e).1,fun h=>?_⟩;exact ⟨w.heap[q]'(y.rplain h).1,by rw [(hst q).1 h]; exact bA _⟩
 obtain ⟨μc,m2,mF,mR,m0,mI⟩:∃ μc:Nat->Option (Nat×Nat),μc 2=some (l,0)/\(∀ n,isF n->μc n=μ n)/\(∀ n,FB<=n->n % FB=1->dom st0 (n / FB - 1)->μc n=some (n / FB - 1,0))/\μc 0=μ 0 /\
   ∀ n p,μc n=some p->(n=2/\p=(l,0))\/(isF n/\μ n=some p)\/(FB<=n/\n % FB=1/\dom st0 (n / FB - 1)/\p=(n / FB - 1,0))\/n=0:=by
  classical
  refine ⟨fun n=>if n=2 then some (l,0) else if isF n then μ n else if FB<=n/\n % FB=1/\dom st0 (n / FB - 1) then some (n / FB - 1,0) else if n=0 then μ 0 else none,by simp,fun n h=>?_,fun n a b c=>?_,?_,fun n p e=>?_⟩
  ·have:n≠2:=by have:=h.1; omega
   simp [this,h]
  ·have h2:n≠2:=by omega
   have h3:¬ isF n:=fun h=>by have:=h.2; omega
   simp [h2,h3,a,b,c]
  ·have h3:¬ isF 0:=fun h=>by have:=h.1; have:=fb0; omega
   have h4:¬ FB<=0:=by have:=fb0; omega
   simp [h3,h4]
  ·simp only at e;split at e
   ·rename_i h; exact .inl ⟨h,(bK e).symm⟩
   ·split at e
    ·rename_i h; exact .inr (.inl ⟨h,e⟩)
    ·split at e
     ·rename_i h; exact .inr (.inr (.inl ⟨h.1,h.2.1,h.2.2,(bK e).symm⟩))
     ·split at e
      ·rename_i h; exact .inr (.inr (.inr h))
      ·cases e
 obtain ⟨T,hT⟩:∃ T,T=yT μ hp l:=⟨_,rfl⟩;obtain ⟨U,hU⟩:∃ U,U=Ufor C μ hp w:=⟨_,rfl⟩;have hgF:∀ n,isF n->hget hp n=eT? (S.F0 x (n / FB - 1)):=fun n hn=>kI y.f0 hn
 -- the callee's side
 have cls:∀ n o b c,hget (yHp (S.F0 x) st0) n=some o->μc n=some (b,c)->(n=2/\b=l/\o=.hid 0 0)\/(isF n/\hget hp n=some o/\μ n=some (b,c))\/(FB<=n/\n % FB=1/\b=n / FB - 1/\rbk μ hp b/\∃ o',o=.obj o'/\w.heap[b]?=some o'):=by
  intro n o b c hg hm;rw [sY] at hg;split at hg
  ·rename_i h2;subst h2;rw [m2] at hm;cases hm;exact .inl ⟨rfl,rfl,(bK hg).symm⟩
  ·split at hg
   ·rename_i h3;exact .inr (.inl ⟨h3,by rw [hgF n h3]; exact hg,by rw [<- mF n h3]; exact hm⟩)
   ·split at hg
    ·rename_i h4;simp only [aG] at hg;obtain ⟨o',ho',rfl⟩:=hg;obtain ⟨q1,q2⟩:=st0r _ _ ho';rw [mR n h4.1 h4.2 ⟨o',ho'⟩] at hm;cases hm;exact .inr (.inr ⟨h4.1,h4.2,rfl,q1,o',rfl,q2⟩)
    ·cases hg
 have hLU:(aN C μ hp w).LeU (aN (Bo w T U μc r0) μc (yHp (S.F0 x) st0) w):=by
  refine ⟨fun b hb=>?_,fun _ _=>rfl⟩;have hb':Ufor C μ hp w b:=hb;refine ⟨hb'.1,.inl (by rw [hU]; exact hb'),fun n o c hg hm=>?_,hb'.2.2.2⟩;rcases cls n o b c hg hm with ⟨_,rfl,_⟩|⟨_,q1,q2⟩|⟨_,_,_,q,_⟩
  ·exact y.uT hb' (.inr (.inr rfl))
  ·exact hb'.2.2.1 _ _ _ q1 q2
  ·exact y.uT hb' (.inr (.inl q))
 have hfid:∀ q p,μ (fid 0 q)=some p->μc (fid 0 q)=some p:=fun q p e=>by rw [mF _ (nL q)]; exact e
 have hh0:bO (Bo w T U μc r0) μc (yHp (S.F0 x) st0) 3 w:=by
  refine ⟨⟨fun n o e=>?_,fun n o hg=>?_⟩,fun n n' o o' b c c' hg hg' hm hm'=>?_,fun n o b c hg hm=>?_,fun n o e=>?_,fun n p e hlt=>?_,fun n p e hge=>?_,fun _ _ e=>e,Frm.refl _ _,fun n p q e hge hg=>?_⟩
  ·simp only [yHp,get?_cons,get?_nil] at e;split at e
   ·omega
   ·split at e
    ·omega
    ·split at e
     ·omega
     ·cases e
  ·have hg0:=hg;rw [sY] at hg;split at hg
   ·rename_i h2;subst h2;cases hg;exact ⟨l,0,.loop r0,m2,y.lat,rfl,rfl,rfl⟩
   ·split at hg
    ·rename_i h3;have h3':isF n:=h3;have hg2:=hg;rw [<- hgF n h3'] at hg;obtain ⟨b,c,z,e1,e2,e3⟩:=y.h.obj.obj n o hg;exact ⟨b,c,z,by show μc n=_; rw [mF n h3']; exact e1,e2,y.fo _ _ hLU hfid _ _ hg2 _ _ e3⟩
    ·split at hg
     ·rename_i h4;simp only [aG] at hg;obtain ⟨o',ho',rfl⟩:=hg;obtain ⟨q1,q2⟩:=st0r _ _ ho';exact ⟨_,0,o',mR n h4.1 h4.2 ⟨o',ho'⟩,q2,rfl,iY.1 ((y.rplain q1).2 _ q2)⟩
     ·cases hg
  ·rcases cls n o b c hg hm with ⟨a1,a2,_⟩|⟨a1,a2,a3⟩|⟨a1,a2,a3,a4,_⟩ <;> rcases cls n' o' b c' hg' hm' with ⟨b1,b2,_⟩|⟨b1,b2,b3⟩|⟨b1,b2,b3,b4,_⟩
   ·omega
   ·subst a2;rw [oI b1] at b3;exact (y.ph (y.fplain ⟨_,_,b3⟩).2 y.hl).elim
   ·subst a2;exact (y.ph (y.rplain b4).2 y.hl).elim
   ·subst b2;rw [oI a1] at a3;exact (y.ph (y.fplain ⟨_,_,a3⟩).2 y.hl).elim
   ·exact y.h.inj _ _ _ _ _ _ _ a2 b2 a3 b3
   ·rw [oI a1] at a3;exact (y.fr ⟨_,_,a3⟩ b4).elim
   ·subst b2;exact (y.ph (y.rplain a4).2 y.hl).elim
   ·rw [oI b1] at b3;exact (y.fr ⟨_,_,b3⟩ a4).elim
   ·have e1:=nJ a1;have e2:=nJ b1;rw [a2,<- a3] at e1;rw [b2,<- b3] at e2;exact e1.symm.trans e2
  ·left;show T b;rw [hT];rcases cls n o b c hg hm with ⟨_,a2,_⟩|⟨a1,_,a3⟩|⟨_,_,_,a4,_⟩
   ·exact .inr (.inr a2)
   ·rw [oI a1] at a3;exact .inl ⟨_,_,a3⟩
   ·exact .inr (.inl a4)
  ·simp only [yHp,get?_cons,get?_nil] at e;split at e
   ·omega
   ·split at e
    ·omega
    ·split at e
     ·omega
     ·cases e
  ·rcases mI n p e with ⟨h,_⟩|⟨h,_⟩|⟨h,_⟩|h
   ·omega
   ·have:=h.1; omega
   ·omega
   ·omega
  ·rw [sY,if_neg (by omega)];rcases mI n p e with ⟨h,_⟩|⟨h,h'⟩|⟨h,h',h'',_⟩|h
   ·omega
   ·rw [if_pos (show FB<=n/\n % FB=0 from h),<- hgF n h];exact y.h.fam _ _ h' hge
   ·rw [if_neg (fun h3=>by omega),if_pos ⟨h,h'⟩];obtain ⟨o,ho⟩:=h'';exact ⟨.obj o,by rw [ho]; rfl⟩
   ·omega
  ·obtain ⟨pb,pc⟩:=p;rcases cls n _ pb pc hg e with ⟨a1,_,_⟩|⟨_,a2,a3⟩|⟨_,_,a3,_,_⟩
   ·omega
   ·exact y.h.pos _ _ _ a3 hge a2
   ·exact a3
 have hgc:uY (Bo w T U μc r0):=by
  refine ⟨y.g.at y.h.frm,fun b hb ht=>?_⟩;have ht':yT μ hp l b:=by rw [<- hT]; exact ht
  rcases y.uP ht' with h|h
  ·exact y.g.gT b hb h
  ·have:=y.g.gok.lt hb; omega
 have hUp:∀ b,U b->b < w.heap.size/\Plain w b:=by
  intro b hb;rw [hU] at hb;exact ⟨hb.1,hb.2.2.2⟩
 have hFr:(aN C μ hp w).Freed .y hp (aN (Bo w T U μc r0) μc (yHp (S.F0 x) st0) w):=by
  have ren0:∀ n n',ren .y n=some n'->n=0/\n'=0:=by
   intro n n' e;simp only [ren,Keep.y,get?_cons,get?_nil] at e;split at e
   ·rename_i h; exact ⟨h.symm,(bK e).symm⟩
   ·cases e
  refine ⟨fun _=>hLU,fun n n' p e hm=>?_,fun n n' i p e hm=>?_,rfl,fun n o b c _ hg hm hk=>by simp [kept,Keep.y] at hk⟩
  ·obtain ⟨rfl,rfl⟩:=ren0 n n' e;show μc 0=_;rw [m0]; exact hm
  ·obtain ⟨rfl,rfl⟩:=ren0 n n' e;exact hfid i p hm
 have hargs:=mJ hFr y.h.obj 200 _ _ _ hsubc hcaps;have hY:zN P T w μc l r0 (S.items x) st0 (YJ C μ hp w l r0 V):=by
  rw [hT];exact Te y hpo hnp hbnd hH hh hstart hround hdom (fun q=>mF _ (nL q))
 refine (hS.does x w μc cs T U r0 l st0 _ hUp hgc hh0 m2 hx hargs hY).mono ?_;intro e w' he;cases e with
 | panicked c=>exact he.elim
 | outgrown=>exact he.elim
 | returned u =>
 obtain ⟨z,st',μe,hz,⟨v,μ2,W0,g,hI,h0,hs0,k0,hD⟩,hmono,he,hkd⟩:=he;have hF1:=hfo z hz;obtain ⟨D,hDd⟩:∃ D,D=dom st':=⟨_,rfl⟩;rw [<- hDd] at h0 k0 hD;have hTfrm:Frm (yT μ hp l) w w':=by rw [<- hT]; exact he.frm
 have k:YW C μ hp w l r0 D w':=by
  refine ⟨hTfrm.weak fun _ h=>.inl h,?_,k0.dD⟩;obtain ⟨o,ho,hHo⟩:=he.recAt (id:=2) (l:=0) (p:=0) rfl (he.pin 2 _ m2);rw [ho,hHo.2.2]
 have h00:∀ G:Nat->aT,get? ((0,aT.fam G)::V.hp v) 0=some (.fam G):=fun _=>rfl;have raw:∀ b,D b->∃ o c,hget (yHp (S.F1 x z) st') (fid 1 b)=some (.obj o)/\μe (fid 1 b)=some (b,c):=by
  intro b hb;rw [hDd] at hb;obtain ⟨o,ho⟩:=hb;have hg:hget (yHp (S.F1 x z) st') (fid 1 b)=some (.obj o):=by
   have n2:fid 1 b≠2:=by have:=dO 1 b; omega
   rw [sY,if_neg n2,if_neg (fun h=>by have:=gW b h1F; omega),if_pos ⟨dO 1 b,gW b h1F⟩,fR b h1F,ho]; rfl
  obtain ⟨b',c,y',e1,_,_⟩:=he.obj.obj _ _ hg;have e1':μe (fid 1 b)=some (b',c):=e1;have:=he.pos _ _ _ e1' (dO 1 b) hg;rw [fR b h1F] at this;simp only at this;subst this;exact ⟨o,c,hg,e1'⟩
 have cF:∀ n,isF n->hget (yHp (S.F1 x z) st') n=eT? (S.F1 x z (n / FB - 1)):=by
  intro n hn;have n2:n≠2:=by have:=hn.1; omega
  rw [sY,if_neg n2,if_pos (show FB<=n/\n % FB=0 from hn)]
 obtain ⟨μ3,d1,d2⟩:∃ μ3:Nat->Option (Nat×Nat),(∀ n,isF n->μ3 n=μe n)/\∀ n,¬ isF n->μ3 n=μ2 n:=by
  classical
  exact ⟨fun n=>if isF n then μe n else μ2 n,fun n h=>by simp [h],fun n h=>by simp [h]⟩
 -- the rest,as it was when the last round ended
 have kindsR:∀ n o b c,¬ isF n->hget ((0,.fam (cY g))::V.hp v) n=some o->μ2 n=some (b,c)->(D b/\∀ l p,o≠.hid l p)\/(hbk μ hp b/\∃ lb,o=.hid lb 0):=by
  intro n o b c hn hg hm;by_cases hd:∀ l p,o≠.hid l p
  ·rcases Bm y k0 h0 hs0 hg hm hd with ⟨q,_⟩|⟨_,_,q|q⟩
   ·exact absurd q hn
   ·exact .inl ⟨q,hd⟩
   ·have:=h0.lt hg hm; omega
  ·obtain ⟨lb,p,rfl⟩:∃ lb p,o=.hid lb p:=bR fun hc=>hd fun lb p e=>hc ⟨lb,p,e⟩;obtain ⟨rfl,q1,q2⟩:=zP y (C2:=yCR C μ hp w D W0) rfl h0 (hh v) hg hm;exact .inr ⟨⟨n,lb,c,q1,q2⟩,lb,rfl⟩
 have sameR:∀ n o b c,¬ isF n->hget ((0,.fam (cY g))::V.hp v) n=some o->μ2 n=some (b,c)->w'.heap[b]?=W0.heap[b]?:=by
  intro n o b c hn hg hm;rcases kindsR n o b c hn hg hm with ⟨q,_⟩|⟨q,_⟩
  ·exact hD b q
  ·rw [k.hsame y q,k0.hsame y q]
 have hidp:∀ b,hbk μ hp b->¬ Plain w' b:=by
  intro b hb hp';obtain ⟨_,r,e⟩:=y.hloop hb;have:=hp' _ ((k.hsame y hb).trans e);cases this
 have plainF:∀ n o b c,isF n->hget (yHp (S.F1 x z) st') n=some o->μe n=some (b,c)->Plain w' b:=by
  intro n o b c hn hg hm;refine he.obj.plain hg hm ?_;rintro lb p rfl;rw [cF n hn] at hg;exact Km hg
 have apart:∀ n o b c n' o' c',isF n->hget (yHp (S.F1 x z) st') n=some o->μe n=some (b,c)->¬ isF n'->hget ((0,.fam (cY g))::V.hp v) n'=some o'->μ2 n'=some (b,c')->False:=by
  intro n o b c n' o' c' hn hg hm hn' hg' hm';rcases kindsR n' o' b c' hn' hg' hm' with ⟨q,_⟩|⟨q,_⟩
  ·obtain ⟨o2,c2,z1,z2⟩:=raw b q;have:=he.inj _ _ _ _ _ _ _ hg z1 hm z2;rw [this] at hn;have h3:=hn.2;rw [gW b h1F] at h3;omega
  ·exact hidp b q (plainF n o b c hn hg hm)
 have mineB:∀ b,yTR μ hp D b->C.T b\/C.w0.heap.size<=b:=by
  rintro b (hb|hb|hb)
  ·rcases k.dD b hb with h|h
   ·exact y.uP (.inr (.inl h))
   ·exact .inr (bC y.h.frm.size h)
  ·exact y.uP (.inl hb)
  ·exact y.Wj hb
 have hg3:∀ n,¬ isF n->hget ((0,.fam (S.F1 x z))::V.hp v) n=hget ((0,.fam (cY g))::V.hp v) n:=fun n hn=>rP n hn;have hg3F:∀ n,isF n->hget ((0,.fam (S.F1 x z))::V.hp v) n=hget (yHp (S.F1 x z) st') n:=fun n hn=>by rw [kI (h00 _) hn,cF n hn]
 have pinned:∀ n p,μ n=some p->μ3 n=some p:=by
  intro n p e;by_cases hn:isF n
  ·rw [d1 n hn];exact he.pin n p (by show μc n=_; rw [mF n hn]; exact e)
  ·rw [d2 n hn];exact h0.pin n p (by show C.pin n=_; rw [y.pin]; exact e)
 have snapT:∀ b,fbk μ b->∃ n o c,hget ((0,.fam (cY g))::V.hp v) n=some o/\μ2 n=some (b,c):=by
  rintro b ⟨q,c,e⟩;obtain ⟨o,ho,_⟩:=(hs0 q).1 _ e;exact ⟨fid 0 q,.snap o,c,by rw [kI (h00 _) (nL q),fR q fb0,fL,ho]; rfl,h0.pin _ _ (by show C.pin _=_; rw [y.pin]; exact e)⟩
 have hE3:(aN (yCR C μ hp w D W0) μ2 ((0,.fam (cY g))::V.hp v) W0).LeR (aN C μ3 ((0,.fam (S.F1 x z))::V.hp v) w'):=by
  have same:∀ b,Ufor (yCR C μ hp w D W0) μ2 ((0,.fam (cY g))::V.hp v) W0 b->w'.heap[b]?=W0.heap[b]?/\(Ufor C μ hp w b\/D b):=by
   rintro b ⟨b1,b2,b3,b4⟩;rcases b2 with h1|(h1|h1|h1)|h1
   ·exact ⟨by rw [k.usame y h1,k0.usame y h1],.inl h1⟩
   ·exact ⟨hD b h1,.inr h1⟩
   ·obtain ⟨n,o,c,q1,q2⟩:=snapT b h1;exact absurd q2 (b3 _ _ _ q1)
   ·exfalso;obtain ⟨_,r,e⟩:=y.hloop h1;have:=b4 _ ((k0.hsame y h1).trans e);cases this
   ·have h1:W0.heap.size<=b:=h1;omega
  refine ⟨⟨fun b hb=>?_,fun b hb=>(same b hb).1⟩,fun n p e=>?_⟩
  ·obtain ⟨s1,s2⟩:=same b hb;refine ⟨(aS.1 (s1.trans (bA hb.1))).1,?_,fun n o c hg hm=>?_,hb.2.2.2.same s1⟩
   ·rcases s2 with h1|h1
    ·exact h1.2.1
    ·rcases mineB b (.inl h1) with h2|h2
     ·exact .inr (.inl h2)
     ·exact .inr (.inr h2)
   ·by_cases hn:isF n
    ·rw [hg3F n hn] at hg;rw [d1 n hn] at hm;rcases s2 with h1|h1
     ·rcases he.mine _ _ _ _ hg hm with h2|h2
      ·have h2':yT μ hp l b:=by rw [<- hT]; exact h2
       exact y.uT h1 h2'
      ·have h2:w.heap.size<=b:=h2;have:=h1.1; omega
     ·obtain ⟨o2,c2,z1,z2⟩:=raw b h1;have:=he.inj _ _ _ _ _ _ _ hg z1 hm z2;rw [this] at hn;have h3:=hn.2;rw [gW b h1F] at h3;omega
    ·rw [hg3 n hn] at hg;rw [d2 n hn] at hm;exact hb.2.2.1 _ _ _ hg hm
  ·by_cases hn:isF n
   ·have e':μ2 n=some p:=e;obtain ⟨o,ho⟩:=h0.fam _ _ e' hn.1;rw [kI (h00 _) hn,fL] at ho;simp only [aG] at ho;obtain ⟨o1,ho1,_⟩:=ho;cases hm:μ (fid 0 (n / FB - 1)) with
    | none=>rw [(hs0 _).2 hm] at ho1; cases ho1
    | some p1 =>
     rw [<- oI hn] at hm;have h4:μ2 n=some p1:=h0.pin _ _ (by show C.pin _=_; rw [y.pin]; exact hm);rw [e'] at h4;cases h4;exact pinned n p hm
   ·show μ3 n=_;rw [d2 n hn];exact e
 have hEc:(aN (Bo w T U μc r0) μe (yHp (S.F1 x z) st') w').LeU (aN C μ3 ((0,.fam (S.F1 x z))::V.hp v) w'):=by
  refine ⟨fun b hb=>?_,fun _ _=>rfl⟩;refine ⟨hb.1,?_,fun n o c hg hm=>?_,hb.2.2.2⟩
  ·rcases hb.2.1 with h1|h1|h1
   ·have h1':Ufor C μ hp w b:=by rw [<- hU]; exact h1
    exact h1'.2.1
   ·have h1':yT μ hp l b:=by rw [<- hT]; exact h1
    rcases y.uP h1' with h2|h2
    ·exact .inr (.inl h2)
    ·exact .inr (.inr h2)
   ·exact .inr (.inr (bC y.h.frm.size h1))
  ·by_cases hn:isF n
   ·rw [hg3F n hn] at hg;rw [d1 n hn] at hm;exact hb.2.2.1 _ _ _ hg hm
   ·rw [hg3 n hn] at hg;rw [d2 n hn] at hm;rcases kindsR n o b c hn hg hm with ⟨q,_⟩|⟨q,_⟩
    ·obtain ⟨o2,c2,z1,z2⟩:=raw b q;exact hb.2.2.1 _ _ _ z1 z2
    ·exact hidp b q hb.2.2.2
 have fin:bO C μ3 ((0,.fam (S.F1 x z))::V.hp v) V.nx w':=by
  refine ⟨⟨fun n o e=>?_,fun n o hg=>?_⟩,fun n n' o o' b c c' hg hg' hm hm'=>?_,fun n o b c hg hm=>?_,fun n o e=>?_,fun n p e hlt=>?_,fun n p e hge=>?_,fun n p e=>?_,?_,fun n p q e hge hg=>?_⟩
  ·rw [get?_cons] at e;by_cases hz0:0=n
   ·rw [<- hz0]; exact fb0
   ·rw [if_neg hz0] at e;exact h0.obj.keys n o (by rw [get?_cons,if_neg hz0]; exact e)
  ·by_cases hn:isF n
   ·rw [hg3F n hn] at hg;obtain ⟨b,c,y',e1,e2,e3⟩:=he.obj.obj n o hg;rw [cF n hn] at hg;exact ⟨b,c,y',by show μ3 n=_; rw [d1 n hn]; exact e1,e2,hF1 _ _ hEc (fun q p e=>by show μ3 _=_; rw [d1 _ (nL q)]; exact e) _ _ hg _ _ e3⟩
   ·rw [hg3 n hn] at hg;obtain ⟨b,c,y',e1,e2,e3⟩:=h0.obj.obj n o hg;exact ⟨b,c,y',by show μ3 n=_; rw [d2 n hn]; exact e1,(sameR n o b c hn hg e1).trans e2,sO hE3 (fun _ _ _ e=>e) e3⟩
  ·by_cases hn:isF n <;> by_cases hn':isF n'
   ·rw [hg3F n hn] at hg;rw [hg3F n' hn'] at hg';rw [d1 n hn] at hm;rw [d1 n' hn'] at hm';exact he.inj _ _ _ _ _ _ _ hg hg' hm hm'
   ·rw [hg3F n hn] at hg;rw [hg3 n' hn'] at hg';rw [d1 n hn] at hm;rw [d2 n' hn'] at hm';exact (apart _ _ _ _ _ _ _ hn hg hm hn' hg' hm').elim
   ·rw [hg3 n hn] at hg;rw [hg3F n' hn'] at hg';rw [d2 n hn] at hm;rw [d1 n' hn'] at hm';exact (apart _ _ _ _ _ _ _ hn' hg' hm' hn hg hm).elim
   ·rw [hg3 n hn] at hg;rw [hg3 n' hn'] at hg';rw [d2 n hn] at hm;rw [d2 n' hn'] at hm';exact h0.inj _ _ _ _ _ _ _ hg hg' hm hm'
  ·by_cases hn:isF n
   ·rw [hg3F n hn] at hg;rw [d1 n hn] at hm;rcases he.mine _ _ _ _ hg hm with h2|h2
    ·exact y.uP (by rw [<- hT]; exact h2)
    ·exact .inr (bC y.h.frm.size h2)
   ·rw [hg3 n hn] at hg;rw [d2 n hn] at hm;rcases h0.mine _ _ _ _ hg hm with h2|h2
    ·exact mineB b h2
    ·have h2:W0.heap.size<=b:=h2;have:=h0.lt hg hm; omega
  ·rw [get?_cons] at e;by_cases hz0:0=n
   ·rw [<- hz0]; exact h0.keys 0 _ (h00 _)
   ·rw [if_neg hz0] at e;exact h0.keys n o (by rw [get?_cons,if_neg hz0]; exact e)
  ·rw [d2 n (fun h=>by have:=h.1; omega)] at e;exact h0.nx n p e hlt
  ·by_cases hn:isF n
   ·rw [d1 n hn] at e;rw [hg3F n hn];exact he.fam n p e hge
   ·rw [d2 n hn] at e;rw [hg3 n hn];exact h0.fam n p e hge
  ·rw [y.pin] at e;exact pinned n p e
  ·exact y.h.frm.trans' hTfrm fun b hb=>y.uP hb
  ·by_cases hn:isF n
   ·rw [d1 n hn] at e;rw [hg3F n hn] at hg;exact he.pos n p q e hge hg
   ·rw [d2 n hn] at e;rw [hg3 n hn] at hg;exact h0.pos n p q e hge hg
 refine ⟨z,v,μ3,hz,hI,fin,⟨⟨fun b hb=>?_,fun b hb=>k.usame y hb⟩,fun n p e=>pinned n p e⟩,hkd,k.lat⟩;have hb':Ufor C μ hp w b:=hb;refine ⟨bX hb'.1 hTfrm.size,hb'.2.1,fun n o c hg hm=>?_,hb'.2.2.2.same (k.usame y hb')⟩;by_cases hn:isF n
 ·rw [hg3F n hn] at hg;rw [d1 n hn] at hm;rcases he.mine _ _ _ _ hg hm with h2|h2
  ·exact y.uT hb' (by rw [<- hT]; exact h2)
  ·have h2:w.heap.size<=b:=h2;have:=hb'.1; omega
 ·rw [hg3 n hn] at hg;rw [d2 n hn] at hm;rcases kindsR n o b c hn hg hm with ⟨q,_⟩|⟨q,_⟩
  ·rcases k.dD b q with h|h
   ·exact y.uT hb' (.inr (.inl h))
   ·have:=hb'.1; omega
  ·exact y.ph hb'.2.2.2 q
end
end Go.Eng
