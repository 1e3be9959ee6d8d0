/- A part of the proof. -/
import Derived.Test.YtpiolkcdfgiefaaGreatDoorT4
import Derived.Shelf.Spec.SlicesInsert
import Derived.Shelf.Spec.SlicesInsertGrow
import Derived.Shelf.Slices.Delete
import Derived.Lib.RowBridge
import Derived.Test.YtpiolkcdfgiefaaGreatDoorProg
section
set_option maxHeartbeats 10000000
namespace Go.Proofs
open Go.Shelf
set_option maxRecDepth 100000
def Tryz.mU:Go.Shelf.Ren:=⟨fun|22=>46|29=>69|30=>70|36=>98|17=>121|n=>n,fun|24=>37|9=>9|3=>3|4=>4|0=>0|n=>n,λn=>n⟩
theorem Tryz.Aq:Go.Proofs.Lays2.n22 Tryz.prog Tryz.mU:={
 mixed:=by kernel_rfl
 f17:=Tryz.func121.trans (congrArg some (by kernel_rfl))
 f22:=Tryz.func46.trans (congrArg some (by kernel_rfl))
 f29:=Tryz.func69.trans (congrArg some (by kernel_rfl))
 f30:=Tryz.func70.trans (congrArg some (by kernel_rfl))
 f36:=Tryz.func98.trans (congrArg some (by kernel_rfl))
 t0:=Tryz.underlying0
 a0:=Tryz.isAgg0
 z0:=Tryz.sizeOf0
 v0:=Tryz.zeroValue0
 t3:=Tryz.underlying3
 a3:=Tryz.isAgg3
 z3:=Tryz.sizeOf3
 v3:=Tryz.zeroValue3
 t4:=Tryz.underlying4
 a4:=Tryz.isAgg4
 z4:=Tryz.sizeOf4
 v4:=Tryz.zeroValue4
 t9:=Tryz.underlying9
 a9:=Tryz.isAgg9
 z9:=Tryz.sizeOf9
 v9:=Tryz.zeroValue9
 t24:=Tryz.underlying37
 a24:=Tryz.isAgg37
 z24:=Tryz.sizeOf37
 v24:=Tryz.zeroValue37
 i9:=by kernel_rfl }
def Tryz.Jx:Go.Shelf.Ren:=⟨fun|24=>44|n=>n,fun|24=>37|9=>9|3=>3|4=>4|0=>0|n=>n,λn=>n⟩
theorem Tryz.Sn:Go.Proofs.Lays2.n24 Tryz.prog Tryz.Jx:={
 mixed:=by kernel_rfl
 f24:=Tryz.func44.trans (congrArg some (by kernel_rfl))
 t0:=Tryz.underlying0
 a0:=Tryz.isAgg0
 z0:=Tryz.sizeOf0
 v0:=Tryz.zeroValue0
 t3:=Tryz.underlying3
 a3:=Tryz.isAgg3
 z3:=Tryz.sizeOf3
 v3:=Tryz.zeroValue3
 t4:=Tryz.underlying4
 a4:=Tryz.isAgg4
 z4:=Tryz.sizeOf4
 v4:=Tryz.zeroValue4
 t9:=Tryz.underlying9
 a9:=Tryz.isAgg9
 z9:=Tryz.sizeOf9
 v9:=Tryz.zeroValue9
 t24:=Tryz.underlying37
 a24:=Tryz.isAgg37
 z24:=Tryz.sizeOf37
 v24:=Tryz.zeroValue37
 i9:=by kernel_rfl }
end Go.Proofs
open Go Go.Eng Go.RowKit Go.Proofs Go.Shelf T1 T3 T4
open Go.Sort (putRow mapBlock onCells putCells)
set_option maxRecDepth 100000
namespace T5
theorem aDt{E E':Env}(hμ:∀id p,E.μ id=some p->E'.μ id=some p){h:Nat}{o:NO}{c:Nat}{x:Obj}(k:HR E (noO h o) c x):HR E' (noO h o) c x:=by
 cases o with
 |none=>exact k
 |node a n m sz mk =>
  obtain⟨cs,rfl,hr⟩:=k;refine⟨cs,rfl,?_⟩;simp only[R]at hr ⊢
  grind
 |map l q =>
  obtain⟨h0,es,rfl,he⟩:=k;refine⟨h0,es,rfl,?_⟩;clear h0;induction l generalizing es with
  |nil=>exact he
  |cons y r ih =>
   obtain⟨e,t,rfl,h1,h2,h3,h4⟩:=he;refine⟨e,t,rfl,h1,?_,h3,ih _ h4⟩
   grind[R]
 |arr l =>
  obtain⟨cs,rfl,h1,h2,h3⟩:=k;refine⟨cs,rfl,h1,h2,λi hi=>?_⟩
  grind[idE,R]
theorem On{f:Nat->aL}{n:Nat}{o:aL}(h:hget [(0,.fam f)] n=some o):∃i,n=fid 0 i/\dX? (f i)=some o:=by
 unfold hget at h;split at h
 .grind [solid?,get?]
 .rename_i hn;split at h
  .rename_i g hg;rw[get?_cons]at hg;split at hg
   .rename_i e;cases hg
    grind[nI]
   simp_all[get?]
  .cases h
theorem Gr{w W:World}{b:Nat}{x y:Array Value}{T:TypeId}{f:Nat×Nat}(h1:W.heap.size=w.heap.size)(h2:∀k,k≠b->W.heap[k]?=w.heap[k]?)(h3:w.heap[b]?=some (.cells x T f))(h4:W.heap[b]?=some (.cells y T f)):Kd w W:=by
 refine Kd.qG (by omega) λk _=>?_;by_cases hk:k=b
 .subst hk;exact .inr ⟨λo e=>by rw[h3]at e; cases e; rfl,λo e=>by rw[h4]at e; cases e; rfl⟩
 grind
theorem fin{w w':World}{T U U':Nat->Prop}{μ μ':Nat->Option (Nat×Nat)}{np nx nx':Nat}{hp':List (Nat×aL)}{N':Nat->NO}(h:bD (dE w T U μ np) μ' hp' nx' w')
  (hh:∀n,hget [(0,.fam λq=>noO 0 (N' q))] n=hget hp' n) (h0:0<nx) (hnx:∀id p,μ' id=some p->id<FB->id<nx) :
  bD (dE w T U' μ np) μ' [(0,.fam λq=>noO 0 (N' q))] nx w' where
 obj:=by
  refine⟨?_,?_⟩
  .intro id o e;rw[get?_cons]at e;split at e
   .rename_i h; rw[<- h]; decide
   .cases e
  .intro id o e;obtain⟨b,c,x,m,hx,hr⟩:=h.obj.obj id o (by grind);obtain⟨i,_,hi⟩:=On e;have:=solid?_self (dX?_solid hi);subst this;exact⟨b,c,x,m,hx,aDt (E:=aG (dE w T U μ np) μ' hp' w') (E':=aG (dE w T U' μ np) μ' [(0,.fam λq=>noO 0 (N' q))] w') (λ_ _ e=>e) hr⟩
 inj:=by
  intro id id' o o' b c c' e e';rw[hh]at e e';exact h.inj _ _ _ _ _ _ _ e e'
 mine:=by
  intro id o b c e;rw[hh]at e;exact h.mine _ _ _ _ e
 keys:=by
  intro id o e;rw[get?_cons]at e;split at e
  .omega
  .cases e
 nx:=hnx
 pos:=λid p q e hge g=>h.pos id p q e hge (by grind)
 fam:=by
  intro id p e hge;obtain⟨o,ho⟩:=h.fam id p e hge;simp[*]
 pin:=h.pin
 frm:=h.frm
theorem qJ{b:Nat}{T:TypeId}:∀(vs:List Value) (o:Nat) (w:World) (cs:List Value),w.heap[b]?=some (.cells cs.toArray T (0,0))->o+vs.length<=cs.length ->
  ∃cs':List Value,(w.setCells b o vs).heap[b]?=some (.cells cs'.toArray T (0,0))/\cs'.length=cs.length/\∀k,cs'[k]?=if o<=k/\k<o+vs.length then vs[k-o]? else cs[k]?:=by
 intro vs;induction vs with
 |nil =>
  intro o w cs h _;refine⟨cs,h,rfl,λk=>?_⟩
  grind
 |cons v r ih =>
  intro o w cs h hle;have hle':o+(r.length+1)<=cs.length:=hle;have h1:(w.setCell ⟨b,o,none⟩ v).heap[b]?=some (.cells (cs.set o v).toArray T (0,0)):=by
   rw[heap_setCell_same w b o cs.toArray T v h];simp
  obtain⟨cs',k1,k2,k3⟩:=ih (o+1) _ _ h1 (by grind);refine⟨cs',k1,by simp[*],λk=>?_⟩
  grind
theorem qK{b:Nat}:∀(vs:List Value) (o:Nat) (w:World),(w.setCells b o vs).heap.size=w.heap.size/\(∀k,k≠b->(w.setCells b o vs).heap[k]?=w.heap[k]?)/\(w.setCells b o vs).os=w.os/\(w.setCells b o vs).tape=w.tape/\(w.setCells b o vs).output=w.output:=by
 intro vs;induction vs with
 |nil=>intro o w; exact⟨rfl,λ_ _=>rfl,rfl,rfl,rfl⟩
 |cons v r ih =>
  intro o w;obtain⟨k1,k2,k3,k4,k5⟩:=ih (o+1) (w.setCell ⟨b,o,none⟩ v);refine⟨k1.trans ?_,λk hk=>(k2 k hk).trans (heap_setCell_other w _ k v hk),k3.trans rfl,k4.trans rfl,k5.trans rfl⟩;simp[World.setCell]
theorem Qd{E:Env}{s:B}{vs:List Value}:R E (idE s) vs↔vs=[encStr s]:=by
 simp only[idE,R];simp
theorem Qn{w:World}{T U:Nat->Prop}{μ:Nat->Option (Nat×Nat)}{np nx a b c:Nat}{hp:List (Nat×aL)}{N:Nat->NO}{A:List B}(h:bD (dE w T U μ np) μ hp nx w)(hf:get? hp 0=some (.fam λq=>noO 0 (N q)))
  (hA:N a=.arr A) (h0:0<A.length) (hm:μ (fid 0 a)=some (b,c)) :
  hget hp (fid 0 a)=some (noO 0 (.arr A))/\∃cs:List Value,w.heap[b]?=some (.cells cs.toArray 9 (0,0))/\cs.length=c/\A.length<=c/\c<=9223372036854775807/\∀j,j<A.length->cs[j]?=some (encStr (A.getD j [])):=by
 have hg:hget hp (fid 0 a)=some (noO 0 (.arr A)):=by
  rw[iZ (by decide) hf,hA];exact cL h0
 refine⟨hg,?_⟩;obtain⟨b',c',x,e1,e2,e3⟩:=h.obj.obj _ _ hg;have e1':μ (fid 0 a)=some (b',c'):=e1;rw[hm]at e1';cases e1';obtain⟨cs,rfl,k1,k2,k3⟩:=e3;refine⟨cs,e2,by omega,by omega,by omega,λj hj=>?_⟩;obtain⟨xs,r1,_,r3⟩:=k3 j hj;rw[Qd]at r1;subst r1;have:=r3 0 _ rfl
 grind
theorem Ig{E:Env}{h c:Nat}{A:List B}{cs:List Value}(h1:cs.length=c)(h2:A.length<=c)(h3:c<=9223372036854775807)(h4:∀j,j<A.length->cs[j]?=some (encStr (A.getD j []))):HR E (noO h (.arr A)) c (.cells cs.toArray 9 (0,0)):=by
 refine⟨cs,rfl,by omega,⟨h2,h3⟩,λi hi=>⟨_,Qd.2 rfl,rfl,?_⟩⟩
 grind
theorem Ai{N:Nat->NO}{a:Nat}{x:NO}(hx:dX? (noO 0 x)=some (noO 0 x))(n:Nat) :
  hget [(0,.fam λq=>noO 0 (put N a x q))] n=if fid 0 a=n then some (noO 0 x)else hget [(0,.fam λq=>noO 0 (N q))] n:=by
 have h:=lZ (hp:=[(0,.fam λq=>noO 0 (N q))]) (h:=0) (i:=a) (f:=λq=>noO 0 (N q)) (x:=noO 0 x) (by decide) rfl hx n;have e:(λq=>noO 0 (put N a x q))=λj=>bif Nat.beq j a then noO 0 x else noO 0 (N j):=by
  grind[put]
 simp_all[hget,get?_cons,FB]
def vO(A:List B)(n i:Nat):List B:=(A.take n).take i++(A.take n).drop (i+1)++[[]]
theorem Q0{A:List B}{n i:Nat}(hi:i<n)(hn:n<=A.length):(vO A n i).length=n:=by
 unfold vO
 grind
def aA1:bC where
 X:=(Nat->NO)×Nat×List B×Nat×Nat
 Y:=Unit
 args:=λx=>.cons (.flsl 0 x.2.1 1 x.2.2.2.1) (.cons (.int .i64 (x.2.2.2.2:Int)) (.cons (.int .i64 ((x.2.2.2.2:Int)+1)) .nil))
 pre:=λx=>x.1 x.2.1=.arr x.2.2.1/\x.2.2.2.2<x.2.2.2.1/\x.2.2.2.1<=x.2.2.1.length
 h0:=λx=>[(0,.fam λq=>noO 0 (x.1 q))]
 nx0:=1
 post:=λ_ _=>True
 res:=λx _=>.flsl 0 x.2.1 1 (x.2.2.2.1-1)
 h1:=λx _=>[(0,.fam λq=>noO 0 (put x.1 x.2.1 (.arr (vO x.2.2.1 x.2.2.2.1 x.2.2.2.2)) q))]
 nx1:=1
theorem aA2:aA1.Ok Tryz.prog 44:=by
 refine⟨enters_of Tryz.Sn.f24 (by kernel_rfl) rfl,?_⟩;rintro⟨N,a,A,n,i⟩ w μ vs T U hU _ hh ⟨(hA:N a=.arr A),(hi:i<n),(hn:n<=A.length)⟩ hR;have hh0:bD (dE w T U μ 1) μ [(0,.fam λq=>noO 0 (N q))] 1 w:=hh;obtain⟨v1,s1,rfl,r1,hR⟩:=lS hR;obtain⟨v2,s2,rfl,r2,hR⟩:=lS hR;obtain⟨v3,s3,rfl,r3,hR⟩:=lS hR;obtain rfl:s3=[]:=by grind[R]
 simp only[R]at r1 r2 r3;obtain rfl:=aC.1 r2;obtain rfl:=aC.1 r3;rcases r1 with⟨h,_⟩|⟨b,c,m1,hv,hle⟩
 .omega
 obtain rfl:=aC.1 hv;have m1':μ (fid 0 a)=some (b,c):=m1;obtain⟨hg,cs,hb,hcl,hlc,hcm,hel⟩:=Qn hh0 rfl hA (by omega) m1';have hlen:(A.take n).length=n:=by simp; omega
 have hH:Go.Sort.Holds encStr w b 0 (A.take n).toArray:=by
  intro j hj;have hj':j<n:=by grind
  have hjA:j<A.length:=by omega
  have hc:=hel j hjA;have eA:A.getD j []=A[j]:=by simp[*]
  rw[eA]at hc;refine⟨?_,by simp[World.frozen?,hb]⟩;rw[getElem!_pos (A.take n).toArray j hj];simp only[World.cell?,hb,Option.isSome_none,eR,if_false,aP];simp[*]
 have main:=Any.slices_Delete_string Tryz.Sn b 0 c i (i+1) (A.take n) w hH (by omega) hcm (by omega) (by omega);rw[hlen,show n-(i+1-i)=n-1 by omega,show(i+1)-i=1 by omega]at main;refine Calls.mono (show Calls Tryz.prog 44 _ w _ from main) ?_;rintro e w' ⟨rfl,q,rfl⟩;obtain⟨L,hL⟩:∃L,L=vO A n i:=⟨_,rfl⟩;have hLl:L.length=n:=by grind[Q0]
 have hL':(A.take n).take i++(A.take n).drop (i+1)++List.replicate 1 []=L:=by rw[hL]; rfl
 rw[hL'];generalize hW:putRow encStr (Sort.ahead w q) b 0 L.toArray=W;have hblk:b<w.heap.size:=(aU.1 hb).1;have hheap:W.heap[b]?=some (.cells (putCells encStr 0 L.toArray cs.toArray).toList.toArray 9 (0,0)):=by
  rw[<- hW];simp[putRow,mapBlock,Sort.ahead,Array.getElem?_modify,hb,onCells]
 have hother:∀k,k≠b->W.heap[k]?=w.heap[k]?:=by
  intro k hk;rw[<- hW];simp[putRow,mapBlock,Sort.ahead,Array.getElem?_modify,Ne.symm hk]
 have hsz:W.heap.size=w.heap.size:=by
  grind[putRow,mapBlock,Sort.ahead]
 have hHR:HR (aG (dE w T U μ 1) μ [(0,.fam λq=>noO 0 (N q))] w) (noO 0 (.arr L)) c (.cells (putCells encStr 0 L.toArray cs.toArray).toList.toArray 9 (0,0)):=by
  refine Ig (by simp[putCells,hcl]) (by omega) hcm (λj hj=>?_);have hlc':j<cs.length:=by omega
  have eL:L.toArray[j]! = L.getD j []:=by
   grind
  simp only[putCells,Array.toList_mapIdx,List.getElem?_mapIdx,aM hlc',cU,aS,true_and,aP,gE,hj,if_true,Nat.sub_zero]
  grind
 have hL0:0<L.length:=by omega
 obtain⟨k1,k2⟩:=hh0.write (hp':=[(0,.fam λq=>noO 0 (put N a (.arr L) q))]) (x:=noO 0 (.arr L)) (id:=fid 0 a) (b:=b) (c:=c) (o:=noO 0 (.arr A)) (w':=W) (y:=.cells (putCells encStr 0 L.toArray cs.toArray).toList.toArray 9 (0,0))
  (λn=>Ai (x:=.arr L) (cL hL0) n) (λn o' e=>by
   rw[get?_cons]at e ⊢
   grind) hg m1' hsz hother hheap (by rw[<- hW]; rfl) (by rw[<- hW]; rfl) (by rw[<- hW]; rfl) hHR (λl p e=>by cases e) (λh=>by cases h)
 refine⟨(),μ,trivial,?_,?_,k1.kd⟩
 .show bD (dE w T _ μ 1) μ [(0,.fam λq=>noO 0 (put N a (.arr (vO A n i)) q))] 1 W;rw[<- hL];exact fin k2 (λ_=>rfl) (by decide) hh0.nx
 .simp only [aA1,R];exact .inr ⟨b,c,m1',rfl,by omega⟩
def oY(A:List B)(n i:Nat)(v:B):List B:=(A.take n).take i++v::(A.take n).drop i
theorem zE{A:List B}{n i:Nat}{v:B}(hi:i<=n)(hn:n<=A.length):(oY A n i v).length=n+1:=by
 grind[oY]
theorem W7{A:List B}{n i:Nat}{v:B}(hi:i<=n)(hn:n<=A.length){j:Nat}(hj:j<n+1):(oY A n i v).getD j []=if j<i then A.getD j []else if j=i then v else A.getD (j-1) []:=by
 unfold oY
 grind
structure IX where
 N:Nat->NO
 a:Nat
 A:List B
 n:Nat
 i:Nat
 v:B
 d:Nat
def pS:bC where
 X:=IX
 Y:=Nat
 args:=λx=>.cons (.flsl 0 x.a 1 x.n) (.cons (.int .i64 (x.i:Int)) (.cons (.lsl 1 1 1) .nil))
 pre:=λx=>(x.A=[]->x.N x.a=.none)/\(x.A≠[]->x.N x.a=.arr x.A)/\x.i<=x.n/\x.n<=x.A.length/\x.n<1000000/\x.N x.d=.none
 h0:=λx=>[(0,.fam λq=>noO 0 (x.N q)),(1,.arr 9 1 1 λ_=>idE x.v)]
 nx0:=2
 post:=λx y=>(y=x.a/\x.A≠[])\/y=x.d
 res:=λx y=>.flsl 0 y 1 (x.n+1)
 h1:=λx y=>[(0,.fam λq=>noO 0 (put x.N y (.arr (oY x.A x.n x.i x.v)) q))]
 nx1:=2
theorem Hb{w W:World}{T U:Nat->Prop}{μ:Nat->Option (Nat×Nat)}{np nx d gc:Nat}{N:Nat->NO}{L:List B}{cs:List Value}(h:bD (dE w T U μ np) μ [(0,.fam λq=>noO 0 (N q))] nx w)(hd:N d=.none)(hL:0<L.length)
  (hs:W.heap.size=w.heap.size+1) (hsame:∀k,k<w.heap.size->W.heap[k]?=w.heap[k]?) (hnew:W.heap[w.heap.size]?=some (.cells cs.toArray 9 (0,0))) (ho:W.os=w.os) (ht:W.tape=w.tape) (hu:W.output=w.output)
  (h1:cs.length=gc) (h2:L.length<=gc) (h3:gc<=9223372036854775807) (h4:∀j,j<L.length->cs[j]?=some (encStr (L.getD j []))) :
  bD (dE w T U μ np) (upd μ (fid 0 d) (w.heap.size,gc)) [(0,.fam λq=>noO 0 (put N d (.arr L) q))] nx W:=by
 have hm:μ (fid 0 d)=none:=by
  cases e:μ (fid 0 d) with
  |none=>rfl
  |some p =>
   obtain⟨o,ho'⟩:=h.fam _ p e (cQ 0 d);rw[iZ (by decide) rfl,hd]at ho';cases ho'
 have hsol:dX? (noO 0 (.arr L))=some (noO 0 (.arr L)):=cL hL;obtain⟨_,k2⟩:=h.Db (hp':=[(0,.fam λq=>noO 0 (put N d (.arr L) q))]) hm (cQ 0 d) (.cells cs.toArray 9 (0,0)) (noO 0 (.arr L)) gc (λn=>Ai hsol n) (λn o' e=>by
   rw[get?_cons]at e ⊢
   grind) (Ig h1 h2 h3 h4)
 refine k2.below ⟨ho,ht,hu,by simp[*],λk hk=>?_,λe=>by cases e⟩
 grind[World.size_alloc,heap_alloc_new,Go.Eng.Below.heap_alloc]
theorem He{w W:World}{T U U':Nat->Prop}{μ:Nat->Option (Nat×Nat)}{np nx a b c:Nat}{N:Nat->NO}{A L:List B}{cs:List Value}(h:bD (dE w T U μ np) μ [(0,.fam λq=>noO 0 (N q))] nx w)
  (hg:hget [(0,.fam λq=>noO 0 (N q))] (fid 0 a)=some (noO 0 (.arr A))) (hm:μ (fid 0 a)=some (b,c)) (hL:0<L.length) (h0:0<nx) (hnx:∀id p,μ id=some p->id<FB->id<nx)
  (hs:W.heap.size=w.heap.size) (hsame:∀k,k≠b->W.heap[k]?=w.heap[k]?) (hnew:W.heap[b]?=some (.cells cs.toArray 9 (0,0))) (ho:W.os=w.os) (ht:W.tape=w.tape) (hu:W.output=w.output)
  (h1:cs.length=c) (h2:L.length<=c) (h3:c<=9223372036854775807) (h4:∀j,j<L.length->cs[j]?=some (encStr (L.getD j []))) :
  bD (dE w T U' μ np) μ [(0,.fam λq=>noO 0 (put N a (.arr L) q))] nx W:=by
 obtain⟨_,k2⟩:=h.write (hp':=[(0,.fam λq=>noO 0 (put N a (.arr L) q))]) (x:=noO 0 (.arr L)) (id:=fid 0 a) (b:=b) (c:=c) (o:=noO 0 (.arr A)) (w':=W) (y:=.cells cs.toArray 9 (0,0))
  (λn=>Ai (x:=.arr L) (cL hL) n) (λn o' e=>by
   rw[get?_cons]at e ⊢
   grind) hg hm hs hsame hnew ho ht hu (Ig h1 h2 h3 h4) (λl p e=>by cases e) (λh=>by cases h)
 exact fin k2 (λ_=>rfl) h0 hnx
theorem aBy:pS.Ok Tryz.prog 46:=by
 refine⟨enters_of Tryz.Aq.f22 (by kernel_rfl) rfl,?_⟩;rintro⟨N,a,A,n,i,v,d⟩ w μ vs T U hU _ hh ⟨(hA0:A=[]->N a=.none),(hA1:A≠[]->N a=.arr A),(hi:i<=n),(hn:n<=A.length),(hbig:n<1000000),(hd:N d=.none)⟩ hR;have hh0:bD (dE w T U μ 2) μ [(0,.fam λq=>noO 0 (N q)),(1,.arr 9 1 1 λ_=>idE v)] 2 w:=hh;obtain⟨v1,s1,rfl,r1,hR⟩:=lS hR;obtain⟨v2,s2,rfl,r2,hR⟩:=lS hR;obtain⟨v3,s3,rfl,r3,hR⟩:=lS hR;obtain rfl:s3=[]:=by grind[R]
 simp only[R]at r1 r2 r3;obtain rfl:=aC.1 r2;have hg1:hget [(0,aL.fam λq=>noO 0 (N q)),(1,.arr 9 1 1 λ_=>idE v)] 1=some (.arr 9 1 1 λ_=>idE v):=jL (by decide) rfl rfl;rcases r3 with⟨h,_⟩|⟨_,vb,vc,mv,hv3,hvle⟩
 .cases h
 obtain rfl:=aC.1 hv3;have mv':μ 1=some (vb,vc):=mv;obtain⟨b',c',x,e1,e2,cs1,rfl,q1,q2,q3⟩:=hh0.obj.obj _ _ hg1;have e1':μ 1=some (b',c'):=e1;rw[mv']at e1';cases e1';have hvb:w.heap[vb]?=some (.cells cs1.toArray 9 (0,0)):=e2;obtain⟨xs,t1,_,t3⟩:=q3 0 (by decide);rw[Qd]at t1;subst t1;have hc1:cs1[0]?=some (encStr v):=by grind
 have hcellv:∀j u,[encStr v][j]?=some u->w.cell? ⟨vb,0+j,none⟩=some u:=by
  intro j u hu;have hj:j=0:=by
   grind
  subst hj;obtain rfl:encStr v=u:=by grind
  grind[World.cell?]
 have hone:∀u∈[encStr v],u.oneCell'=true:=by
  intro u hu;rw[eS.1 hu];rfl
 have hh1:bD (dE w T U μ 2) μ [(0,.fam λq=>noO 0 (N q))] 2 w:=(hh0.vP (k:=1) (o0:=.arr 9 1 1 λ_=>idE v) rfl rfl).2;obtain⟨L,hL⟩:∃L,L=oY A n i v:=⟨_,rfl⟩;have hLl:L.length=n+1:=by grind[zE]
 have hLg:∀{j:Nat},j<n+1->L.getD j []=if j<i then A.getD j []else if j=i then v else A.getD (j-1) []:=(by grind[W7])
 have goal:∀(W:World) (y b2 c2:Nat) (μ':Nat->Option (Nat×Nat)),((y=a/\A≠[])\/y=d)->bD (dE w T (Ufresh true U) μ 2) μ' [(0,.fam λq=>noO 0 (put N y (.arr L) q))] 2 W->μ' (fid 0 y)=some (b2,c2)->n+1<=c2->Kd w W ->
   ∃y μ',pS.post ⟨N,a,A,n,i,v,d⟩ y/\bD (dE w T (Ufresh pS.fresh U) μ pS.nx0) μ' (pS.h1 ⟨N,a,A,n,i,v,d⟩ y) pS.nx1 W/\R (aG (dE w T (Ufresh pS.fresh U) μ pS.nx0) μ' (pS.h1 ⟨N,a,A,n,i,v,d⟩ y) W) (pS.res ⟨N,a,A,n,i,v,d⟩ y) [.slice (some ⟨b2,0,none⟩) (n+1) c2]/\Kd w W:=by
  intro W y b2 c2 μ' hy h2 hm hc hkd;refine⟨y,μ',hy,?_,?_,hkd⟩
  .show bD (dE w T (Ufresh true U) μ 2) μ' [(0,.fam λq=>noO 0 (put N y (.arr (oY A n i v)) q))] 2 W
   grind
  .simp only [pS,R];exact .inr ⟨b2,c2,hm,rfl,hc⟩
 have updm:∀gc,upd μ (fid 0 d) (w.heap.size,gc) (fid 0 d)=some (w.heap.size,gc):=λgc=>by simp[upd]
 have updn:∀gc id p,upd μ (fid 0 d) (w.heap.size,gc) id=some p->id<FB->id<2:=by
  intro gc id p e hlt;have:id≠fid 0 d:=by grind[cQ]
  simp only[upd,this,if_false]at e;exact hh0.nx _ _ e hlt
 -- a new row,at the end
 have grow_end:∀(base:Option Addr) (c:Nat) (csv:List Value),i=n->c<n+1->n<=c->csv.length=n->(base=none->n=0)->(∀ad,base=some ad->∀j u,csv[j]?=some u->w.cell? (ad.add j)=some u)->(∀j,j<n->csv[j]?=some (encStr (A.getD j []))) ->
   Calls Tryz.prog 46 #[.slice base n c,.int .i64 (i:Int),.slice (some ⟨vb,0,none⟩) 1 vc] w λe w'=>∃u,e=.returned u/\∃y μ',pS.post ⟨N,a,A,n,i,v,d⟩ y/\bD (dE w T (Ufresh pS.fresh U) μ pS.nx0) μ' (pS.h1 ⟨N,a,A,n,i,v,d⟩ y) pS.nx1 w'/\R (aG (dE w T (Ufresh pS.fresh U) μ pS.nx0) μ' (pS.h1 ⟨N,a,A,n,i,v,d⟩ y) w') (pS.res ⟨N,a,A,n,i,v,d⟩ y) [u]/\Kd w w':=by
  rintro base c csv rfl hc hnc hcl hbn hcs hcv;have main:=Any2.slices_Insert_string_end_grow Tryz.Aq base i c vb 0 1 vc csv [encStr v] w (by decide) hnc hc (by omega) hcl rfl hbn hcs hcellv hone;refine Calls.mono (show Calls Tryz.prog 46 _ w _ from main) ?_;rintro e w' ⟨rfl,rfl⟩;have hgc:=grownCap_ge w (i+1) c 9;have hgm:grownCap w (i+1) c 9<=9223372036854775807:=by grind[grownCap_le_maxLen,maxLen]
  obtain⟨gc,hq⟩:∃gc,gc=grownCap w (i+1) c 9:=⟨_,rfl⟩;rw[<- hq]at hgc hgm;obtain⟨cs,hcsd⟩:∃cs:List Value,cs=((csv++[encStr v]).toArray++Builtin.zeroCells (Value.string ⟨#[]⟩).cells (gc-(i+1))).toList:=⟨_,rfl⟩;have hcslen:cs.length=gc:=by
   rw[hcsd];simp only[jP,kU,gE,bF,bA,eZ,size_zeroCells,hcl];show i+(0+1)+(gc-(i+1))*1=gc;omega
  have hcsg:∀j,j<L.length->cs[j]?=some (encStr (L.getD j [])):=by
   intro j hj;have hj':j<i+1:=by omega
   rw[hcsd,Array.toList_append,cH (by simp; omega)]
   grind
  refine⟨.slice (some ⟨w.heap.size,0,none⟩) (i+1) gc,by rw[hq]; rfl,?_⟩;have hWd:w.drew.alloc (.cells ((csv++[encStr v]).toArray++Builtin.zeroCells (Value.string ⟨#[]⟩).cells (grownCap w (i+1) c (Tryz.mU.t 9)-(i+1))) (Tryz.mU.t 9))=w.drew.alloc (.cells cs.toArray 9 (0,0)):=by
   rw[hcsd,hq,Array.toArray_toList];rfl
  rw[hWd];refine goal _ d w.heap.size gc (upd μ (fid 0 d) (w.heap.size,gc)) (.inr rfl) ?_ (updm gc) (by omega) (Kd.jR ((Eng.Below.refl _ _).drew.alloc (aN _) _));have:=Hb (W:=w.drew.alloc (.cells cs.toArray 9 (0,0))) (gc:=gc) (L:=L) (cs:=cs) hh1 hd (by omega) (World.size_alloc w.drew _) (λk hk=>by
   have:=Go.Eng.Below.heap_alloc w.drew (.cells cs.toArray 9 (0,0)) k hk;exact this) (heap_alloc_new w.drew _) rfl rfl rfl hcslen (by omega) hgm hcsg
  exact fin this (λ_=>rfl) (by decide) (updn gc)
 rcases r1 with⟨hn0,a0,hv1⟩|⟨b,c,m1,hv1,hle⟩
 .grind
 obtain rfl:=aC.1 hv1;have m1':μ (fid 0 a)=some (b,c):=m1;have hne:A≠[]:=by
  intro e;obtain⟨o,ho⟩:=hh1.fam _ _ m1' (cQ 0 a);rw[iZ (by decide) rfl,hA0 e]at ho;cases ho
 have hpos:0<A.length:=by
  grind
 obtain⟨hg,cs,hb,hcl,hlc,hcm,hel⟩:=Qn hh1 rfl (hA1 hne) hpos m1';have cellb:∀k,w.cell? ⟨b,k,none⟩=cs[k]?:=λk=>by simp[World.cell?,hb]
 have frz:∀k,w.frozen? ⟨b,k,none⟩=false:=λk=>by simp[World.frozen?,hb]
 have htk:∀j,j<n->(cs.take n)[j]?=some (encStr (A.getD j [])):=(by grind);have htl:(cs.take n).length=n:=by simp; omega
 have htc:∀j u,(cs.take n)[j]?=some u->w.cell? ⟨b,0+j,none⟩=some u:=(by grind);by_cases hroom:n+1<=c
 .by_cases hin:i=n
  .subst hin;have main:=Any2.slices_Insert_string_end_room Tryz.Aq b 0 i c vb 0 1 vc [encStr v] w (by decide) hroom hcm rfl (by grind) (λj _=>frz _) hcellv hone;refine Calls.mono (show Calls Tryz.prog 46 _ w _ from main) ?_;rintro e w' ⟨rfl,rfl⟩;obtain⟨cs',k1,k2,k3⟩:=qJ [encStr v] (0+i) w cs hb (by simp; omega);obtain⟨f1,f2,f3,f4,f5⟩:=qK (b:=b) [encStr v] (0+i) w;refine goal _ a b c μ (by grind) (He hh1 hg m1' (by omega) (by decide) hh1.nx f1 f2 k1 f3 f4 f5 (by omega) (by omega) hcm (λj hj=>?_)) m1' hroom (Gr f1 f2 hb k1);have hj':j<i+1:=by omega
   rw[k3 j,hLg hj']
   grind
  .have hlt:i<n:=by omega
   have hvbb:vb≠b:=by
    intro e;subst e;have:=hh0.inj (fid 0 a) 1 _ _ vb c vc (by rw[iZ (by decide) rfl,hA1 hne]; exact cL hpos) hg1 m1' mv';have:=cQ 0 a;have:FB=1048576:=rfl;omega
   have main:=Any2.slices_Insert_string_shift Tryz.Aq b 0 n c i vb 0 1 vc (cs.take n) [encStr v] w hlt (by decide) hroom hcm hvbb htl rfl htc (by grind) (λj _=>frz _) hcellv
    (λu hu=>by
     obtain⟨j,hj,e⟩:=bG hu;have:=htk j (by omega);rw[aM hj,e]at this;rw[eG this];rfl) hone 9 9 cs1.length cs.length (by simp[World.shape?,hvb]) (by simp[World.shape?,hb]) (by omega) (by simp[World.frozen?,hvb]) (by simp[World.frozen?,hvb])
   refine Calls.mono (show Calls Tryz.prog 46 _ w _ from main) ?_;rintro e w' ⟨rfl,rfl⟩;have hdl:((cs.take n).drop i).length=n-i:=by simp; omega
   obtain⟨cs2,k1,k2,k3⟩:=qJ ((cs.take n).drop i) (0+(i+1)) w.drew cs hb (by omega);obtain⟨f1,f2,f3,f4,f5⟩:=qK (b:=b) ((cs.take n).drop i) (0+(i+1)) w.drew;obtain⟨cs3,j1,j2,j3⟩:=qJ [encStr v] (0+i) _ cs2 k1 (by simp; omega);obtain⟨g1,g2,g3,g4,g5⟩:=qK (b:=b) [encStr v] (0+i) (w.drew.setCells b (0+(i+1)) ((cs.take n).drop i));refine goal _ a b c μ (by grind) (He hh1 hg m1' (by omega) (by decide) hh1.nx (g1.trans f1) (λk hk=>(g2 k hk).trans (f2 k hk)) j1 (g3.trans f3) (g4.trans f4) (g5.trans f5) (by omega) (by omega) hcm (λj hj=>?_)) m1' hroom (Gr (g1.trans f1) (λk hk=>(g2 k hk).trans (f2 k hk)) hb j1);have hj':j<n+1:=by omega
   rw[j3 j,hLg hj'];by_cases h1:j<i
   .grind
   .by_cases h2:j=i
    .simp [*]
    .rw [if_neg (by simp; omega),k3 j,if_pos (by omega),if_neg h1,if_neg h2,cY,show i+(j-(0+(i+1)))=j-1 by omega];exact htk (j-1) (by omega)
 .by_cases hin:i=n
  .refine (grow_end (some ⟨b,0,none⟩) c (cs.take n) hin (by omega) hle htl (by grind) (by grind[F5]) htk).mono ?_
   grind
  .have hlt:i<n:=by omega
   have main:=Any2.slices_Insert_string_grow Tryz.Aq b 0 n c i vb 0 1 vc (cs.take n) [encStr v] w hlt (by decide) hle (by omega) (by omega) htl rfl htc hcellv (λu hu=>by
     obtain⟨j,hj,e⟩:=bG hu;have:=htk j (by omega);rw[aM hj,e]at this;rw[eG this];rfl) hone
   refine Calls.mono (show Calls Tryz.prog 46 _ w _ from main) ?_;rintro e w' ⟨rfl,rfl⟩;have hgc:=grownCap_ge w (n+1) c 9;have hgm:grownCap w (n+1) c 9<=9223372036854775807:=by grind[grownCap_le_maxLen,maxLen]
   obtain⟨gc,hq⟩:∃gc,gc=grownCap w (n+1) c 9:=⟨_,rfl⟩;rw[<- hq]at hgc hgm;obtain⟨X,hX⟩:∃X:List Value,X=(((cs.take n).take i).toArray++Builtin.zeroCells (Value.string ⟨#[]⟩).cells (n+1-i)++Builtin.zeroCells (Value.string ⟨#[]⟩).cells (gc-(n+1))).toList:=⟨_,rfl⟩;have hXl:X.length=gc:=by
    rw[hX];simp only[jP,kU,gE,size_zeroCells,eN];show min i (min n cs.length)+(n+1-i)*1+(gc-(n+1))*1=gc;omega
   have hXi:∀j,j<i->X[j]?=some (encStr (A.getD j [])):=by
    grind
   have hWd:w.alloc (.cells (((cs.take n).take i).toArray++Builtin.zeroCells (Value.string ⟨#[]⟩).cells (n+1-i)++Builtin.zeroCells (Value.string ⟨#[]⟩).cells (grownCap w (n+1) c (Tryz.mU.t 9)-(n+1))) (Tryz.mU.t 9))=w.alloc (.cells X.toArray 9 (0,0)):=by
    rw[hX,hq,Array.toArray_toList];rfl
   rw[hWd];have hv:(.slice (some ⟨w.heap.size,0,none⟩) (n+1) (grownCap w (n+1) c (Tryz.mU.t 9)):Value)=.slice (some ⟨w.heap.size,0,none⟩) (n+1) gc:=by rw[hq]; rfl
   rw[hv];have hdl:((cs.take n).drop i).length=n-i:=by simp; omega
   obtain⟨cs2,k1,k2,k3⟩:=qJ [encStr v] i (w.alloc (.cells X.toArray 9 (0,0))).drew X (heap_alloc_new w _) (by simp; omega);obtain⟨f1,f2,f3,f4,f5⟩:=qK (b:=w.heap.size) [encStr v] i (w.alloc (.cells X.toArray 9 (0,0))).drew;obtain⟨cs3,j1,j2,j3⟩:=qJ ((cs.take n).drop i) (i+1) ((w.alloc (.cells X.toArray 9 (0,0))).drew.setCells w.heap.size i [encStr v]).drew cs2 k1 (by omega);obtain⟨g1,g2,g3,g4,g5⟩:=qK (b:=w.heap.size) ((cs.take n).drop i) (i+1) ((w.alloc (.cells X.toArray 9 (0,0))).drew.setCells w.heap.size i [encStr v]).drew;have hs1:(w.alloc (.cells X.toArray 9 (0,0))).heap.size=w.heap.size+1:=World.size_alloc _ _;refine goal _ d w.heap.size gc (upd μ (fid 0 d) (w.heap.size,gc)) (.inr rfl) ?_ (updm gc) (by omega) (Kd.qG (by grind) λk hk=>.inl ((g2 k (by omega)).trans ((f2 k (by omega)).trans (Go.Eng.Below.heap_alloc w _ k hk))));refine fin (Hb (gc:=gc) (L:=L) (cs:=cs3) hh1 hd (by omega) (g1.trans (f1.trans hs1)) (λk hk=>?_) j1 (g3.trans f3) (g4.trans f4) (g5.trans f5) (by omega) (by omega) hgm (λj hj=>?_)) (λ_=>rfl) (by decide) (updn gc)
   .exact (g2 k (by omega)).trans ((f2 k (by omega)).trans (Go.Eng.Below.heap_alloc w _ k hk))
   .have hj':j<n+1:=by omega
    rw[j3 j,hLg hj'];by_cases h1:j<i
    .grind
    .by_cases h2:j=i
     .grind
     .rw [if_pos (by omega),if_neg h1,if_neg h2,cY,show i+(j-(i+1))=j-1 by omega];exact htk (j-1) (by omega)
end T5
end
section
set_option maxHeartbeats 10000000
open Go Go.Eng Go.Proofs T1 T2 T3 T4 T5
set_option maxRecDepth 100000
namespace T6
def xK(t i:B):SV:=.cons (.str t) (.cons (.str i) .nil)
def tQ(N:Nat->NO)(r:Nat)(t i:B):Bool :=
 match atN N r t with
 |some v=>decide (i∈nX N v)
 |none=>false
theorem _root_.T1.Cl.at{N:Nat->NO}{c:Nat}(h:Cl N c):∀{t:B} {r v:Nat},isNode N r->atN N r t=some v->isNode N v:=by
 intro t;induction t with
 |nil=>intro r v hr e; cases e; exact hr
 |cons b t ih =>
  intro r v hr e;simp only[atN]at e;split at e
  .cases e
  .rename_i u hu;exact ih (h.kid hu) e
theorem zP{k:Keep}{hp:List (Nat×aL)}{m h h' a n:Nat}{N:Nat->NO}{f:Nat->aL}(hf:get? hp h=some (.fam f))(hi:Is h' (f a) (N a))(hk:kept k h=false)(hl:(N a=.none/\n=0)\/∃A,N a=.arr A/\A≠[]/\n<=A.length){l:List B}(e:l=fM N a n) :
  sub k hp (m+4) (.flsl h a 1 n) (slE l):=by
 subst e;have hlen:=qE hl;show(match get? hp h with
  |some (.fam f)=>bif kept k h then False else 1=1/\n=(fM N a n).length/\(0<n->∃T len enc,f a=.arr T 1 len enc/\n<=len/\∀i,i<n->lM k (sub k hp (m+3)) (enc i) (idE ((fM N a n).getD i [])))
  |_=>False)
 rw[hf];simp only[hk,cond_false];refine⟨trivial,hlen.symm,λh0=>?_⟩;rcases hl with⟨_,h2⟩|⟨A,h1,h3,h2⟩
 .omega
 .rw [h1]at hi;obtain⟨enc,he,hq⟩:=hi;refine⟨9,A.length,enc,he,h2,λi hi=>?_⟩;rw[S5 h1,hq];have:(A.take n).getD i []=A.getD i []:=by grind
  rw[this];exact .inl (fS _ _ _ _)
theorem X2{α:Type}{P:Option α->Prop}(h0:P none)(h1:∀v,P (some v)):∀o,P o
 |none=>h0
 |some v=>h1 v
def g40:List Nat:=[1,0,5,3,4]
def c40:aY :=
 .seq (.region g40 [(zo 3 (.box 32 (.s 1))),(zo 4 (.move cF))]) (.seq (.region g40 [(mv 6 0),(fa 7 0 3),(ld 8 7),(zo 9 (.call (.c (.fn 56)) [.s 6,.s 8])),(mv 5 9)]) (.seq (.drawn g40 (.pure 0 (mv 10 5) (.pure 1 (zo 11 (.ptrEq true (.s 10) (.c (.nilptr)))) (.pure 2 (mv 12 11) (.pure 3 (mg 13 12 true 5) (.pure 4 (zg 14 12 true (.nilCheck (.s 13))) (.pure 5 (fg 15 12 true 0 14) (.pure 7 (fg 17 12 true 1 3) (.pure 8 (lg 18 12 true 17) (.eff 6 (lg 16 12 true 15) [(lg 18 12 true 17)] (.eff 9 (zg 19 12 true (.call (.c (.fn 66)) [.s 16,.s 18])) [] (.pure 10 (zo 20 (.pick (.s 12) (.s 19) cF)) (.pure 11 (mv 4 20) .done)) .none) .none)))))))))) .ret))
theorem e40:bO Tryz.prog 40 g40 [] [16,19] []=some (c40,[.slot 4],21):=by kernel_rfl
def aBm:bC where
 X:=Nat×(Nat->NO)×Nat×B×B
 Y:=Bool
 args:=λx=>.cons (.own 0 0) (.cons (.agg (xK x.2.2.2.1 x.2.2.2.2)) .nil)
 pre:=λx=>Cl x.2.1 x.2.2.1/\isNode x.2.1 x.1/\x.2.2.2.1.length<4611686018427387904/\∀v,atN x.2.1 x.1 x.2.2.2.1=some v->(nX x.2.1 v).length<=1000000
 h0:=λx=>tH 0 1 x.1 x.2.1
 nx0:=2
 post:=λx y=>y=tQ x.2.1 x.1 x.2.2.2.1 x.2.2.2.2
 res:=λ_ y=>.bool y
 h1:=λx _=>tH 0 1 x.1 x.2.1
 nx1:=2
theorem R5:aBm.Ok Tryz.prog 40:=by
 refine Eng.bC.okR e40 .nil (λ_=>[(56,.m atS),(66,.m aEa)]) (by grind[aO.m,B4,aAv,aO.nil]) ?_;rintro⟨r,N,c,t,i⟩ ⟨(hc:Cl N c),(hr:isNode N r),(ht:t.length<4611686018427387904),(hi:∀v,atN N r t=some v->(nX N v).length<=1000000)⟩;refine⟨trivial,?_⟩;refine aB (r,N,c,t) (aB [0,1] ?_);repeat' (first|apply aA|exact trivial|exact rfl|exact zm N rfl|(with_reducible first|exact hc|exact hr|exact ht))
 refine X2 (λ(ho:none=atN N r t)=>?_) (λ(v:Nat) (ho:some v=atN N r t)=>?_)
 .have e:false=tQ N r t i:=by grind[tQ]
  repeat' (first|apply aA|exact trivial|exact rfl|exact zf|refine zt ?_|fail)
  refine aB false ?_;repeat' (first|apply aA|exact trivial|exact rfl|exact zr N rfl rfl|exact e)
 .obtain ⟨a,n,m,sz,mk,hv⟩:=hc.at hr ho.symm;have e:tQ N r t i=decide (i∈fM N a n):=by grind[tQ,qW]
  have hl:=hc.lst _ _ _ _ _ _ hv;have hlen:(fM N a n).length<=1000000:=by grind[qW]
  repeat' (first|apply aA|exact trivial|exact zh|refine zt ?_|fail)
  refine aB (rnO [(0,0),(1,1)] [(0,0),(1,1)] (noO 1 (.node a n m sz mk))) (aA (by grind) ?_);repeat' (first|apply aA|exact trivial|exact rfl|exact zh|refine zt ?_|fail)
  refine aB (fM N a n,i) (aB [] ?_);repeat' (first|exact zP (h:=1) (N:=N) (a:=a) (n:=n) rfl ((Is.no 1 (N a)).rn rfl) rfl hl rfl|apply aA|exact trivial|exact rfl|exact hlen)
  refine λ(y:Bool) (hy:y=decide (i∈fM N a n))=>?_;have e2:bN true (.s 19) cF y false=tQ N r t i:=by grind[bW]
  repeat' (first|apply aA|exact trivial)
  refine aB (tQ N r t i) ?_;repeat' (first|exact e2|apply aA|exact trivial|exact rfl|exact zr N rfl rfl|fail)
end T6
end
section
set_option maxHeartbeats 10000000
open Go Go.Eng Go.Proofs T1 T2 T3 T4 T5 T6
set_option maxRecDepth 100000
namespace T7
def fC(N:Nat->NO)(a:Nat):List B :=
 match N a with
 |.arr A=>A
 |_=>[]
structure PX where
 N:Nat->NO
 v:Nat
 a:Nat
 n:Nat
 m:Nat
 sz:Int
 mrk:B
 d:Nat
 t:B
 i:B
def aFr(x:PX)(y:Nat):Nat->NO:=put (put x.N y (.arr (oY (fC x.N x.a) x.n (eV (fM x.N x.a x.n) x.i) x.i))) x.v (.node y (x.n+1) x.m x.sz x.mrk)
def g45:List Nat:=[0,3,1]
def c45:aY :=
 .seq (.drawn g45 (.pure 0 (mv 6 0) (.pure 1 (zo 7 (.nilCheck (.s 6))) (.pure 2 (fa 8 0 7) (.pure 4 (fa 10 1 1) (.pure 5 (ld 11 10) (.eff 3 (ld 9 8) [(ld 11 10)] (.eff 6 (zo 12 (.call (.c (.fn 43)) [.s 9,.s 11])) [] (.pure 7 (mv 5 12) (.pure 8 (zo 13 (.extract 0 (.s 5))) (.pure 9 (zo 14 (.extract 1 (.s 5))) (.pure 10 (mv 3 13) (.pure 11 (mv 4 14) .done))))) .none) .none))))))) (.drawn g45 (.pure 0 (mv 15 0) (.pure 1 (mv 16 0) (.pure 2 (zo 17 (.nilCheck (.s 16))) (.pure 3 (fa 18 0 17) (.pure 5 (mv 20 3) (.pure 6 (fa 21 1 1) (.pure 7 (ld 22 21) (.eff 4 (ld 19 18) [(ld 22 21)] (.eff 8 (zo 23 (.buildSl 9 1 1 (.cons (.str []) .nil) [(0,1,.s 22)])) [] (.eff 9 (zo 24 (.call (.c (.fn 46)) [.s 19,.s 20,.s 23])) [] (.pure 10 (zo 25 (.nilCheck (.s 15))) (.pure 11 (fa 26 0 25) (.eff 12 ⟨none,none,.store 1 (.s 26) (.s 24),[]⟩ [] .done .none))) .none) .none) (.eff 8 (zo 23 (.buildSl 9 1 1 (.cons (.str []) .nil) [(0,1,.s 22)])) [] (.eff 4 (ld 19 18) [(ld 22 21)] (.eff 9 (zo 24 (.call (.c (.fn 46)) [.s 19,.s 20,.s 23])) [] (.pure 10 (zo 25 (.nilCheck (.s 15))) (.pure 11 (fa 26 0 25) (.eff 12 ⟨none,none,.store 1 (.s 26) (.s 24),[]⟩ [] .done .none))) .none) .none) .none))))))))))
theorem e45:bO Tryz.prog 45 g45 [] [9,12,19,23,24] []=some (c45,[],27):=by kernel_rfl
def Zt:bC where
 X:=PX
 Y:=Nat
 args:=λx=>.cons (.fown 0 x.v 0) (.cons (.own 1 0) .nil)
 pre:=λx=>x.N x.v=.node x.a x.n x.m x.sz x.mrk/\((x.N x.a=.none/\x.n=0)\/∃A,x.N x.a=.arr A/\A≠[]/\x.n<=A.length)/\Srt (fM x.N x.a x.n)/\x.n<1000000/\x.N x.d=.none
 h0:=λx=>[(0,.fam λq=>noO 0 (x.N q)),(1,.cells 32 (xK x.t x.i))]
 nx0:=2
 post:=λx y=>(y=x.a/\fC x.N x.a≠[])\/y=x.d
 res:=λ_ _=>.tup .nil
 h1:=λx y=>[(0,.fam λq=>noO 0 (aFr x y q))]
 nx1:=2
theorem X3:Zt.Ok Tryz.prog 45:=by
 refine Eng.bC.okR e45 .nil (λ_=>[(43,.m aAm),(46,.m pS),(2097152,.own)]) (by grind[aO.m,Qt,aBy,aO.o,aO.nil]) ?_;rintro⟨N,v,a,n,m,sz,mk,d,t,i⟩ ⟨(hv:N v=.node a n m sz mk),(hl:(N a=.none/\n=0)\/∃A,N a=.arr A/\A≠[]/\n<=A.length),(hs:Srt (fM N a n)),(hn:n<1000000),(hd:N d=.none)⟩;have hlen:(fM N a n).length<=1000000:=by rw[qE hl]; omega
 refine⟨trivial,?_⟩;repeat' (first|apply aA|exact trivial)
 refine aB (noO 0 (.node a n m sz mk)) (aA (congrArg (noO 0) hv) ?_);repeat' (first|apply aA|exact trivial|exact rfl)
 refine aB (fM N a n,i) (aB [] ?_);repeat' (first|exact zP (h:=0) (N:=N) (a:=a) (n:=n) rfl (Is.no 0 (N a)) rfl hl rfl|apply aA|exact trivial|exact rfl|exact hlen|exact hs)
 refine λ(y:Nat×Bool) (hy:y=(eV (fM N a n) i,decide (i∈fM N a n)))=>?_;subst hy;have hA0:fC N a=[]->N a=.none:=by
  grind[fC]
 have hA1:fC N a≠[]->N a=.arr (fC N a):=by
  intro e;rcases hl with⟨h,_⟩|⟨A,h,hA,_⟩
  .simp_all [fC,ne_eq]
  grind[fC]
 have hA2:n<=(fC N a).length:=by
  grind
 have hA3:eV (fM N a n) i<=n:=by grind[zK,qE]
 have hyn:∀y,(y=a/\fC N a≠[])\/y=d->v≠y:=by
  grind
 repeat' (first|apply aA|exact trivial)
 all_goals refine aB (noO 0 (.node a n m sz mk)) (aA (congrArg (noO 0) hv) ?_)
 all_goals repeat' (first|apply aA|exact trivial|exact rfl|fail)
 all_goals refine aB (IX.mk N a (fC N a) n (eV (fM N a n) i) i d) (aB [0,2] ?_)
 all_goals repeat' (first|apply aA|exact trivial|exact rfl|exact hA0|exact hA1|exact hA2|exact hA3|exact hn|exact hd|(refine λ(j:Nat) (hj:j<1)=>?_; obtain rfl:j=0:=(by omega); exact Or.inl (fS _ _ _ _))|exact zm N rfl|fail)
 all_goals refine λ(y:Nat) (hy:(y=a/\fC N a≠[])\/y=d)=>?_
 all_goals have hyv:put N y (.arr (oY (fC N a) n (eV (fM N a n) i) i)) v=.node a n m sz mk:=(bS (hyn y hy)).trans hv
 all_goals repeat' (first|apply aA|exact trivial|fail)
 all_goals refine aB (rnO [(0,0),(1,2)] [(0,0),(2,1)] (noO 0 (.node a n m sz mk))) (aA (congrArg (λo=>rnO [(0,0),(1,2)] [(0,0),(2,1)] (noO 0 o)) hyv) ?_)
 all_goals repeat' (first|apply aA|exact trivial|fail)
 all_goals refine aB y ?_
 all_goals repeat' (first|exact hy|apply aA|exact trivial|exact rF (nG (by exact rfl)) (λi=>mL (by exact rfl) (by exact rfl) _)|fail)
def nB(x:PX):Nat->NO:=put (put x.N x.a (.arr (vO (fC x.N x.a) x.n (eV (fM x.N x.a x.n) x.i)))) x.v (.node x.a (x.n-1) x.m x.sz x.mrk)
def g42:List Nat:=[1,0,3]
def c42:aY :=
 .seq (.drawn g42 (.pure 0 (mv 6 0) (.pure 1 (zo 7 (.nilCheck (.s 6))) (.pure 2 (fa 8 0 7) (.pure 4 (fa 10 1 1) (.pure 5 (ld 11 10) (.eff 3 (ld 9 8) [(ld 11 10)] (.eff 6 (zo 12 (.call (.c (.fn 43)) [.s 9,.s 11])) [] (.pure 7 (mv 5 12) (.pure 8 (zo 13 (.extract 0 (.s 5))) (.pure 9 (zo 14 (.extract 1 (.s 5))) (.pure 10 (mv 3 13) (.pure 11 (mv 4 14) .done))))) .none) .none))))))) (.region g42 [(mv 15 0),(mv 16 0),(zo 17 (.nilCheck (.s 16))),(fa 18 0 17),(ld 19 18),(mv 20 3),(mv 21 3),(zo 22 (.bin (.add) (.s 21) (cj 1))),(zo 23 (.call (.c (.fn 44)) [.s 19,.s 20,.s 22])),(zo 24 (.nilCheck (.s 15))),(fa 25 0 24),⟨none,none,.store 1 (.s 25) (.s 23),[]⟩])
theorem e42:bO Tryz.prog 42 g42 [] [9,12] []=some (c42,[],26):=by kernel_rfl
def Rg:bC where
 X:=PX
 Y:=Unit
 args:=λx=>.cons (.fown 0 x.v 0) (.cons (.own 1 0) .nil)
 pre:=λx=>x.N x.v=.node x.a x.n x.m x.sz x.mrk/\((x.N x.a=.none/\x.n=0)\/∃A,x.N x.a=.arr A/\A≠[]/\x.n<=A.length)/\Srt (fM x.N x.a x.n)/\x.n<1000000/\x.i∈fM x.N x.a x.n
 h0:=λx=>[(0,.fam λq=>noO 0 (x.N q)),(1,.cells 32 (xK x.t x.i))]
 nx0:=2
 post:=λ_ _=>True
 res:=λ_ _=>.tup .nil
 h1:=λx _=>[(0,.fam λq=>noO 0 (nB x q))]
 nx1:=2
theorem Rh:Rg.Ok Tryz.prog 42:=by
 refine Eng.bC.okR e42 .nil (λ_=>[(43,.m aAm),(44,.m aA1)]) (by grind[aO.m,Qt,aA2,aO.nil]) ?_;rintro⟨N,v,a,n,m,sz,mk,d,t,i⟩ ⟨(hv:N v=.node a n m sz mk),(hl:(N a=.none/\n=0)\/∃A,N a=.arr A/\A≠[]/\n<=A.length),(hs:Srt (fM N a n)),(hn:n<1000000),(hi:i∈fM N a n)⟩;have hlen:(fM N a n).length<=1000000:=by rw[qE hl]; omega
 have hp:eV (fM N a n) i<n:=by grind[zL,qE]
 obtain⟨A,hA,hA0,hA1⟩:∃A,N a=.arr A/\A≠[]/\n<=A.length:=by
  grind
 have hva:v≠a:=by grind
 have e0:fC N a=A:=by grind[fC]
 have g1:-9223372036854775808<=(eV (fM N a n) i:Int)+1:=by omega
 have g2:(eV (fM N a n) i:Int)+1<=9223372036854775807:=by omega
 have hv2:put N a (.arr (vO A n (eV (fM N a n) i))) v=.node a n m sz mk:=(bS hva).trans hv;refine⟨trivial,?_⟩;repeat' (first|apply aA|exact trivial)
 refine aB (noO 0 (.node a n m sz mk)) (aA (congrArg (noO 0) hv) ?_);repeat' (first|apply aA|exact trivial|exact rfl)
 refine aB (fM N a n,i) (aB [] ?_);repeat' (first|exact zP (h:=0) (N:=N) (a:=a) (n:=n) rfl (Is.no 0 (N a)) rfl hl rfl|apply aA|exact trivial|exact rfl|exact hlen|exact hs)
 refine λ(y:Nat×Bool) (hy:y=(eV (fM N a n) i,decide (i∈fM N a n)))=>?_;subst hy;repeat' (first|apply aA|exact trivial)
 refine aB (noO 0 (.node a n m sz mk)) (aA (congrArg (noO 0) hv) ?_);repeat' (first|apply aA|(with_reducible first|exact g1|exact g2))
 refine aB (N,a,A,n,eV (fM N a n) i) (aB [0] ?_);repeat' (first|apply aA|exact trivial|exact rfl|(with_reducible first|exact hA|exact hp|exact hA1)|exact zm N rfl|fail)
 refine λ(_:Unit) (_:True)=>?_;refine aB (rnO [(0,0)] [(0,0)] (noO 0 (.node a n m sz mk))) (aA (by grind) ?_);refine aB () ?_;have e1:n-1=(n-1:Nat):=rfl;repeat' (first|apply aA|exact trivial)
 rw[show nB ⟨N,v,a,n,m,sz,mk,d,t,i⟩=put (put N a (.arr (vO A n (eV (fM N a n) i)))) v (.node a (n-1) m sz mk) by unfold nB; rw[e0]];repeat' (first|exact rF (nG (by exact rfl)) (λi=>mL (by exact rfl) (by exact rfl) _)|fail)
end T7
end
section
set_option maxHeartbeats 10000000
open Go Go.Eng Go.Proofs T1 T2 T3 T4 T5 T6 T7
set_option maxRecDepth 100000
namespace T8
def dv(p:Bool):Int:=bif p then 1 else -1
theorem aEg(p:Bool):(0:Int)+dv p≠0:=by cases p<;>decide
theorem Y8(p:Bool):-1<=dv p:=by cases p<;>decide
theorem Y7(p:Bool):dv p<=1:=by cases p<;>decide
def bump(p:Bool)(N:Nat->NO)(x:Nat):Nat->NO :=
 match N x with
 |.node a n m sz _=>put N x (.node a n m (sz+dv p) [])
 |_=>N
theorem nS{p:Bool}{N:Nat->NO}{x a n m:Nat}{sz:Int}{mk:B}(h:N x=.node a n m sz mk):bump p N x=put N x (.node a n m (sz+dv p) []):=by simp_all[bump]
def Ah(N:Nat->NO)(c x:Nat)(b:UInt8):Nat->NO :=
 match N x with
 |.node _ _ m _ _=>match N m with
  |.map l q=>put (jX N c) m (.map (l++[(fY b,c+1,q)]) (q+1))
  |_=>N
 |_=>N
theorem tE{N:Nat->NO}{c x a n m q:Nat}{sz:Int}{mk:B}{b:UInt8}{l:List (bQ×Nat×Nat)}(h:N x=.node a n m sz mk)(h2:N m=.map l q):Ah N c x b=put (jX N c) m (.map (l++[(fY b,c+1,q)]) (q+1)):=by grind[Ah]
def Iz(N:Nat->NO)(x:Nat)(b:UInt8):Nat->NO :=
 match N x with
 |.node _ _ m _ _=>match N m with
  |.map l q=>put N m (.map (mdel l (fY b)) q)
  |_=>N
 |_=>N
theorem zX{N:Nat->NO}{x a n m q:Nat}{sz:Int}{mk:B}{b:UInt8}{l:List (bQ×Nat×Nat)}(h:N x=.node a n m sz mk)(h2:N m=.map l q):Iz N x b=put N m (.map (mdel l (fY b)) q):=by grind[Iz]
def szN(N:Nat->NO)(x:Nat):Int :=
 match N x with
 |.node _ _ _ sz _=>sz
 |_=>0
theorem H7{N:Nat->NO}{x a n m:Nat}{sz:Int}{mk:B}(h:N x=.node a n m sz mk):szN N x=sz:=by simp_all[szN]
structure CS where
 N:Nat->NO
 c:Nat
 x:Nat
def stN(p:Bool)(s:CS)(b:UInt8):CS :=
 match yR s.N s.x b with
 |none=>⟨Ah s.N s.c s.x b,s.c+3,s.c+1⟩
 |some v=>⟨if szN s.N v+dv p=0 then Iz s.N s.x b else s.N,s.c,v⟩
def chN(p:Bool)(s:CS):B->CS
 | []=>⟨bump p s.N s.x,s.c,s.x⟩
 |b::t=>chN p (stN p ⟨bump p s.N s.x,s.c,s.x⟩ b) t
def Bd(N:Nat->NO)(K:Int):Prop:=∀i a n m sz mk,N i=.node a n m sz mk->-K<=sz/\sz<=K
theorem eI{N:Nat->NO}{j i:Nat}{o o':NO}(h:put N j o i=o'):(i=j/\o'=o)\/(i≠j/\N i=o'):=by
 by_cases e:i=j
 .subst e; rw[dW]at h; simp[*]
 grind[bS]
theorem wM{N:Nat->NO}{j i:Nat}{o:NO}(ho:∃a n m sz mk,o=.node a n m sz mk)(h:isNode N i):isNode (put N j o) i:=by
 obtain⟨a,n,m,sz,mk,rfl⟩:=ho
 grind[dW,isNode,bS]
theorem sN{N:Nat->NO}{x m a n k q:Nat}{sz:Int}{mk:B}{l:List (bQ×Nat×Nat)}(h:N x=.node a n k sz mk)(h2:N m=.map l q):m≠x:=by
 grind
theorem Cl.bump{N:Nat->NO}{c x:Nat}{p:Bool}(h:Cl N c)(hx:isNode N x):Cl (bump p N x) c:=by
 obtain⟨a,n,m,sz,mk,e⟩:=hx;rw[nS e];have hxc:x<c:=h.lt (by simp[*]);refine⟨λi hi=>?_,λi a' n' m' sz' mk' hi=>?_,λi l q hi y hy=>?_,λi a' n' m' sz' mk' hi=>?_,λi a' n' m' sz' mk' hi=>?_,λi j a' n1 m1 sz1 mk1 n2 m2 sz2 mk2 hi hj=>?_,λi l q hi=>?_⟩
 .rw [bS (by omega)]; exact h.free i hi
 .have key:∃a n sz mk i,N i=.node a n m' sz mk:=by
   rcases eI hi with⟨rfl,k⟩|⟨_,k⟩
   .grind
   grind
  obtain⟨a1,n1,sz1,mk1,i1,k⟩:=key;obtain⟨l,q,hm⟩:=h.kids _ _ _ _ _ _ k;exact⟨l,q,by rw[bS (sN e hm)]; exact hm⟩
 .rcases eI hi with⟨rfl,k⟩|⟨_,k⟩
  .cases k
  .obtain ⟨h1,h2⟩:=h.ent _ _ _ k y hy;exact⟨h1,wM ⟨_,_,_,_,_,rfl⟩ h2⟩
 .have key:∃m sz mk i,N i=.node a' n' m sz mk:=by
   rcases eI hi with⟨rfl,k⟩|⟨_,k⟩
   .grind
   grind
  obtain⟨m1,sz1,mk1,i1,k⟩:=key;rcases h.lst _ _ _ _ _ _ k with⟨h1,h2⟩|⟨A,h1,h2⟩
  .exact .inl ⟨by rw[bS (by grind)]; exact h1,h2⟩
  .exact .inr ⟨A,by rw[bS (by grind)]; exact h1,h2⟩
 .rcases eI hi with⟨rfl,k⟩|⟨_,k⟩
  .cases k; exact h.lim _ _ _ _ _ _ e
  .exact h.lim _ _ _ _ _ _ k
 .rcases eI hi with⟨rfl,k⟩|⟨_,k⟩<;>rcases eI hj with⟨rfl,k'⟩|⟨_,k'⟩
  .rfl
  .cases k; exact h.own _ _ _ _ _ _ _ _ _ _ _ e k'
  .cases k'; exact h.own _ _ _ _ _ _ _ _ _ _ _ k e
  .exact h.own _ _ _ _ _ _ _ _ _ _ _ k k'
 .rcases eI hi with⟨rfl,k⟩|⟨_,k⟩
  .cases k
  .exact h.tick _ _ _ k
theorem Cl.map{N:Nat->NO}{c m q q':Nat}{l l':List (bQ×Nat×Nat)}(h:Cl N c)(hm:N m=.map l q)(hl:∀x∈l',x.1.kind=.i .u8/\isNode N x.2.1)(ht:Tk l' q'):Cl (put N m (.map l' q')) c:=by
 have hmc:m<c:=h.lt (by simp[*]);have nd:∀{i},isNode N i->isNode (put N m (.map l' q')) i:=by
  rintro i ⟨a,n,k,sz,mk,e⟩;exact⟨a,n,k,sz,mk,by rw[bS (sN e hm).symm]; exact e⟩
 have bk:∀{i a n k sz mk},put N m (.map l' q') i=.node a n k sz mk->N i=.node a n k sz mk:=by
  intro i a n k sz mk e;rcases eI e with⟨_,k⟩|⟨_,k⟩
  .cases k
  .exact k
 refine⟨λi hi=>?_,λi a n k sz mk hi=>?_,λi l2 q2 hi y hy=>?_,λi a n k sz mk hi=>?_,λi a n k sz mk hi=>h.lim _ _ _ _ _ _ (bk hi),λi j a n1 m1 sz1 mk1 n2 m2 sz2 mk2 hi hj=>h.own _ _ _ _ _ _ _ _ _ _ _ (bk hi) (bk hj),λi l2 q2 hi=>?_⟩
 .rw [bS (by omega)]; exact h.free i hi
 .obtain ⟨l2,q2,e⟩:=h.kids _ _ _ _ _ _ (bk hi)
  grind[dW,bS]
 .rcases eI hi with⟨rfl,k⟩|⟨_,k⟩
  .cases k;obtain⟨h1,h2⟩:=hl y hy;exact⟨h1,nd h2⟩
  .obtain ⟨h1,h2⟩:=h.ent _ _ _ k y hy;exact⟨h1,nd h2⟩
 .rcases h.lst _ _ _ _ _ _ (bk hi) with⟨h1,h2⟩|⟨A,h1,h2⟩
  .exact .inl ⟨by rw[bS (by grind)]; exact h1,h2⟩
  .exact .inr ⟨A,by rw[bS (by grind)]; exact h1,h2⟩
 .rcases eI hi with⟨rfl,k⟩|⟨_,k⟩
  .grind
  .exact h.tick _ _ _ k
theorem Cl.open{N:Nat->NO}{c:Nat}(h:Cl N c):Cl (jX N c) (c+3):=by
 have o1:∀{i},i<c->jX N c i=N i:=λ{i} hi=>by unfold jX; grind[bS]
 have o2:jX N c c=.map [] 0:=by simp_all[jX,bS,dW]
 have o3:jX N c (c+1)=.node (c+2) 0 c 0 []:=by unfold jX; rw[dW]
 have o4:∀{i},c+2<=i->jX N c i=.none:=λ{i} hi=>by unfold jX; rw[bS (by omega),bS (by omega)]; exact h.free i (by omega)
 have lt:∀{i o},N i=o->o≠.none->i<c:=λe ho=>h.lt (by simp[*]);have nd:∀{i},isNode N i->isNode (jX N c) i:=by
  rintro i ⟨a,n,k,sz,mk,e⟩;exact⟨a,n,k,sz,mk,by simp[*]⟩
 have cs:∀i,(i<c/\jX N c i=N i)\/(i=c/\jX N c i=.map [] 0)\/(i=c+1/\jX N c i=.node (c+2) 0 c 0 [])\/jX N c i=.none:=by
  grind
 refine⟨(by grind),λi a n k sz mk hi=>?_,λi l2 q2 hi y hy=>?_,λi a n k sz mk hi=>?_,λi a n k sz mk hi=>?_,λi j a n1 m1 sz1 mk1 n2 m2 sz2 mk2 hi hj=>?_,λi l2 q2 hi=>?_⟩
 .rcases cs i with⟨_,e⟩|⟨_,e⟩|⟨_,e⟩|e<;>rw[e]at hi
  .obtain ⟨l2,q2,e⟩:=h.kids _ _ _ _ _ _ hi;simp[*]
  .cases hi
  .grind
  .cases hi
 .rcases cs i with⟨_,e⟩|⟨_,e⟩|⟨_,e⟩|e<;>rw[e]at hi
  .obtain ⟨h1,h2⟩:=h.ent _ _ _ hi y hy
   grind
  .grind
  .cases hi
  .cases hi
 .rcases cs i with⟨_,e⟩|⟨_,e⟩|⟨_,e⟩|e<;>rw[e]at hi
  .have hl:=h.lim _ _ _ _ _ _ hi;rw[o1 hl];exact h.lst _ _ _ _ _ _ hi
  .cases hi
  .grind
  .cases hi
 .rcases cs i with⟨_,e⟩|⟨_,e⟩|⟨_,e⟩|e<;>rw[e]at hi
  .have:=h.lim _ _ _ _ _ _ hi; omega
  .cases hi
  .grind
  .cases hi
 .rcases cs i with⟨_,e⟩|⟨_,e⟩|⟨h1,e⟩|e<;>rw[e]at hi
  .rcases cs j with⟨_,e⟩|⟨_,e⟩|⟨_,e⟩|e<;>rw[e]at hj
   .exact h.own _ _ _ _ _ _ _ _ _ _ _ hi hj
   .cases hj
   .cases hj; have:=h.lim _ _ _ _ _ _ hi; omega
   .cases hj
  .cases hi
  .rcases cs j with⟨_,e⟩|⟨_,e⟩|⟨h2,e⟩|e<;>rw[e]at hj
   .cases hi; have:=h.lim _ _ _ _ _ _ hj; omega
   .cases hj
   .rw [h1,h2]
   .cases hj
  .cases hi
 .rcases cs i with⟨_,e⟩|⟨_,e⟩|⟨_,e⟩|e<;>rw[e]at hi
  .exact h.tick _ _ _ hi
  .cases hi; exact⟨(by grind),List.nodup_nil⟩
  .cases hi
  .cases hi
theorem Au{V:Type}{l:List (bQ×V×Nat)}{k:bQ}{x:bQ×V×Nat}(h:x∈mdel l k):x∈l:=by
 induction l with
 |nil=>exact h
 |cons y r ih =>
  simp only[mdel]at h
  grind
theorem J1{V:Type}{k:bQ}:∀{l:List (bQ×V×Nat)},(l.map (·.2.2)).Nodup->((mdel l k).map (·.2.2)).Nodup:=by
 intro l;induction l with
 |nil=>intro h; exact h
 |cons y r ih =>
  intro h;simp only[mdel];simp only[bK,fQ]at h;split
  .exact h.2
  .simp only [bK,fQ];refine⟨λhm=>h.1 ?_,ih h.2⟩;obtain⟨z,hz,e⟩:=cD.1 hm
   grind[Au]
theorem Cl.cut{N:Nat->NO}{c x:Nat}{b:UInt8}(h:Cl N c)(hx:isNode N x):Cl (Iz N x b) c:=by
 obtain⟨a,n,m,sz,mk,e⟩:=hx;obtain⟨l,q,hm⟩:=h.kids _ _ _ _ _ _ e;rw[zX e hm];exact Cl.map h hm (λy hy=>h.ent _ _ _ hm y (Au hy)) ⟨λy hy=>(h.tick _ _ _ hm).1 y (Au hy),J1 (h.tick _ _ _ hm).2⟩
theorem tM{N:Nat->NO}{c i:Nat}(hi:i<c):jX N c i=N i:=by unfold jX; grind[bS]
theorem wI{N:Nat->NO}{c:Nat}:jX N c (c+1)=.node (c+2) 0 c 0 []:=by unfold jX; rw[dW]
theorem Cl.grow{N:Nat->NO}{c x:Nat}{b:UInt8}(h:Cl N c)(hx:isNode N x):Cl (Ah N c x b) (c+3):=by
 obtain⟨a,n,m,sz,mk,e⟩:=hx;obtain⟨l,q,hm⟩:=h.kids _ _ _ _ _ _ e;rw[tE e hm];have hmc:m<c:=h.lt (by simp[*]);have hm':jX N c m=.map l q:=(tM hmc).trans hm;have ho:=Cl.open h;have ht:=h.tick _ _ _ hm;refine Cl.map ho hm' (λy hy=>?_) ⟨λy hy=>?_,?_⟩
 .rcases bT.1 hy with hy|hy
  .exact ho.ent _ _ _ hm' y hy
  .obtain rfl:=eS.1 hy;exact⟨rfl,_,_,_,_,_,wI⟩
 .rcases bT.1 hy with hy|hy
  .exact Nat.lt_succ_of_lt (ht.1 y hy)
  grind
 .rw [eD,List.nodup_append];refine⟨ht.2,by simp,λu hu v hv=>?_⟩;obtain⟨z,hz,rfl⟩:=cD.1 hu;obtain rfl:=eS.1 hv;exact Nat.ne_of_lt (ht.1 z hz)
structure Ok(s:CS)(K:Int):Prop where
 cl:Cl s.N s.c
 nd:isNode s.N s.x
 bd:Bd s.N K
theorem Ok.bump{s:CS}{K:Int}{p:Bool}(h:Ok s K):Ok ⟨bump p s.N s.x,s.c,s.x⟩ (K+1):=by
 obtain⟨a,n,m,sz,mk,e⟩:=h.nd;refine⟨Cl.bump h.cl h.nd,?_,?_⟩
 .simp_all [isNode,T8.bump,dW]
 .show Bd (T8.bump p s.N s.x) (K+1);rw[nS e];intro i a' n' m' sz' mk' hi;have:=Y8 p;have:=Y7 p;rcases eI hi with⟨rfl,k⟩|⟨_,k⟩
  .cases k;have:=h.bd _ _ _ _ _ _ e;omega
  .have:=h.bd _ _ _ _ _ _ k;omega
theorem Ok.step{s:CS}{K:Int}{p:Bool}(h:Ok s K)(hK:0<=K)(b:UInt8):Ok (stN p s b) K:=by
 obtain⟨a,n,m,sz,mk,e⟩:=h.nd;obtain⟨l,q,hm⟩:=h.cl.kids _ _ _ _ _ _ e;have hmc:m<s.c:=h.cl.lt (by simp[*]);unfold stN;split
 .refine ⟨Cl.grow h.cl h.nd,?_,?_⟩
  .show isNode (Ah s.N s.c s.x b) (s.c+1);rw[tE e hm];exact⟨_,_,_,_,_,by rw[bS (by omega)]; exact wI⟩
  .show Bd (Ah s.N s.c s.x b) K;rw[tE e hm];intro i a' n' m' sz' mk' hi;rcases eI hi with⟨_,k⟩|⟨_,k⟩
   .cases k
   .unfold jX at k;rcases eI k with⟨_,k⟩|⟨_,k⟩
    .grind
    .rcases eI k with⟨_,k⟩|⟨_,k⟩
     .cases k
     .exact h.bd _ _ _ _ _ _ k
 .rename_i v hv;have hvn:=h.cl.kid hv;by_cases h0:szN s.N v+dv p=0
  .rw [if_pos h0];refine⟨Cl.cut h.cl h.nd,?_,?_⟩
   .obtain ⟨a1,n1,m1,sz1,mk1,e1⟩:=hvn;show isNode (Iz s.N s.x b) v;rw[zX e hm];exact⟨_,_,_,_,_,by rw[bS (sN e1 hm).symm]; exact e1⟩
   .show Bd (Iz s.N s.x b) K;rw[zX e hm];intro i a' n' m' sz' mk' hi;rcases eI hi with⟨_,k⟩|⟨_,k⟩
    .cases k
    .exact h.bd _ _ _ _ _ _ k
  .rw [if_neg h0];exact⟨h.cl,hvn,h.bd⟩
end T8
end
