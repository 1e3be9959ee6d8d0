/- A part of the proof. -/
import Derived.Test.YtijddkljgihcnaaGreatDoorS1
import Derived.Test.YtijddkljgihcnaaGreatDoorS39
import Derived.Test.YtijddkljgihcnaaGreatDoorVO
import Derived.Test.YtijddkljgihcnaaGreatDoorS40
import Derived.Test.YtijddkljgihcnaaGreatDoorS13
section
section
namespace B1
open Classical in
attribute [local irreducible] fst
attribute [local irreducible] dst
theorem Vq {E:Nat->Nat->Prop} {i k:Nat} (e:E i k) (a:Nat):dst E a k<=dst E a i+1:=by
 have:=Ks (E:=E) a k i
 have:=mJ (W.one e)
 omega
theorem Vy {E:Nat->Nat->Prop} {a b n:Nat} (h:dst E a b=n+1) (hn:n < 63):∃ c,E c b/\dst E a c=n:=by
 have:=fA (E:=E) (a:=a) (b:=b) (by omega)
 rw [h] at this
 obtain ⟨c,h1,h2⟩:=this
 have h3:=mJ h1
 have h4:=Vq h2 a
 exact ⟨c,h2,by omega⟩
theorem Vx {E:Nat->Nat->Prop} (hs:∀ a b,E a b->E b a) {a b n:Nat} (h:dst E a b=n+1) (hn:n < 63):∃ c,E a c/\dst E c b=n:=by
 rw [Kr hs] at h
 obtain ⟨c,h1,h2⟩:=Vy h hn
 exact ⟨c,hs _ _ h1,by rw [Kr hs]; exact h2⟩
end B1
end
section
open G4 G7 EV0 B1 B2 B3 S1 S4 S5 S6 S7 S8 S9
namespace PL
attribute [local irreducible] dst
theorem Vz (g:Nat->Int):∀ k,mnI g k<=k/\(∀ j,j<=k->g (mnI g k)<=g j)/\∀ j,j < mnI g k->g (mnI g k) < g j:=by
 intro k
 induction k with
 | zero=>exact ⟨Nat.le_refl _,fun j hj=>by rw [show j=0 by omega]; exact Int.le_refl _,fun j hj=>absurd hj (Nat.not_lt_zero j)⟩
 | succ k ih =>
  obtain ⟨h1,h2,h3⟩:=ih
  unfold mnI
  split
  ·rename_i h
   refine ⟨Nat.le_refl _,fun j hj=>?_,fun j hj=>?_⟩
   ·by_cases e:j=k+1
    ·rw [e]; exact Int.le_refl _
    ·have:=h2 j (by omega); omega
   ·have:=h2 j (by omega); omega
  ·rename_i h
   refine ⟨by omega,fun j hj=>?_,h3⟩
   by_cases e:j=k+1
   ·rw [e]; omega
   ·exact h2 j (by omega)
theorem V8 {l:Sq Of} (h:vdV l=true) {a b n:Nat} (ha:a < l.n) (hb:b < l.n) (hd:dst (EO l) a b=n+1) :
  ∃ q,q < (l.f a).links.n/\Bs l (a:Int) (b:Int)=(l.f a).links.f q/\dst (EO l) ((l.f a).links.f q).toNat b=n/\∀ j,j < q->dst (EO l) ((l.f a).links.f j).toNat b≠n:=by
 have v:=pM.1 h
 have hf:=v.far ha hb
 have h64:=v.n64
 obtain ⟨c,hc,hcd⟩:=Vx (E:=EO l) (fun _ _=>v.sym) hd (by omega)
 obtain ⟨_,p,hp,ep⟩:=hc
 obtain ⟨m1,m2,m3⟩:=Vz (fun i=>(dst (EO l) b ((l.f a).links.f i).toNat:Int)) ((l.f a).links.n - 1)
 refine ⟨mnI (fun i=>(dst (EO l) b ((l.f a).links.f i).toNat:Int)) ((l.f a).links.n - 1),by omega,rfl,?_,fun j hj e=>?_⟩
 ·have h1:=m2 p (by omega)
  have hq:mnI (fun i=>(dst (EO l) b ((l.f a).links.f i).toNat:Int)) ((l.f a).links.n - 1) < (l.f a).links.n:=by omega
  generalize mnI (fun i=>(dst (EO l) b ((l.f a).links.f i).toNat:Int)) ((l.f a).links.n - 1)=q at h1 hq
  have hr:=v.rng ha hq
  have hE:EO l a ((l.f a).links.f q).toNat:=⟨ha,q,hq,by omega⟩
  have h2:=Vq (v.sym hE) b
  rw [v.dsym b] at h2
  simp only [ep] at h1
  rw [show ((c:Int)).toNat=c from rfl,v.dsym b c,hcd] at h1
  rw [v.dsym _ b]
  omega
 ·have h1:=m2 p (by omega)
  have h3:=m3 j hj
  simp only [ep] at h1
  rw [show ((c:Int)).toNat=c from rfl,v.dsym b c,hcd] at h1
  have:dst (EO l) b ((l.f a).links.f j).toNat=n:=by rw [v.dsym]; exact e
  simp only [this] at h3
  generalize mnI (fun i=>(dst (EO l) b ((l.f a).links.f i).toNat:Int)) ((l.f a).links.n - 1)=q at h1 h3 m1 hj
  have hq:q < (l.f a).links.n:=by omega
  have hr:=v.rng ha hq
  have hE:EO l a ((l.f a).links.f q).toNat:=⟨ha,q,hq,by omega⟩
  have h2:=Vq (v.sym hE) b
  rw [v.dsym b] at h2
  omega
theorem V0 {l:Sq Of} (h:vdV l=true) {a b n:Nat} (ha:a < l.n) (hb:b < l.n) (hd:dst (EO l) a b=n+1) :
  ∃ c:Nat,Bs l (a:Int) (b:Int)=(c:Int)/\c < l.n/\orB (fun q=>decide ((l.f a).links.f q=(c:Int))) (l.f a).links.n=true/\dst (EO l) c b=n /\
   ∀ i,i < (l.f a).links.n->(l.f a).links.f i<=(c:Int)->∃ k:Nat,(l.f a).links.f i=(k:Int)/\k < l.n/\(dst (EO l) k b=n ↔ k=c):=by
 have v:=pM.1 h
 obtain ⟨q,hq,e,h1,h2⟩:=V8 h ha hb hd
 have hr:=v.rng ha hq
 obtain ⟨c,hc⟩:∃ c:Nat,(l.f a).links.f q=(c:Int):=⟨((l.f a).links.f q).toNat,by omega⟩
 rw [hc] at h1 e hr
 refine ⟨c,e,by omega,aP.2 ⟨q,hq,decide_eq_true hc⟩,h1,fun i hi hle=>?_⟩
 have hri:=v.rng ha hi
 obtain ⟨k,hk⟩:∃ k:Nat,(l.f a).links.f i=(k:Int):=⟨((l.f a).links.f i).toNat,by omega⟩
 rw [hk] at hri hle
 refine ⟨k,hk,by omega,?_⟩
 have hiq:i<=q:=by
  apply Classical.byContradiction
  intro hn
  have:=v.inc ha (p:=q) (q:=i) (by omega) hi
  omega
 constructor
 ·intro e2
  by_cases e3:i=q
  ·subst e3; omega
  ·have:=h2 i (by omega)
   rw [hk] at this
   exact absurd e2 this
 ·intro e2; rw [e2]; exact h1
end PL
end
section
namespace VO
open Go Go.Eng Go.Proofs Go.RowKit Go.ChangeShapes Go.WideShapes G1 G3 EV0 S1 S9 S10 S35
set_option maxRecDepth 100000
section
variable {H:Type} {enc:TypeId×Value->H} {W:World} {base:Nat} {sp:Nat->Bool} {held:Bool} {r:Reach} {b0:Nat} {v:Value} {d:DataW H} {ps:List MemPlace}
end
section
variable {H:Type} {enc:TypeId×Value->H} {P:Program} {w:World} {base:Nat} {spare:Nat->Bool} {held:Bool}
theorem Vw {t1 t2 t3:TypeId} {args:Array Value} {ds:List (DataW H)} {ps:List MemPlace} (h:DataW.TrodAll enc P w base spare held [t1,t2,t3] args.toList ds ps) :
  ∃ v1 v2 v3 d1 d2 d3 p1 p2 p3,args=#[v1,v2,v3]/\ds=[d1,d2,d3]/\DataW.Trod enc P w base spare held t1 v1 d1 p1/\DataW.Trod enc P w base spare held t2 v2 d2 p2/\DataW.Trod enc P w base spare held t3 v3 d3 p3:=by
 obtain ⟨v1,vs1,d1,ds1,p1,q1,hargs,rfl,rfl,h1,r1⟩:=trodAll_cons h
 obtain ⟨v2,vs2,d2,ds2,p2,q2,rfl,rfl,rfl,h2,r2⟩:=trodAll_cons r1
 obtain ⟨v3,vs3,d3,ds3,p3,q3,rfl,rfl,rfl,h3,r3⟩:=trodAll_cons r2
 obtain ⟨rfl,rfl,rfl⟩:=trodAll_nil r3
 exact ⟨v1,v2,v3,d1,d2,d3,p1,p2,p3,by cases args; simp_all,rfl,h1,h2,h3⟩
end
end VO
end
end
section
open Go Go.Eng Go.Proofs G7 G4 EV0 B1 B2 S1 S2 S3 S4 S5 S6 S7 S9 PL PL2 S40
namespace S46
attribute [local irreducible] dst
noncomputable def Vt (l:Sq Of) (a b:Int):Int×Int:=(eG l a b,if dD l a b=true then 0 else 1)
noncomputable def V9:Eng.bX:=K6.mof (Int×Int) (fun x y=>y=Vt x.1 x.2.1 x.2.2) (fun _ y=>.tup (.cons (.int .i64 y.1) (.cons (.int .i64 y.2) .nil)))
theorem V1:V9.Ok Tryz.prog 12:=Eng.Spec.Bm He fun x _=>⟨Vt x.1 x.2.1 x.2.2,rfl,rfl⟩
theorem Vu {l:Sq Of} (h:vdV l=true) {a b:Nat} (ha:a < l.n) (hb:b < l.n):Vt l (a:Int) (b:Int)=((dst (EO l) a b:Int),0):=by
 unfold Vt
 rw [jF h ha hb,if_pos (wB h ha hb)]
end S46
end
