/- A part. -/
import Derived.Test.YtijddkljgihcnaaGreatDoorS1
import Derived.Test.YtijddkljgihcnaaGreatDoorS39
import Derived.Test.YtijddkljgihcnaaGreatDoorVO
import Derived.Test.YtijddkljgihcnaaGreatDoorS40
import Derived.Test.YtijddkljgihcnaaGreatDoorS13
section
section
namespace B1
open Classical in
attribute [local irreducible] fst
attribute [local irreducible] dst
theorem Vw {E:Nat->Nat->Prop} {i k:Nat} (e:E i k) (a:Nat):dst E a k<=dst E a i+1:=by
 have:=Ks (E:=E) a k i
 have:=mJ (W.one e)
 omega
def Add (E:Nat->Nat->Prop) (a b:Nat):Nat->Nat->Prop:=fun i k=>E i k\/(i=a/\k=b)\/(i=b/\k=a)
theorem Vz {E:Nat->Nat->Prop} (a b c d:Nat):dst (Add E a b) c d=min (dst E c d) (min (dst E c a+1+dst E b d) (dst E c b+1+dst E a d)):=by
 have up:∀ x y,dst (Add E a b) x y<=dst E x y:=fun x y=>by
  by_cases h:dst E x y < 64
  ·exact mJ ((fA h).mono fun _ _=>.inl)
  ·have:=jA (Add E a b) x y; omega
 have ab:dst (Add E a b) a b<=1:=mJ (W.one (.inr (.inl ⟨rfl,rfl⟩)))
 have ba:dst (Add E a b) b a<=1:=mJ (W.one (.inr (.inr ⟨rfl,rfl⟩)))
 have u1:=up c d
 have u2:=Ks (E:=Add E a b) c d a
 have u3:=Ks (E:=Add E a b) a d b
 have u4:=up c a
 have u5:=up b d
 have v2:=Ks (E:=Add E a b) c d b
 have v3:=Ks (E:=Add E a b) b d a
 have v4:=up c b
 have v5:=up a d
 have low:min (dst E c d) (min (dst E c a+1+dst E b d) (dst E c b+1+dst E a d))<=dst (Add E a b) c d:=by
  by_cases h:dst (Add E a b) c d < 64
  ·refine (fA h).le (g:=fun k=>min (dst E c k) (min (dst E c a+1+dst E b k) (dst E c b+1+dst E a k))) ?_ ?_
   ·have:=xK E c
    show min _ _=0
    omega
   ·rintro i k (e|⟨rfl,rfl⟩|⟨rfl,rfl⟩)
    ·have h1:=Vw e c
     have h2:=Vw e a
     have h3:=Vw e b
     show min _ _<=min _ _+1
     omega
    ·have h1:=xK E k
     have h2:=xK E i
     show min _ _<=min _ _+1
     omega
    ·have h1:=xK E k
     have h2:=xK E i
     show min _ _<=min _ _+1
     omega
  ·have:=jA E c d; omega
 omega
end B1
end
section
open G4 G7 EV0 B1 B2 B3 S1 S4 S5 S6 S7 S8 S9 PL
namespace PL2
attribute [local irreducible] dst
def flt (p:Int->Bool) (s:Sq Int):Nat->List Int
 | 0=>[]
 | i+1=>if p (s.f i)=true then flt p s i++[s.f i] else flt p s i
theorem Vv (p:Int->Bool) (s:Sq Int):∀ i,(flt p s i).length<=i:=by
 intro i
 induction i with
 | zero=>exact Nat.le_refl _
 | succ i ih =>
  unfold flt
  split
  ·rw [List.length_append,List.length_singleton]; omega
  ·omega
theorem Vp {p:Int->Bool} {s:Sq Int} {z:Int}:∀ {i:Nat},z∈flt p s i ↔ (∃ j,j < i/\s.f j=z)/\p z=true:=by
 intro i
 induction i with
 | zero=>exact ⟨fun h=>absurd h (List.not_mem_nil),fun ⟨⟨j,h,_⟩,_⟩=>absurd h (Nat.not_lt_zero j)⟩
 | succ i ih =>
  unfold flt
  constructor
  ·intro h
   split at h
   ·rename_i hp
    rcases List.mem_append.1 h with h|h
    ·obtain ⟨⟨j,h1,h2⟩,h3⟩:=ih.1 h; exact ⟨⟨j,by omega,h2⟩,h3⟩
    ·have e:=List.mem_singleton.1 h; exact ⟨⟨i,by omega,e.symm⟩,by rw [e]; exact hp⟩
   ·obtain ⟨⟨j,h1,h2⟩,h3⟩:=ih.1 h; exact ⟨⟨j,by omega,h2⟩,h3⟩
  ·rintro ⟨⟨j,h1,h2⟩,h3⟩
   by_cases e:j=i
   ·subst e; rw [h2,if_pos h3]; exact List.mem_append_right _ (List.mem_singleton.2 rfl)
   ·have:=ih.2 ⟨⟨j,by omega,h2⟩,h3⟩
    split
    ·exact List.mem_append_left _ this
    ·exact this
theorem V0 {p:Int->Bool} {s:Sq Int} (hs:∀ a b,a < b->b < s.n->s.f a < s.f b):∀ {i:Nat},i<=s.n->(flt p s i).Pairwise (· < ·):=by
 intro i
 induction i with
 | zero=>intro _; exact List.Pairwise.nil
 | succ i ih =>
  intro hi
  unfold flt
  have h1:=ih (by omega)
  split
  ·refine List.pairwise_append.2 ⟨h1,List.pairwise_singleton _ _,fun a ha b hb=>?_⟩
   rw [List.mem_singleton.1 hb]
   obtain ⟨⟨j,h2,h3⟩,_⟩:=Vp.1 ha
   rw [<- h3]
   exact hs j i h2 (by omega)
  ·exact h1
def wiV (s:Sq Int) (n:Int):List Int:=(flt (fun z=>decide (z < n)) s s.n++[n])++flt (fun z=>decide (n < z)) s s.n
def sqL (l:List Int):Sq Int:=⟨l.length,fun i=>l.getD i 0⟩
theorem Vs {s:Sq Int} {n z:Int}:z∈wiV s n ↔ z=n\/∃ j,j < s.n/\s.f j=z:=by
 unfold wiV
 rw [List.mem_append,List.mem_append,Vp,Vp,List.mem_singleton]
 constructor
 ·rintro ((⟨h,_⟩|h)|⟨h,_⟩)
  ·exact .inr h
  ·exact .inl h
  ·exact .inr h
 ·rintro (h|h)
  ·exact .inl (.inr h)
  ·by_cases e:z < n
   ·exact .inl (.inl ⟨h,decide_eq_true e⟩)
   ·by_cases e2:z=n
    ·exact .inl (.inr e2)
    ·exact .inr ⟨h,decide_eq_true (by omega)⟩
theorem Wa {s:Sq Int} {n:Int} (hs:∀ a b,a < b->b < s.n->s.f a < s.f b):(wiV s n).Pairwise (· < ·):=by
 unfold wiV
 refine List.pairwise_append.2 ⟨List.pairwise_append.2 ⟨V0 hs (Nat.le_refl _),List.pairwise_singleton _ _,fun a ha b hb=>?_⟩,V0 hs (Nat.le_refl _),fun a ha b hb=>?_⟩
 ·rw [List.mem_singleton.1 hb]; exact of_decide_eq_true (Vp.1 ha).2
 ·have hb:=of_decide_eq_true (Vp.1 hb).2
  rcases List.mem_append.1 ha with ha|ha
  ·have:=of_decide_eq_true (Vp.1 ha).2; omega
  ·rw [List.mem_singleton.1 ha]; exact hb
theorem Vy (s:Sq Int) (n:Int):1<=(wiV s n).length/\(wiV s n).length<=2 * s.n+1:=by
 have h1:=Vv (fun z=>decide (z < n)) s s.n
 have h2:=Vv (fun z=>decide (n < z)) s s.n
 unfold wiV
 simp only [List.length_append,List.length_singleton]
 omega
theorem Vr {L:List Int} {z:Int}:(∃ j,j < (sqL L).n/\(sqL L).f j=z) ↔ z∈L:=by
 constructor
 ·rintro ⟨j,h1,h2⟩
  have h1:j < L.length:=h1
  have h2:L.getD j 0=z:=h2
  rw [List.getD_eq_getElem?_getD,List.getElem?_eq_getElem h1] at h2
  rw [<- h2]
  exact List.getElem_mem h1
 ·intro h
  obtain ⟨j,h1,h2⟩:=List.getElem_of_mem h
  refine ⟨j,h1,?_⟩
  show L.getD j 0=z
  rw [List.getD_eq_getElem?_getD,List.getElem?_eq_getElem h1]
  exact h2
theorem V1 {L:List Int} (h:L.Pairwise (· < ·)) (h0:∀ z∈L,0<=z) (j:Nat) (hj:j < (sqL L).n):lst (sqL L) j < (sqL L).f j:=by
 have hj:j < L.length:=hj
 unfold lst
 have e:(sqL L).f j=L[j]:=by
  show L.getD j 0=_
  rw [List.getD_eq_getElem?_getD,List.getElem?_eq_getElem hj]; rfl
 split
 ·have:=h0 _ (List.getElem_mem hj); rw [e]; omega
 ·have hj1:j - 1 < L.length:=by omega
  have e1:(sqL L).f (j - 1)=L[j - 1]:=by
   show L.getD (j - 1) 0=_
   rw [List.getD_eq_getElem?_getD,List.getElem?_eq_getElem hj1]; rfl
  rw [e,e1]
  exact List.pairwise_iff_getElem.1 h _ _ hj1 hj (by omega)
def nwO (l:Sq Of) (a b:Nat):Sq Of:=⟨l.n,fun i=>if i=b then ⟨sqL (wiV (l.f b).links (a:Int)),(l.f b).codes⟩ else if i=a then ⟨sqL (wiV (l.f a).links (b:Int)),(l.f a).codes⟩ else l.f i⟩
theorem Wh {l:Sq Of} {a b:Nat} (ha:a < l.n) (hb:b < l.n) (hab:a≠b):EO (nwO l a b)=B1.Add (EO l) a b:=by
 have key:∀ i k,EO (nwO l a b) i k ↔ B1.Add (EO l) a b i k:=by
  intro i k
  have hi:(nwO l a b).n=l.n:=rfl
  by_cases e:i=b
  ·subst e
   have e1:(nwO l a i).f i=⟨sqL (wiV (l.f i).links (a:Int)),(l.f i).codes⟩:=if_pos rfl
   unfold EO B1.Add
   rw [e1,hi]
   constructor
   ·rintro ⟨_,h⟩
    rcases Vs.1 (Vr.1 h) with h|h
    ·exact .inr (.inr ⟨rfl,by omega⟩)
    ·exact .inl ⟨hb,h⟩
   ·rintro (⟨_,h⟩|⟨h,_⟩|⟨_,h⟩)
    ·exact ⟨hb,Vr.2 (Vs.2 (.inr h))⟩
    ·exact absurd h.symm hab
    ·exact ⟨hb,Vr.2 (Vs.2 (.inl (by omega)))⟩
  ·by_cases e2:i=a
   ·subst e2
    have e1:(nwO l i b).f i=⟨sqL (wiV (l.f i).links (b:Int)),(l.f i).codes⟩:=by
     show (if i=b then _ else if i=i then _ else _)=_
     rw [if_neg e,if_pos rfl]
    unfold EO B1.Add
    rw [e1,hi]
    constructor
    ·rintro ⟨_,h⟩
     rcases Vs.1 (Vr.1 h) with h|h
     ·exact .inr (.inl ⟨rfl,by omega⟩)
     ·exact .inl ⟨ha,h⟩
    ·rintro (⟨_,h⟩|⟨_,h⟩|⟨h,_⟩)
     ·exact ⟨ha,Vr.2 (Vs.2 (.inr h))⟩
     ·exact ⟨ha,Vr.2 (Vs.2 (.inl (by omega)))⟩
     ·exact absurd h e
   ·have e1:(nwO l a b).f i=l.f i:=by
     show (if i=b then _ else if i=a then _ else _)=_
     rw [if_neg e,if_neg e2]
    unfold EO B1.Add
    rw [e1,hi]
    constructor
    ·exact .inl
    ·rintro (h|⟨h,_⟩|⟨h,_⟩)
     ·exact h
     ·exact absurd h e2
     ·exact absurd h e
 funext i k
 exact propext (key i k)
theorem Wp {l:Sq Of} (h:vdV l=true) {a b:Nat} (ha:a < l.n) (hb:b < l.n) (hab:a≠b):vdV (nwO l a b)=true:=by
 have v:=pM.1 h
 have hE:=Wh ha hb hab
 have hi:(nwO l a b).n=l.n:=rfl
 have inc:∀ i,i < l.n->∀ p q,p < q->q < (l.f i).links.n->(l.f i).links.f p < (l.f i).links.f q:=fun i hi p q=>v.inc hi
 have pos:∀ i k,i < l.n->∀ z∈wiV (l.f i).links ((k:Nat):Int),0<=z:=fun i k hi z hz=>by
  rcases Vs.1 hz with e|⟨j,h1,h2⟩
  ·omega
  ·have:=(v.rng hi h1).1; omega
 have cases3:∀ P:Of->Prop,∀ i,(i=b->P ⟨sqL (wiV (l.f b).links (a:Int)),(l.f b).codes⟩)->(i=a->P ⟨sqL (wiV (l.f a).links (b:Int)),(l.f a).codes⟩)->P (l.f i)->P ((nwO l a b).f i):=fun P i h1 h2 h3=>by
  show P (if i=b then _ else if i=a then _ else _)
  split
  ·rename_i e; exact h1 e
  ·split
   ·rename_i e; exact h2 e
   ·exact h3
 refine pM.2 (Vd.mk' v.n1 v.n64 ?_ ?_ ?_ ?_ ?_)
 ·intro i hi
  refine cases3 (fun o=>∀ j,j < o.links.n->lst o.links j < o.links.f j) i (fun _=>?_) (fun _=>?_) (fun j hj=>(v.lk i hi j hj).1)
  ·exact V1 (Wa (inc b hb)) (pos b a hb)
  ·exact V1 (Wa (inc a ha)) (pos a b ha)
 ·intro i k e
  rw [hE] at e ⊢
  rcases e with e|⟨rfl,rfl⟩|⟨rfl,rfl⟩
  ·exact ⟨v.lt e,fun h=>v.irr (h ▸ e),.inl (v.sym e)⟩
  ·exact ⟨hb,fun h=>hab h.symm,.inr (.inr ⟨rfl,rfl⟩)⟩
  ·exact ⟨ha,hab,.inr (.inl ⟨rfl,rfl⟩)⟩
 ·intro i hi
  exact cases3 (fun o=>orB (coB o.codes) o.codes.n=false) i (fun _=>v.co b hb) (fun _=>v.co a ha) (v.co i hi)
 ·intro i hi h0
  refine cases3 (fun o=>o.links.n≠0) i (fun _=>?_) (fun _=>?_) (v.one i hi h0)
  ·have:=(Vy (l.f b).links (a:Int)).1; exact fun e=>by have e:(wiV (l.f b).links (a:Int)).length=0:=e; omega
  ·have:=(Vy (l.f a).links (b:Int)).1; exact fun e=>by have e:(wiV (l.f a).links (b:Int)).length=0:=e; omega
 ·intro i hi
  rw [hE]
  have h1:=v.con i hi
  have h2:=jA (EO l) 0 i
  have h3:=Vz (E:=EO l) a b 0 i
  omega
end PL2
end
section
namespace VO
open Go Go.Eng Go.Proofs Go.RowKit Go.ChangeShapes Go.WideShapes G1 G3 EV0 S1 S9 S10 S35
set_option maxRecDepth 100000
section
variable {H:Type} {enc:TypeId×Value->H} {W:World} {base:Nat} {sp:Nat->Bool} {held:Bool} {r:Reach} {b0:Nat} {v:Value} {d:DataW H} {ps:List MemPlace}
end
section
variable {H:Type} {enc:TypeId×Value->H} {P:Program} {w:World} {base:Nat} {spare:Nat->Bool} {held:Bool}
theorem V8 {t1 t2 t3 t4 t5:TypeId} {args:Array Value} {ds:List (DataW H)} {ps:List MemPlace} (h:DataW.TrodAll enc P w base spare held [t1,t2,t3,t4,t5] args.toList ds ps) :
  ∃ v1 v2 v3 v4 v5 d1 d2 d3 d4 d5 p1 p2 p3 p4 p5,args=#[v1,v2,v3,v4,v5]/\ds=[d1,d2,d3,d4,d5]/\DataW.Trod enc P w base spare held t1 v1 d1 p1/\DataW.Trod enc P w base spare held t2 v2 d2 p2/\DataW.Trod enc P w base spare held t3 v3 d3 p3/\DataW.Trod enc P w base spare held t4 v4 d4 p4/\DataW.Trod enc P w base spare held t5 v5 d5 p5:=by
 obtain ⟨v1,vs1,d1,ds1,p1,q1,hargs,rfl,rfl,h1,r1⟩:=trodAll_cons h
 obtain ⟨v2,vs2,d2,ds2,p2,q2,rfl,rfl,rfl,h2,r2⟩:=trodAll_cons r1
 obtain ⟨v3,vs3,d3,ds3,p3,q3,rfl,rfl,rfl,h3,r3⟩:=trodAll_cons r2
 obtain ⟨v4,vs4,d4,ds4,p4,q4,rfl,rfl,rfl,h4,r4⟩:=trodAll_cons r3
 obtain ⟨v5,vs5,d5,ds5,p5,q5,rfl,rfl,rfl,h5,r5⟩:=trodAll_cons r4
 obtain ⟨rfl,rfl,rfl⟩:=trodAll_nil r5
 exact ⟨v1,v2,v3,v4,v5,d1,d2,d3,d4,d5,p1,p2,p3,p4,p5,by cases args; simp_all,rfl,h1,h2,h3,h4,h5⟩
end
end VO
end
end
section
open Go Go.Eng Go.Proofs G7 G4 EV0 B1 B2 S1 S2 S3 S4 S5 S6 S7 S9 PL PL2 S40
namespace S46
attribute [local irreducible] dst
noncomputable def Vx (l:Sq Of) (a b:Int):Int×Int:=(eG l a b,if dD l a b=true then 0 else 1)
noncomputable def Wn:Eng.bX:=K6.mof (Int×Int) (fun x y=>y=Vx x.1 x.2.1 x.2.2) (fun _ y=>.tup (.cons (.int .i64 y.1) (.cons (.int .i64 y.2) .nil)))
theorem Wb:Wn.Ok Tryz.prog 12:=Eng.Spec.Bm He fun x _=>⟨Vx x.1 x.2.1 x.2.2,rfl,rfl⟩
theorem Vq {l:Sq Of} (h:vdV l=true) {a b:Nat} (ha:a < l.n) (hb:b < l.n):Vx l (a:Int) (b:Int)=((dst (EO l) a b:Int),0):=by
 unfold Vx
 rw [jF h ha hb,if_pos (wB h ha hb)]
end S46
end
section
open Go Go.Eng Go.Proofs G7 G4 L3 L10 G1 G3 EV0 B1 B2 S1 S2 S3 S4 S5 S6 S7 S9 PL PL2
set_option maxRecDepth 100000
namespace S34
theorem Mx {T:Type} {c:T->SV} {l:List T} {a d:T} {e:Nat->SV} (he:e 0=c a) {j:Nat} (hj:j < l.length+1):cQ l.length (fun j=>c (l.getD j d)) e j=c ((l++[a]).getD j d):=by
 unfold cQ
 by_cases h:j < l.length
 ·rw [show Nat.blt j l.length=true from Nat.ble_eq_true_of_le h,cond_true]
  show c (l.getD j d)=_
  rw [List.getD_eq_getElem?_getD,List.getD_eq_getElem?_getD,List.getElem?_append_left h]
 ·have hb:Nat.blt j l.length=false:=by
   cases hb:Nat.blt j l.length with
   | false=>rfl
   | true=>exact absurd (Nat.le_of_ble_eq_true hb) h
  rw [hb,cond_false,show j - l.length=0 by omega,he,show j=l.length by omega]
  simp [List.getD_eq_getElem?_getD]
theorem ap {K:Keep} {hp:List (Nat×aG)} {m:Nat} {A C:List Int} {z:Int} {e:Nat->SV} (ea:C=A++[z]) (he:e 0=inL z):∀ j,j < A.length+1->qE K (sub K hp (m+3)) (cQ A.length (fun j=>inL (A.getD j 0)) e j) (inL (C.getD j 0)):=fun j hj=>EL.aU ((Mx (c:=inL) (a:=z) (d:=0) he hj).trans (by rw [ea])) (sR _ _ _ _)
theorem am {K:Keep} {hp:List (Nat×aG)} {m:Nat} {A C:List Int} (ea:C=A):∀ j,j < A.length->qE K (sub K hp (m+3)) (inL (A.getD j 0)) (inL (C.getD j 0)):=fun j _=>by rw [ea]; exact Or.inl (sR _ _ _ _)
def g23:List Nat:=[11,19,6,34,1,42,0,7,5,4]
abbrev sr (l:List bI) (c:aH):aH:=.seq (.region g23 l) c
abbrev zl (d x:Nat):=zo d (.lenSl (.s x))
abbrev zb (d:Nat) (o:BinOp) (x y:Nat):=zo d (.bin o (.s x) (.s y))
def c23:aH :=
 sr [(zo 4 (.move (.c (.nilsl))))] (sr [(zo 5 (.move (.c (.nilsl))))] (.seq (sr [(zo 6 (.move (cj 0)))] (.block 0 (.loop 0 [8,9,10,11,14,15,16,17,18,19,20,21,22,23,24,25,26,5,12,13,6] (.seq (sr [(mv 8 6),(mv 9 0),(zl 10 9),(zb 11 .lss 8 10)] (.cond (.s 11) .skip (.exit 0))) (.seq (.block 1 (sr [(mv 14 0),(mv 15 6),(zo 16 (.idxSl 1 (.s 14) (.s 15))),(ld 17 16),(mv 18 1),(zb 19 .lss 17 18)] (.cond (.s 19) (.region g23 [(mv 20 5),(mv 21 0),(mv 22 6),(zo 23 (.idxSl 1 (.s 21) (.s 22))),(ld 24 23),(zo 25 (.buildSl 3 1 1 (.cons (.int .i64 0) .nil) [(0,1,.s 24)])),(zo 26 (.app 3 1 8 (.s 20) (.s 25))),(mv 5 26)]) .skip))) (.region g23 [(mv 12 6),(zo 13 (.bin (.add) (.s 12) (cj 1))),(mv 6 13)])))))) (sr [(mv 27 5),(mv 28 1),(zo 29 (.buildSl 3 1 1 (.cons (.int .i64 0) .nil) [(0,1,.s 28)])),(zo 30 (.app 3 1 8 (.s 27) (.s 29))),(mv 5 30)] (.seq (sr [(zo 7 (.move (cj 0)))] (.block 2 (.loop 1 [31,32,33,34,37,38,39,40,41,42,43,44,45,46,47,48,49,5,35,36,7] (.seq (sr [(mv 31 7),(mv 32 0),(zl 33 32),(zb 34 .lss 31 33)] (.cond (.s 34) .skip (.exit 2))) (.seq (.block 3 (sr [(mv 37 0),(mv 38 7),(zo 39 (.idxSl 1 (.s 37) (.s 38))),(ld 40 39),(mv 41 1),(zb 42 .gtr 40 41)] (.cond (.s 42) (.region g23 [(mv 43 5),(mv 44 0),(mv 45 7),(zo 46 (.idxSl 1 (.s 44) (.s 45))),(ld 47 46),(zo 48 (.buildSl 3 1 1 (.cons (.int .i64 0) .nil) [(0,1,.s 47)])),(zo 49 (.app 3 1 8 (.s 43) (.s 48))),(mv 5 49)]) .skip))) (.region g23 [(mv 35 7),(zo 36 (.bin (.add) (.s 35) (cj 1))),(mv 7 36)])))))) (sr [(mv 50 5),(mv 4 50)] .ret)))))
theorem e23:aI Tryz.prog 23 g23 [] [] []=some (c23,[.slot 4],51):=by kernel_rfl
def wiA (s:Sq Int) (n:Int) (i:Nat):List Int:=flt (fun z=>decide (z < n)) s i
def wiB (s:Sq Int) (n:Int) (i:Nat):List Int:=(wiA s n s.n++[n])++flt (fun z=>decide (n < z)) s i
theorem Wd {s:Sq Int} {n:Int} {i:Nat} (h:s.f i < n):wiA s n (i+1)=wiA s n i++[s.f i]:=by unfold wiA; rw [flt,if_pos (decide_eq_true h)]
theorem Wl {s:Sq Int} {n:Int} {i:Nat} (h:¬ s.f i < n):wiA s n (i+1)=wiA s n i:=by unfold wiA; rw [flt,if_neg (by rw [decide_eq_false h]; decide)]
theorem Wf {s:Sq Int} {n:Int} {i:Nat} (h:n < s.f i):wiB s n (i+1)=wiB s n i++[s.f i]:=by unfold wiB; rw [flt,if_pos (decide_eq_true h)]; simp only [List.append_assoc]
theorem Wm {s:Sq Int} {n:Int} {i:Nat} (h:¬ n < s.f i):wiB s n (i+1)=wiB s n i:=by unfold wiB; rw [flt,if_neg (by rw [decide_eq_false h]; decide)]
theorem V9 {s:Sq Int} {n:Int}:wiB s n 0=wiA s n s.n++[n]:=by unfold wiB; rw [flt,List.append_nil]
theorem V7 {s:Sq Int} {n:Int}:wiB s n s.n=wiV s n:=rfl
theorem V5 (s:Sq Int) (n:Int) (i:Nat):(wiA s n i).length<=i:=Vv _ _ _
theorem We (s:Sq Int) (n:Int) (i:Nat):(wiB s n i).length<=s.n+1+i:=by
 unfold wiB
 have h1:=V5 s n s.n
 have h2:=Vv (fun z=>decide (n < z)) s i
 simp only [List.length_append,List.length_singleton]
 omega
theorem V6 {s:Sq Int} {n:Int}:(wiA s n 0).length=0:=rfl
attribute [local irreducible] wiA wiB
def Wi:Eng.Spec where
 X:=Sq Int×Int
 args:=fun x=>.cons (inE x.1) (.cons (.int .i64 x.2) .nil)
 pre:=fun x=>x.1.n<=1000000
 res:=fun x=>.slice 1 (wiB x.1 x.2 x.1.n).length fun j=>inL ((wiB x.1 x.2 x.1.n).getD j 0)
 inst:=EV0.two inD rS
theorem Wg:Wi.Ok Tryz.prog 23:=by
 refine Eng.Spec.okR e23 .nil (fun _=>[]) (fun _ _=>aA.nil) ?_
 rintro ⟨s,n⟩ (hn:s.n<=1000000)
 refine ⟨trivial,?_⟩
 repeat' (first|apply And.intro|exact trivial|exact rfl|exact lz fun _=>rfl)
 refine ⟨⟨Nat,fun i=>i<=s.n,fun i=>[(6,.int .i64 (i:Int)),(5,.lsl 20 1 (wiA s n i).length)],
  fun i=>[(20,.arr 3 1 (wiA s n i).length fun j=>inL ((wiA s n i).getD j 0))],fun i=>s.n - i⟩,0,Nat.zero_le _,?_,?_⟩
 ·repeat' (first|exact V6|exact V6.symm|apply And.intro|exact trivial|exact rfl|exact lz fun _=>rfl)
 rintro (i:Nat) (hi:i<=s.n)
 have hal:=V5 s n i
 repeat' (first|apply And.intro|exact trivial|exact rfl|exact lz fun _=>rfl)
 ·refine fun (h:decide ((i:Int) < (s.n:Int))=true)=>?_
  have hil:i < s.n:=by have:=of_decide_eq_true h; omega
  have b0:(0:Int)<=(i:Int):=by omega
  have b1:(i:Int) < (s.n:Int):=by omega
  have b2:-9223372036854775808<=(i:Int)+1:=by omega
  have b3:(i:Int)+1<=9223372036854775807:=by omega
  have m1:(wiA s n i).length+1<=9223372036854775807:=by omega
  have m2:((wiA s n i).length+1) * 8<=140737488355328:=by omega
  have em:s.n - (i+1) < s.n - i:=by omega
  repeat' (first|with_reducible (first|exact b0|exact b1|exact b2|exact b3)|exact m1|exact m2|apply And.intro|exact trivial|exact rfl|exact lz fun _=>rfl)
  ·refine fun (hc:decide (s.f (i:Int).toNat < n)=true)=>?_
   have ea:wiA s n (i+1)=wiA s n i++[s.f i]:=Wd (of_decide_eq_true hc)
   have el:(wiA s n i).length+1=(wiA s n (i+1)).length:=by rw [ea,List.length_append]; rfl
   repeat' (first|refine Exists.intro (i+1) (And.intro hil ?_)|with_reducible (first|exact b0|exact b1|exact b2|exact b3)|exact m1|exact m2|with_reducible exact em|exact el|exact ap ea rfl|apply And.intro|exact trivial|exact rfl|exact lz fun _=>rfl)
  ·refine fun (hc:decide (s.f (i:Int).toNat < n)=false)=>?_
   have ea:wiA s n (i+1)=wiA s n i:=Wl (of_decide_eq_false hc)
   have el:(wiA s n i).length=(wiA s n (i+1)).length:=by rw [ea]
   repeat' (first|refine Exists.intro (i+1) (And.intro hil ?_)|with_reducible (first|exact b2|exact b3)|with_reducible exact em|exact el|exact am ea|apply And.intro|exact trivial|exact rfl|exact lz fun _=>rfl)
 refine fun (h:decide ((i:Int) < (s.n:Int))=false)=>?_
 have hil:i=s.n:=by have:=of_decide_eq_false h; omega
 subst hil
 have m1:(wiA s n s.n).length+1<=9223372036854775807:=by omega
 have m2:((wiA s n s.n).length+1) * 8<=140737488355328:=by omega
 have ea:wiB s n 0=wiA s n s.n++[n]:=V9
 have el:(wiA s n s.n).length+1=(wiB s n 0).length:=by rw [ea,List.length_append]; rfl
 repeat' (first|exact m1|exact m2|apply And.intro|exact trivial|exact rfl|exact lz fun _=>rfl)
 refine ⟨⟨Nat,fun i=>i<=s.n,fun i=>[(7,.int .i64 (i:Int)),(5,.lsl 30 1 (wiB s n i).length)],
  fun i=>[(30,.arr 3 1 (wiB s n i).length fun j=>inL ((wiB s n i).getD j 0))],fun i=>s.n - i⟩,0,Nat.zero_le _,?_,?_⟩
 ·repeat' (first|exact el|exact ap ea rfl|apply And.intro|exact trivial|exact rfl|exact lz fun _=>rfl)
 rintro (i:Nat) (hi:i<=s.n)
 have hbl:=We s n i
 repeat' (first|apply And.intro|exact trivial|exact rfl|exact lz fun _=>rfl)
 ·refine fun (h:decide ((i:Int) < (s.n:Int))=true)=>?_
  have hil:i < s.n:=by have:=of_decide_eq_true h; omega
  have b0:(0:Int)<=(i:Int):=by omega
  have b1:(i:Int) < (s.n:Int):=by omega
  have b2:-9223372036854775808<=(i:Int)+1:=by omega
  have b3:(i:Int)+1<=9223372036854775807:=by omega
  have m1:(wiB s n i).length+1<=9223372036854775807:=by omega
  have m2:((wiB s n i).length+1) * 8<=140737488355328:=by omega
  have em:s.n - (i+1) < s.n - i:=by omega
  repeat' (first|with_reducible (first|exact b0|exact b1|exact b2|exact b3)|exact m1|exact m2|apply And.intro|exact trivial|exact rfl|exact lz fun _=>rfl)
  ·refine fun (hc:decide (n < s.f (i:Int).toNat)=true)=>?_
   have ea:wiB s n (i+1)=wiB s n i++[s.f i]:=Wf (of_decide_eq_true hc)
   have el:(wiB s n i).length+1=(wiB s n (i+1)).length:=by rw [ea,List.length_append]; rfl
   repeat' (first|refine Exists.intro (i+1) (And.intro hil ?_)|with_reducible (first|exact b0|exact b1|exact b2|exact b3)|exact m1|exact m2|with_reducible exact em|exact el|exact ap ea rfl|apply And.intro|exact trivial|exact rfl|exact lz fun _=>rfl)
  ·refine fun (hc:decide (n < s.f (i:Int).toNat)=false)=>?_
   have ea:wiB s n (i+1)=wiB s n i:=Wm (of_decide_eq_false hc)
   have el:(wiB s n i).length=(wiB s n (i+1)).length:=by rw [ea]
   repeat' (first|refine Exists.intro (i+1) (And.intro hil ?_)|with_reducible (first|exact b2|exact b3)|with_reducible exact em|exact el|exact am ea|apply And.intro|exact trivial|exact rfl|exact lz fun _=>rfl)
 refine fun (h:decide ((i:Int) < (s.n:Int))=false)=>?_
 have hil:i=s.n:=by have:=of_decide_eq_false h; omega
 subst hil
 have z0:0+(wiB s n s.n).length<=(wiB s n s.n).length:=Nat.le_of_eq (Nat.zero_add _)
 repeat' (first|with_reducible exact z0|exact fun (j:Nat) (hj:j < _)=>EL.aU (congrArg (fun q=>inL ((wiB s n s.n).getD q 0)) (Nat.zero_add j)) (sR _ _ _ _)|apply And.intro|exact trivial|exact rfl|exact lz fun _=>rfl)
end S34
end
