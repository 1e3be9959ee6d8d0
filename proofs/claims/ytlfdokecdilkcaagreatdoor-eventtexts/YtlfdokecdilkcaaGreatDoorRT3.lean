/- A part of the proof. -/
import Derived.Test.YtlfdokecdilkcaaGreatDoorF13g
import Derived.Test.YtlfdokecdilkcaaGreatDoorF14
open Go Go.Eng Go.Proofs G1 G2 G3 G4 G6 G7 EV0 N1 N2 F1 F2 F3 F4 F5 F6 F7 F8 F9 F10 F11 F12 F13 F14
namespace RT3
structure SqE {T:Type} (s t:Sq T):Prop where
 n:s.n=t.n
 f:∀ i,i < s.n->s.f i=t.f i
structure PtE (r q:Pts):Prop where
 n:r.n=q.n
 p:∀ i,i < r.n->r.p i=q.p i
structure EvE (x y:Ev):Prop where
 kind:x.kind=y.kind
 day:x.day=y.day
 a:x.a=y.a
 b:x.b=y.b
 off:x.off=y.off
 id:x.id=y.id
 oth:x.oth=y.oth
 txt:x.txt=y.txt
 ids:SqE x.ids y.ids
 names:SqE x.names y.names
 num:x.num=y.num
 pt:x.pt=y.pt
 path:PtE x.path y.path
 list:SqE x.list y.list
theorem SqE.symm {T:Type} {s t:Sq T} (h:SqE s t):SqE t s:=⟨h.n.symm,fun i hi=>(h.f i (by rw [h.n]; exact hi)).symm⟩
theorem SqE.trans {T:Type} {s t u:Sq T} (h:SqE s t) (k:SqE t u):SqE s u:=⟨h.n.trans k.n,fun i hi=>(h.f i hi).trans (k.f i (by rw [<- h.n]; exact hi))⟩
theorem PtE.symm {s t:Pts} (h:PtE s t):PtE t s:=⟨h.n.symm,fun i hi=>(h.p i (by rw [h.n]; exact hi)).symm⟩
theorem PtE.trans {s t u:Pts} (h:PtE s t) (k:PtE t u):PtE s u:=⟨h.n.trans k.n,fun i hi=>(h.p i hi).trans (k.p i (by rw [<- h.n]; exact hi))⟩
theorem EvE.symm {x y:Ev} (h:EvE x y):EvE y x:=⟨h.kind.symm,h.day.symm,h.a.symm,h.b.symm,h.off.symm,h.id.symm,h.oth.symm,h.txt.symm,h.ids.symm,h.names.symm,h.num.symm,h.pt.symm,h.path.symm,h.list.symm⟩
theorem EvE.trans {x y z:Ev} (h:EvE x y) (k:EvE y z):EvE x z:=⟨h.kind.trans k.kind,h.day.trans k.day,h.a.trans k.a,h.b.trans k.b,h.off.trans k.off,h.id.trans k.id,h.oth.trans k.oth,h.txt.trans k.txt,h.ids.trans k.ids,h.names.trans k.names,h.num.trans k.num,h.pt.trans k.pt,h.path.trans k.path,h.list.trans k.list⟩
theorem SqE.refl {T:Type} (s:Sq T):SqE s s:=⟨rfl,fun _ _=>rfl⟩
theorem PtE.refl (s:Pts):PtE s s:=⟨rfl,fun _ _=>rfl⟩
theorem EvE.refl (x:Ev):EvE x x:=⟨rfl,rfl,rfl,rfl,rfl,rfl,rfl,rfl,.refl _,.refl _,rfl,rfl,.refl _,.refl _⟩
theorem Hh {f g:Nat->Int}:∀ {n:Nat},(∀ i,i < n->f i=g i)->mR f n=mR g n:=by
 intro n
 induction n with
 | zero=>intro _; rfl
 | succ n ih=>intro h; simp only [mR]; rw [ih fun i hi=>h i (by omega),h n (by omega)]
theorem val_congr {r q:Pts} (h:PtE r q):Ba r=Ba q:=by
 obtain ⟨n,p⟩:=r
 obtain ⟨m,p'⟩:=q
 obtain ⟨e,hp⟩:=h
 obtain rfl:n=m:=e
 replace hp:∀ i,i < n->p i=p' i:=hp
 have hx:∀ i,i < n->nxt ⟨n,p⟩ i=nxt ⟨n,p'⟩ i:=fun i hi=>hp ((i+1) % n) (Nat.mod_lt _ (Nat.zero_lt_of_lt hi))
 have e1:orB (lV ⟨n,p⟩) n=orB (lV ⟨n,p'⟩) n:=eK fun i hi=>by
  show (!onB (p i))=!onB (p' i)
  rw [hp i hi]
 have e2:twV ⟨n,p⟩=twV ⟨n,p'⟩:=by
  unfold twV
  exact Hh fun i hi=>by
   show tw2 (p i) (nxt ⟨n,p⟩ i)=tw2 (p' i) (nxt ⟨n,p'⟩ i)
   rw [hp i hi,hx i hi]
 have e3:lL ⟨n,p⟩=lL ⟨n,p'⟩:=by
  unfold lL
  congr 1
  refine eK fun i hi=>?_
  replace hi:i < n:=hi
  unfold bad
  have eb:mM ⟨n,p⟩ i=mM ⟨n,p'⟩ i:=rfl
  have e0:bad0 ⟨n,p⟩ i=bad0 ⟨n,p'⟩ i:=by
   unfold bad0
   show decide (kK (p i) (nxt ⟨n,p⟩ i) (p ((i+2) % n))=0)=decide (kK (p' i) (nxt ⟨n,p'⟩ i) (p' ((i+2) % n))=0)
   rw [hp i hi,hx i hi,hp ((i+2) % n) (Nat.mod_lt _ (Nat.zero_lt_of_lt hi))]
  rw [e0,eb]
  congr 1
  refine eK fun j hj=>?_
  have hk:i+2+j < n:=by
   unfold mM at hj
   replace hj:j < min n (i+n - 1) - (i+2):=hj
   omega
  unfold bad1
  show decide (0 < crV (p i) (nxt ⟨n,p⟩ i) (p (i+2+j)) (nxt ⟨n,p⟩ (i+2+j)))=decide (0 < crV (p' i) (nxt ⟨n,p'⟩ i) (p' (i+2+j)) (nxt ⟨n,p'⟩ (i+2+j)))
  rw [hp i hi,hx i hi,hp _ hk,hx _ hk]
 unfold Ba
 rw [e2,e3]
 show ((((decide (3<=(n:Int)) && decide ((n:Int)<=40)) && !orB (lV ⟨n,p⟩) n) && decide (0 < twV ⟨n,p'⟩)) && lL ⟨n,p'⟩)=((((decide (3<=(n:Int)) && decide ((n:Int)<=40)) && !orB (lV ⟨n,p'⟩) n) && decide (0 < twV ⟨n,p'⟩)) && lL ⟨n,p'⟩)
 rw [e1]
theorem Ct {r q:Pts} (h:PtE r q):tE r=tE q:=by
 obtain ⟨n,p⟩:=r
 obtain ⟨m,p'⟩:=q
 obtain ⟨e,hp⟩:=h
 obtain rfl:n=m:=e
 replace hp:∀ i,i < n->p i=p' i:=hp
 have e1:orB (uL ⟨n,p⟩) n=orB (uL ⟨n,p'⟩) n:=eK fun i hi=>by
  unfold uL
  show (!onB (p i) || (decide ((0:Int) < (i:Int)) && (decide ((p i).1=(p ((i:Int) - 1).toNat).1) && (decide ((p i).2=(p ((i:Int) - 1).toNat).2) && true))))=(!onB (p' i) || (decide ((0:Int) < (i:Int)) && (decide ((p' i).1=(p' ((i:Int) - 1).toNat).1) && (decide ((p' i).2=(p' ((i:Int) - 1).toNat).2) && true))))
  rw [hp i hi,hp _ (show ((i:Int) - 1).toNat < n by omega)]
 unfold tE
 show (!orB (uL ⟨n,p⟩) n && (decide ((n:Int)>=2) && decide ((n:Int)<=40)))=(!orB (uL ⟨n,p'⟩) n && (decide ((n:Int)>=2) && decide ((n:Int)<=40)))
 rw [e1]
theorem Gk {r q:Sq Nm} (h:SqE r q):pY r=pY q:=by
 obtain ⟨n,p⟩:=r
 obtain ⟨m,p'⟩:=q
 obtain ⟨e,hp⟩:=h
 obtain rfl:n=m:=e
 replace hp:∀ i,i < n->p i=p' i:=hp
 unfold pY
 dsimp only
 rw [eK (g:=fun i=>nbad (p' i)) fun i hi=>by rw [hp i hi],nK (g:=fun i=>kN (nt (p' i))) fun i hi=>by rw [hp i hi]]
theorem vP {r q:Sq En} (h:SqE r q) (more:List B):iP r more=iP q more:=by
 obtain ⟨n,p⟩:=r
 obtain ⟨m,p'⟩:=q
 obtain ⟨e,hp⟩:=h
 obtain rfl:n=m:=e
 replace hp:∀ i,i < n->p i=p' i:=hp
 unfold iP
 dsimp only
 rw [eK (g:=fun i=>!cE (p' i).num) fun i hi=>by rw [hp i hi],nK (g:=fun i=>kH (p' i).num) fun i hi=>by rw [hp i hi],
  iN (f:=mF ⟨n,p⟩ more) (g:=mF ⟨n,p'⟩ more) fun i hi=>by
   unfold mF
   split
   ·rfl
   ·show (p (i - more.length)).id=(p' (i - more.length)).id
    rw [hp _ (by omega)]]
theorem vW {r q:Sq En} (h:SqE r q) (z:Bool):uS r z=uS q z:=by
 obtain ⟨n,p⟩:=r
 obtain ⟨m,p'⟩:=q
 obtain ⟨e,hp⟩:=h
 obtain rfl:n=m:=e
 replace hp:∀ i,i < n->p i=p' i:=hp
 unfold uS
 dsimp only
 rw [eK (g:=fun i=>pbad z (p' i)) fun i hi=>by rw [hp i hi]]
theorem pT {x y:Ev} (h:EvE x y):aS x=aS y:=by
 obtain ⟨k,day,a,b,off,id,oth,txt,ids,names,num,pt,path,list⟩:=x
 obtain ⟨k',day',a',b',off',id',oth',txt',ids',names',num',pt',path',list'⟩:=y
 obtain ⟨e1,e2,e3,e4,e5,e6,e7,e8,h1,h2,e9,e10,h3,h4⟩:=h
 dsimp only at e1 e2 e3 e4 e5 e6 e7 e8 h1 h2 e9 e10 h3 h4
 subst e1 e2 e3 e4 e5 e6 e7 e8 e9 e10
 have ez:zB (bA ⟨k,day,a,b,off,id,oth,txt,ids,names,num,pt,path,list⟩)=zB (bA ⟨k,day,a,b,off,id,oth,txt,ids',names',num,pt,path',list'⟩):=rfl
 have em:emB (bA ⟨k,day,a,b,off,id,oth,txt,ids,names,num,pt,path,list⟩)=emB (bA ⟨k,day,a,b,off,id,oth,txt,ids',names',num,pt,path',list'⟩):=by
  unfold emB bA
  dsimp only
  rw [h1.n,h2.n,h3.n,h4.n]
 have en:ndK ⟨k,day,a,b,off,id,oth,txt,ids,names,num,pt,path,list⟩=ndK ⟨k,day,a,b,off,id,oth,txt,ids',names',num,pt,path',list'⟩:=by
  have n1:nd1 ⟨k,day,a,b,off,id,oth,txt,ids,names,num,pt,path,list⟩=nd1 ⟨k,day,a,b,off,id,oth,txt,ids',names',num,pt,path',list'⟩:=by
   unfold nd1 nd0; dsimp only; rw [val_congr h3]
  have n2:nd2 ⟨k,day,a,b,off,id,oth,txt,ids,names,num,pt,path,list⟩=nd2 ⟨k,day,a,b,off,id,oth,txt,ids',names',num,pt,path',list'⟩:=by
   unfold nd2 nd0; dsimp only; rw [Ct h3]
  have n3:nd3 ⟨k,day,a,b,off,id,oth,txt,ids,names,num,pt,path,list⟩=nd3 ⟨k,day,a,b,off,id,oth,txt,ids',names',num,pt,path',list'⟩:=by
   unfold nd3 nd0; dsimp only; rw [Gk h2]
  have n5:nd5 ⟨k,day,a,b,off,id,oth,txt,ids,names,num,pt,path,list⟩=nd5 ⟨k,day,a,b,off,id,oth,txt,ids',names',num,pt,path',list'⟩:=by
   unfold nd5 nd0; dsimp only; rw [val_congr h3]
  have n8:nd8 ⟨k,day,a,b,off,id,oth,txt,ids,names,num,pt,path,list⟩=nd8 ⟨k,day,a,b,off,id,oth,txt,ids',names',num,pt,path',list'⟩:=by
   unfold nd8 nd0; dsimp only; rw [vP h4,vW h4,h4.n]
  have n9:nd9 ⟨k,day,a,b,off,id,oth,txt,ids,names,num,pt,path,list⟩=nd9 ⟨k,day,a,b,off,id,oth,txt,ids',names',num,pt,path',list'⟩:=by
   unfold nd9; dsimp only; rw [vP h4,vW h4,h4.n]
  have n10:nd10 ⟨k,day,a,b,off,id,oth,txt,ids,names,num,pt,path,list⟩=nd10 ⟨k,day,a,b,off,id,oth,txt,ids',names',num,pt,path',list'⟩:=by
   unfold nd10
   dsimp only
   rw [h1.n,iN (f:=jnF ⟨k,day,a,b,off,id,oth,txt,ids,names,num,pt,path,list⟩) (g:=jnF ⟨k,day,a,b,off,id,oth,txt,ids',names',num,pt,path',list'⟩) fun i hi=>by
    unfold jnF
    dsimp only
    split
    ·rfl
    ·exact h1.f _ (by rw [h1.n]; omega)]
  unfold ndK
  rw [n1,n2,n3,n5,n8,n9,n10]
  rfl
 unfold aS
 rw [ez,em,en]
theorem Gm {s t:Sq Nm} {n:Nat} (h:∀ i,i < n->s.f i=t.f i):nmW s n=nmW t n:=by
 induction n with
 | zero=>rfl
 | succ n ih=>simp only [nmW]; rw [ih fun i hi=>h i (by omega),h n (by omega)]
theorem Fq {k:Int} {s t:Sq En} {n:Nat} (h:∀ i,i < n->s.f i=t.f i):enW k s n=enW k t n:=by
 induction n with
 | zero=>rfl
 | succ n ih=>simp only [enW]; rw [ih fun i hi=>h i (by omega),h n (by omega)]
theorem Gq {s t:Pts} {n:Nat} (h:∀ i,i < n->s.p i=t.p i):paW s n=paW t n:=by
 induction n with
 | zero=>rfl
 | succ n ih=>simp only [paW]; rw [ih fun i hi=>h i (by omega),h n (by omega)]
theorem Cu {T:Type} {s t:Sq T} (h:SqE s t):s.list=t.list:=by
 unfold Sq.list
 rw [<- h.n]
 exact List.map_congr_left fun i hi=>h.f i (List.mem_range.1 hi)
theorem Ll {x y:Ev} (h:EvE x y):wl x=wl y:=by
 have e0:w2 x=w2 y:=by
  unfold w2 w1 w0 kp
  rw [h.kind,h.day,h.a,h.b,h.off,h.id,h.oth,h.txt,h.num,h.pt]
 unfold wl w5 w4 w3
 rw [e0,h.kind,Cu h.ids,<- h.names.n,<- h.list.n,<- h.path.n,Gm h.names.f,Fq h.list.f,Gq h.path.p]
theorem mG {x y:Ev} (h:EvE x y):cB x=cB y:=by
 unfold cB
 rw [pT h,Ll h]
end RT3
