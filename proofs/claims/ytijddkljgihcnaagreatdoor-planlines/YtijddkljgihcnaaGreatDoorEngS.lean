/- A part of the proof. -/
import Derived.Test.YtijddkljgihcnaaGreatDoorEngQ
import Derived.MapKept
import Derived.WideKeyRuns
import Derived.ChangeKeysEq
section
namespace Go.Eng
open Go Go.RowKit
universe u
def mget {V:Type u}:List (aK×V×Nat)->aK->Option (V×Nat)
 | [],_=>none
 | x::r,k=>if x.1=k then some x.2 else mget r k
def mput {V:Type u}:List (aK×V×Nat)->aK->V->List (aK×V×Nat)
 | [],_,_=>[]
 | x::r,k,v=>if x.1=k then (k,v,x.2.2)::r else x::mput r k v
def mdel {V:Type u}:List (aK×V×Nat)->aK->List (aK×V×Nat)
 | [],_=>[]
 | x::r,k=>if x.1=k then r else x::mdel r k
def mset {V:Type u}:List (aK×V×Nat)->Nat->V->List (aK×V×Nat)
 | [],_,_=>[]
 | x::r,t,v=>if x.2.2=t then (x.1,v,t)::r else x::mset r t v
section
variable {P:Program} {w:World}
theorem parts2 {e:TypeId} {k:IntKind} (h1:P.underlying e=some (.int k)) (a b:Int) (j:Nat) (hj:j < 2) :
  (part e #[Value.int .i64 a,Value.int .i64 b] (j * 1)).run P w=.ok (if j=0 then .int .i64 a else .int .i64 b) w:=by
 have:j=0\/j=1:=by omega
 rcases this with rfl|rfl <;> simp [part,isAgg,aB w h1]
theorem lE {kk:KP} {t:TypeId} {pre post:List Value} {i:Nat} (hi:pre.length=i) (ht:(P.underlying t=some .string)\/∃ k,P.underlying t=some (.int k)):(part t (pre++kk.val::post).toArray i).run P w=.ok kk.val w:=by
 rcases ht with ht|⟨k,ht⟩ <;> simp [part,isAgg,aB w ht,<- hi]
theorem lD {x:KP} {r:List KP} {k:KPK} {ks:List KPK} (h:(x::r).map KP.kind=k::ks):x.kind=k/\r.map KP.kind=ks:=by simpa using h
theorem Eg (em:Bool) (n:Nat):∀ (fs:List Field) (i:Nat) (ks:List KPK) (l:List KP) (pre:List Value),sV P i fs=some ks->pre.length=i->l.map KP.kind=ks ->
  (forIn fs PUnit.unit fun f (_ : PUnit) => (if f.name ≠ "_" then do
    let v <- part f.type (pre++l.map KP.val).toArray f.offset
    Instr.checkKey em (n+1) f.type v
    pure (ForInStep.yield PUnit.unit)
   else pure (ForInStep.yield PUnit.unit):Sem (ForInStep PUnit))).run P w=.ok PUnit.unit w:=by
 intro fs
 induction fs with
 | nil=>intro i ks l pre _ _ _; simp
 | cons f fs ih =>
  intro i ks l pre hc hi hl
  simp only [sV] at hc
  cases hb : (f.name != "_" && Nat.beq f.offset i) with
  | false=>simp [hb] at hc
  | true =>
   simp only [hb] at hc
   obtain ⟨hn,ho⟩:=Bool.and_eq_true_iff.1 hb
   have hn' : f.name ≠ "_" := by simpa using hn
   have ho':f.offset=i:=nbeq ho
   obtain ⟨k,r,hr,rfl,ht,hck⟩:∃ k r,sV P (i+1) fs=some r/\ks=k::r/\((P.underlying f.type=some .string)\/∃ k,P.underlying f.type=some (.int k))/\∀ x:KP,x.kind=k->(Instr.checkKey em (n+1) f.type x.val).run P w=.ok () w:=by
    split at hc
    ·rename_i ht
     obtain ⟨r,hr,rfl⟩:=Option.map_eq_some_iff.1 hc
     refine ⟨_,r,hr,rfl,.inl ht,fun x hx=>?_⟩
     cases x <;> simp [KP.kind] at hx
     simp [Instr.checkKey,aB w ht,KP.val]
    ·rename_i q ht
     obtain ⟨r,hr,rfl⟩:=Option.map_eq_some_iff.1 hc
     refine ⟨_,r,hr,rfl,.inr ⟨q,ht⟩,fun x hx=>?_⟩
     cases x <;> simp [KP.kind] at hx
     simp [Instr.checkKey,aB w ht,KP.val]
    ·cases hc
   cases l with
   | nil=>simp at hl
   | cons x l =>
    obtain ⟨hk,hl'⟩:=lD hl
    have hp:=lE (P:=P) (w:=w) (kk:=x) (post:=l.map KP.val) hi ht
    have:=ih (i+1) r l (pre++[x.val]) hr (by simp [hi]) hl'
    simp only [List.append_assoc,List.singleton_append] at this
    rw [List.forIn_cons]
    simp only [List.map_cons,ho',ne_eq,hn',not_false_eq_true,if_true,Sem.run_bind,hp,Result.andThen_ok,hck x hk,Sem.run_pure]
    exact this
theorem Pj (n:Nat):∀ (fs:List Field) (i:Nat) (ks:List KPK) (l l':List KP) (pre pre':List Value),sV P i fs=some ks->pre.length=i->pre'.length=i->l.map KP.kind=ks->l'.map KP.kind=ks ->
  (Op.eqFields (n+1) (pre++l.map KP.val).toArray (pre'++l'.map KP.val).toArray fs).run P w=.ok (decide (l=l')) w:=by
 intro fs
 induction fs with
 | nil =>
  intro i ks l l' pre pre' hc _ _ hl hl'
  simp only [sV,Option.some.injEq] at hc
  subst hc
  have e1:l=[]:=by simpa using hl
  have e2:l'=[]:=by simpa using hl'
  subst e1 e2
  simp [Op.eqFields]
 | cons f fs ih =>
  intro i ks l l' pre pre' hc hi hi' hl hl'
  simp only [sV] at hc
  cases hb : (f.name != "_" && Nat.beq f.offset i) with
  | false=>simp [hb] at hc
  | true =>
   simp only [hb] at hc
   obtain ⟨hn,ho⟩:=Bool.and_eq_true_iff.1 hb
   have hn' : f.name ≠ "_" := by simpa using hn
   have ho':f.offset=i:=nbeq ho
   obtain ⟨k,r,hr,rfl,ht,hck⟩:∃ k r,sV P (i+1) fs=some r/\ks=k::r/\((P.underlying f.type=some .string)\/∃ k,P.underlying f.type=some (.int k))/\∀ x y:KP,x.kind=k->y.kind=k->(Op.equalIn (n+1) f.type x.val y.val).run P w=.ok (decide (x=y)) w:=by
    split at hc
    ·rename_i ht
     obtain ⟨r,hr,rfl⟩:=Option.map_eq_some_iff.1 hc
     refine ⟨_,r,hr,rfl,.inl ht,fun x y hx hy=>?_⟩
     cases x <;> simp [KP.kind] at hx
     cases y <;> simp [KP.kind] at hy
     simp only [Op.equalIn,Sem.run_bind,aB w ht,KP.val,Result.andThen_ok,Sem.run_pure,KP.s.injEq]
     congr 1
     rw [Bool.eq_iff_iff,MapKept.bytes_beq]
     simp
    ·rename_i q ht
     obtain ⟨r,hr,rfl⟩:=Option.map_eq_some_iff.1 hc
     refine ⟨_,r,hr,rfl,.inr ⟨q,ht⟩,fun x y hx hy=>?_⟩
     cases x <;> simp [KP.kind] at hx
     cases y <;> simp [KP.kind] at hy
     subst hx hy
     have:∀ a b:Int,(a == b)=decide (a=b):=fun a b=>by rw [Bool.eq_iff_iff]; simp
     simp [Op.equalIn,aB w ht,KP.val,this]
    ·cases hc
   cases l with
   | nil=>simp at hl
   | cons x l =>
    cases l' with
    | nil=>simp at hl'
    | cons y l' =>
     obtain ⟨hk,hl2⟩:=lD hl
     obtain ⟨hk',hl2'⟩:=lD hl'
     have hp:=lE (P:=P) (w:=w) (kk:=x) (post:=l.map KP.val) hi ht
     have hp':=lE (P:=P) (w:=w) (kk:=y) (post:=l'.map KP.val) hi' ht
     have:=ih (i+1) r l l' (pre++[x.val]) (pre'++[y.val]) hr (by simp [hi]) (by simp [hi']) hl2 hl2'
     simp only [List.append_assoc,List.singleton_append] at this
     simp only [Op.eqFields,List.map_cons,ho',ne_eq,hn',not_false_eq_true,if_true,Sem.run_bind,hp,hp',Result.andThen_ok,hck x y hk hk']
     by_cases e:x=y
     ·subst e
      simpa using this
     ·simp [e]
theorem kI {l:List KP} {a b:List KPK} (h:l.map KP.kind=a++b):∃ x y,l=x++y/\x.map KP.kind=a/\y.map KP.kind=b/\x.length=a.length:=by
 refine ⟨l.take a.length,l.drop a.length,(List.take_append_drop _ _).symm,?_,?_,?_⟩
 ·rw [List.map_take,h]; simp
 ·rw [List.map_drop,h]; simp
 ·have:=congrArg List.length h
  simp at this
  simp
  omega
theorem oP {t:TypeId} {fs:Array Field} {inf:TypeInfo} (ht:P.underlying t=some (.struct fs)) (hi:P.info? t=some inf) {pre mid post:List Value} {i:Nat} (hp:pre.length=i) (hm:mid.length=inf.size) :
  (part t (pre++(mid++post)).toArray i).run P w=.ok (.agg mid.toArray) w:=by
 simp [part,isAgg,aB w ht,aM w hi]
 rw [<- hp,<- hm]
 simp
theorem Hp (em:Bool) (n:Nat):∀ (fs:List Field) (i:Nat) (ks:List KPK) (l:List KP) (pre:List Value),cKF P i fs=some ks->pre.length=i->l.map KP.kind=ks ->
  (forIn fs PUnit.unit fun f (_ : PUnit) => (if f.name ≠ "_" then do
    let v <- part f.type (pre++l.map KP.val).toArray f.offset
    Instr.checkKey em (n+2) f.type v
    pure (ForInStep.yield PUnit.unit)
   else pure (ForInStep.yield PUnit.unit):Sem (ForInStep PUnit))).run P w=.ok PUnit.unit w:=by
 intro fs
 induction fs with
 | nil=>intro i ks l pre _ _ _; simp
 | cons f fs ih =>
  intro i ks l pre hc hi hl
  simp only [cKF] at hc
  cases hb : (f.name != "_" && Nat.beq f.offset i) with
  | false=>simp [hb] at hc
  | true =>
   simp only [hb] at hc
   obtain ⟨hn,ho⟩:=Bool.and_eq_true_iff.1 hb
   have hn' : f.name ≠ "_" := by simpa using hn
   have ho':f.offset=i:=nbeq ho
   have one:∀ (k:KPK) (r:List KPK),cKF P (i+1) fs=some r->ks=k::r->((P.underlying f.type=some .string)\/∃ k,P.underlying f.type=some (.int k))->(∀ x:KP,x.kind=k->(Instr.checkKey em (n+2) f.type x.val).run P w=.ok () w) ->
     (forIn (f :: fs) PUnit.unit fun f (_ : PUnit) => (if f.name ≠ "_" then do
      let v <- part f.type (pre++l.map KP.val).toArray f.offset
      Instr.checkKey em (n+2) f.type v
      pure (ForInStep.yield PUnit.unit)
     else pure (ForInStep.yield PUnit.unit):Sem (ForInStep PUnit))).run P w=.ok PUnit.unit w:=by
    rintro k r hr rfl ht hck
    cases l with
    | nil=>simp at hl
    | cons x l =>
     obtain ⟨hk,hl'⟩:=lD hl
     have hp:=lE (P:=P) (w:=w) (kk:=x) (post:=l.map KP.val) hi ht
     have:=ih (i+1) r l (pre++[x.val]) hr (by simp [hi]) hl'
     simp only [List.append_assoc,List.singleton_append] at this
     rw [List.forIn_cons]
     simp only [List.map_cons,ho',ne_eq,hn',not_false_eq_true,if_true,Sem.run_bind,hp,Result.andThen_ok,hck x hk,Sem.run_pure]
     exact this
   split at hc
   ·rename_i ht
    obtain ⟨r,hr,rfl⟩:=Option.map_eq_some_iff.1 hc
    refine one _ r hr rfl (.inl ht) fun x hx=>?_
    cases x <;> simp [KP.kind] at hx
    simp [Instr.checkKey,aB w ht,KP.val]
   ·rename_i q ht
    obtain ⟨r,hr,rfl⟩:=Option.map_eq_some_iff.1 hc
    refine one _ r hr rfl (.inr ⟨q,ht⟩) fun x hx=>?_
    cases x <;> simp [KP.kind] at hx
    simp [Instr.checkKey,aB w ht,KP.val]
   ·rename_i fs2 ht
    split at hc
    ·rename_i ks2 inf h0 hinf hst
     split at hc
     ·rename_i hsz
      obtain ⟨r,hr,rfl⟩:=Option.map_eq_some_iff.1 hc
      obtain ⟨x,y,rfl,hx,hy,hxl⟩:=kI hl
      have hs:=nbeq hsz
      have hp:=oP (P:=P) (w:=w) ht hinf (pre:=pre) (mid:=x.map KP.val) (post:=y.map KP.val) hi (by simp [hxl,hs])
      have h2:=Eg (P:=P) (w:=w) em n fs2.toList 0 ks2 x [] h0 rfl hx
      simp only [List.nil_append] at h2
      have h3:(Instr.checkKey em (n+2) f.type (.agg (x.map KP.val).toArray)).run P w=.ok () w:=by
       rw [Instr.checkKey]
       simp only [Sem.run_bind,aB w ht,Result.andThen_ok]
       rw [<- Array.forIn_toList]
       rw [h2]
       rfl
      have:=ih (i+ks2.length) r y (pre++x.map KP.val) hr (by simp [hi,hxl]) hy
      simp only [List.append_assoc] at this
      rw [List.forIn_cons]
      simp only [List.map_append,ho',ne_eq,hn',not_false_eq_true,if_true,Sem.run_bind,hp,Result.andThen_ok,h3,Sem.run_pure]
      exact this
     ·cases hc
    ·cases hc
   ·cases hc
theorem Sz (n:Nat):∀ (fs:List Field) (i:Nat) (ks:List KPK) (l l':List KP) (pre pre':List Value),cKF P i fs=some ks->pre.length=i->pre'.length=i->l.map KP.kind=ks->l'.map KP.kind=ks ->
  (Op.eqFields (n+2) (pre++l.map KP.val).toArray (pre'++l'.map KP.val).toArray fs).run P w=.ok (decide (l=l')) w:=by
 intro fs
 induction fs with
 | nil =>
  intro i ks l l' pre pre' hc _ _ hl hl'
  simp only [cKF,Option.some.injEq] at hc
  subst hc
  have e1:l=[]:=by simpa using hl
  have e2:l'=[]:=by simpa using hl'
  subst e1 e2
  simp [Op.eqFields]
 | cons f fs ih =>
  intro i ks l l' pre pre' hc hi hi' hl hl'
  simp only [cKF] at hc
  cases hb : (f.name != "_" && Nat.beq f.offset i) with
  | false=>simp [hb] at hc
  | true =>
   simp only [hb] at hc
   obtain ⟨hn,ho⟩:=Bool.and_eq_true_iff.1 hb
   have hn' : f.name ≠ "_" := by simpa using hn
   have ho':f.offset=i:=nbeq ho
   have one:∀ (k:KPK) (r:List KPK),cKF P (i+1) fs=some r->ks=k::r->((P.underlying f.type=some .string)\/∃ k,P.underlying f.type=some (.int k))->(∀ x y:KP,x.kind=k->y.kind=k->(Op.equalIn (n+2) f.type x.val y.val).run P w=.ok (decide (x=y)) w) ->
     (Op.eqFields (n+2) (pre++l.map KP.val).toArray (pre'++l'.map KP.val).toArray (f::fs)).run P w=.ok (decide (l=l')) w:=by
    rintro k r hr rfl ht hck
    cases l with
    | nil=>simp at hl
    | cons x l =>
     cases l' with
     | nil=>simp at hl'
     | cons y l' =>
      obtain ⟨hk,hl2⟩:=lD hl
      obtain ⟨hk',hl2'⟩:=lD hl'
      have hp:=lE (P:=P) (w:=w) (kk:=x) (post:=l.map KP.val) hi ht
      have hp':=lE (P:=P) (w:=w) (kk:=y) (post:=l'.map KP.val) hi' ht
      have:=ih (i+1) r l l' (pre++[x.val]) (pre'++[y.val]) hr (by simp [hi]) (by simp [hi']) hl2 hl2'
      simp only [List.append_assoc,List.singleton_append] at this
      simp only [Op.eqFields,List.map_cons,ho',ne_eq,hn',not_false_eq_true,if_true,Sem.run_bind,hp,hp',Result.andThen_ok,hck x y hk hk']
      by_cases e:x=y
      ·subst e
       simpa using this
      ·simp [e]
   split at hc
   ·rename_i ht
    obtain ⟨r,hr,rfl⟩:=Option.map_eq_some_iff.1 hc
    refine one _ r hr rfl (.inl ht) fun x y hx hy=>?_
    cases x <;> simp [KP.kind] at hx
    cases y <;> simp [KP.kind] at hy
    simp only [Op.equalIn,Sem.run_bind,aB w ht,KP.val,Result.andThen_ok,Sem.run_pure,KP.s.injEq]
    congr 1
    rw [Bool.eq_iff_iff,MapKept.bytes_beq]
    simp
   ·rename_i q ht
    obtain ⟨r,hr,rfl⟩:=Option.map_eq_some_iff.1 hc
    refine one _ r hr rfl (.inr ⟨q,ht⟩) fun x y hx hy=>?_
    cases x <;> simp [KP.kind] at hx
    cases y <;> simp [KP.kind] at hy
    subst hx hy
    have:∀ a b:Int,(a == b)=decide (a=b):=fun a b=>by rw [Bool.eq_iff_iff]; simp
    simp [Op.equalIn,aB w ht,KP.val,this]
   ·rename_i fs2 ht
    split at hc
    ·rename_i ks2 inf h0 hinf hst
     split at hc
     ·rename_i hsz
      obtain ⟨r,hr,rfl⟩:=Option.map_eq_some_iff.1 hc
      obtain ⟨x,y,rfl,hx,hy,hxl⟩:=kI hl
      obtain ⟨x',y',rfl,hx',hy',hxl'⟩:=kI hl'
      have hs:=nbeq hsz
      have hp:=oP (P:=P) (w:=w) ht hinf (pre:=pre) (mid:=x.map KP.val) (post:=y.map KP.val) hi (by simp [hxl,hs])
      have hp':=oP (P:=P) (w:=w) ht hinf (pre:=pre') (mid:=x'.map KP.val) (post:=y'.map KP.val) hi' (by simp [hxl',hs])
      have h2:=Pj (P:=P) (w:=w) n fs2.toList 0 ks2 x x' [] [] h0 rfl rfl hx hx'
      simp only [List.nil_append] at h2
      have hfo:P.fieldsOf f.type=fs2:=by simp [Program.fieldsOf,ht]
      have h3:(Op.equalIn (n+2) f.type (.agg (x.map KP.val).toArray) (.agg (x'.map KP.val).toArray)).run P w=.ok (decide (x=x')) w:=by
       rw [show n+2=(n+1)+1 from rfl,run_equalIn_struct w (n+1) f.type _ _ (by rw [hfo]; exact ht) hst,hfo]
       exact h2
      have:=ih (i+ks2.length) r y y' (pre++x.map KP.val) (pre'++x'.map KP.val) hr (by simp [hi,hxl]) (by simp [hi',hxl']) hy hy'
      simp only [List.append_assoc] at this
      simp only [Op.eqFields,List.map_append,ho',ne_eq,hn',not_false_eq_true,if_true,Sem.run_bind,hp,hp',Result.andThen_ok,h3]
      by_cases e:x=x'
      ·subst e
       simpa using this
      ·have e2:¬ (x++y=x'++y'):=fun e2=>e (List.append_inj_left e2 (by omega))
       simp [e,e2]
     ·cases hc
    ·cases hc
   ·cases hc
theorem A8 {kt:TypeId} {kk:KK} (hk:iS P kt=some kk) {x:aK} (hx:x.kind=kk) (em:Bool) (n:Nat):(Instr.checkKey em (n+3) kt x.val).run P w=.ok () w:=by
 unfold iS at hk
 split at hk
 ·rename_i h; cases hk
  cases x <;> simp [aK.kind] at hx
  simp [Instr.checkKey,aB w h,aK.val]
 ·rename_i k h; cases hk
  cases x <;> simp [aK.kind] at hx
  simp [Instr.checkKey,aB w h,aK.val]
 ·rename_i e h
  split at hk
  ·rename_i i h1 h2
   split at hk
   ·rename_i hsz
    cases hk
    cases x <;> simp [aK.kind] at hx
    rename_i a b
    have sz:=aM w h2
    rw [hsz] at sz
    have p0:=parts2 (w:=w) h1 a b 0 (by omega)
    have p1:=parts2 (w:=w) h1 a b 1 (by omega)
    rw [Instr.checkKey]
    simp only [aK.val,Sem.run_bind,aB w h,Result.andThen_ok]
    simp only [Std.Legacy.Range.forIn_eq_forIn_range',Std.Legacy.Range.size]
    simp [List.range',sz,p0,p1,Instr.checkKey,aB w h1]
   ·cases hk
  ·cases hk
 ·rename_i fs h
  split at hk
  ·obtain ⟨ks,hks,rfl⟩:=Option.map_eq_some_iff.1 hk
   cases x <;> simp [aK.kind] at hx
   rename_i l
   have:=Hp (P:=P) (w:=w) em n fs.toList 0 ks l [] hks rfl hx
   simp only [List.nil_append] at this
   rw [Instr.checkKey]
   simp only [aK.val,Sem.run_bind,aB w h,Result.andThen_ok]
   rw [<- Array.forIn_toList]
   rw [this]
   rfl
  ·cases hk
 ·cases hk
theorem gJ {kt:TypeId} {kk:KK} (hk:iS P kt=some kk) {x:aK} (hx:x.kind=kk) (em:Bool):(Instr.checkKey em 10000 kt x.val).run P w=.ok () w:=A8 hk hx em 9997
theorem nA (a b:List UInt8):((⟨a.toArray⟩:ByteArray) == ⟨b.toArray⟩)=decide (a=b):=by
 rw [Bool.eq_iff_iff,MapKept.bytes_beq]
 simp
theorem vH (a b:Int):(a == b)=decide (a=b):=by
 rw [Bool.eq_iff_iff]; simp
theorem A9 {kt:TypeId} {kk:KK} (hk:iS P kt=some kk) {x y:aK} (hx:x.kind=kk) (hy:y.kind=kk) (n:Nat):(Op.equalIn (n+3) kt x.val y.val).run P w=.ok (decide (x=y)) w:=by
 unfold iS at hk
 split at hk
 ·rename_i h; cases hk
  cases x <;> simp [aK.kind] at hx
  cases y <;> simp [aK.kind] at hy
  rename_i a b
  rw [show n+3=(n+2)+1 from rfl]
  generalize n+2=m
  simp only [Op.equalIn,Sem.run_bind,aB w h,aK.val,Result.andThen_ok,Sem.run_pure,nA,aK.s.injEq]
 ·rename_i k h; cases hk
  cases x <;> simp [aK.kind] at hx
  cases y <;> simp [aK.kind] at hy
  subst hx hy
  rw [show n+3=(n+2)+1 from rfl]
  generalize n+2=m
  simp [Op.equalIn,aB w h,aK.val,vH]
 ·rename_i e h
  split at hk
  ·rename_i i h1 h2
   split at hk
   ·rename_i hsz
    cases hk
    cases x <;> simp [aK.kind] at hx
    cases y <;> simp [aK.kind] at hy
    rename_i a b c d
    have sz:=aM w h2
    rw [hsz] at sz
    have p0:=parts2 (w:=w) h1 a b 0 (by omega)
    have p1:=parts2 (w:=w) h1 a b 1 (by omega)
    have q0:=parts2 (w:=w) h1 c d 0 (by omega)
    have q1:=parts2 (w:=w) h1 c d 1 (by omega)
    have hc:P.cellsOf e=1:=by simp [Program.cellsOf,h2,hsz]
    have eq1:∀ (a b:Int),(Op.equalIn (n+2) e (.int .i64 a) (.int .i64 b)).run P w=.ok (decide (a=b)) w:=by
     intro a b
     rw [show n+2=(n+1)+1 from rfl]
     generalize n+1=m
     simp [Op.equalIn,aB w h1,vH]
    rw [show n+3=(n+2)+1 from rfl]
    simp only [aK.val]
    rw [run_equalIn_array w (n+2) _ _ h h2,hc]
    have:List.range 2=[0,1]:=rfl
    rw [this]
    have n1:¬ ((1:Nat)=0):=by decide
    rw [if_neg n1] at p1 q1
    rw [if_pos rfl] at p0 q0
    have tail:(Op.eqItems (n+2) e 1 #[Value.int .i64 a,Value.int .i64 b] #[Value.int .i64 c,Value.int .i64 d] [1]).run P w=.ok (decide (b=d)) w:=by
     unfold Op.eqItems
     rw [Sem.run_bind,p1,Result.andThen_ok,Sem.run_bind,q1,Result.andThen_ok,Sem.run_bind,eq1,Result.andThen_ok]
     by_cases e2:b=d
     ·simp [e2,Op.eqItems]
     ·simp [e2]
    unfold Op.eqItems
    rw [Sem.run_bind,p0,Result.andThen_ok,Sem.run_bind,q0,Result.andThen_ok,Sem.run_bind,eq1,Result.andThen_ok]
    by_cases e1:a=c
    ·rw [if_neg (by simp [e1]),tail]
     simp [e1]
    ·rw [if_pos (by simp [e1])]
     simp [e1]
   ·cases hk
  ·cases hk
 ·rename_i fs h
  split at hk
  ·rename_i hst
   obtain ⟨ks,hks,rfl⟩:=Option.map_eq_some_iff.1 hk
   cases x <;> simp [aK.kind] at hx
   cases y <;> simp [aK.kind] at hy
   rename_i l l'
   have:=Sz (P:=P) (w:=w) n fs.toList 0 ks l l' [] [] hks rfl rfl hx hy
   simp only [List.nil_append] at this
   have hfo:P.fieldsOf kt=fs:=by simp [Program.fieldsOf,h]
   simp only [aK.val,aK.t.injEq]
   rw [show n+3=(n+2)+1 from rfl,run_equalIn_struct w (n+2) kt _ _ (by rw [hfo]; exact h) hst,hfo]
   exact this
  ·cases hk
 ·cases hk
theorem Ee {kt:TypeId} {kk:KK} (hk:iS P kt=some kk) {x y:aK} (hx:x.kind=kk) (hy:y.kind=kk):(Op.equal kt x.val y.val).run P w=.ok (decide (x=y)) w:=A9 hk hx hy 9997
theorem Ef {x:aK} (n:Nat):Instr.sameBits (n+2) x.val x.val=true:=by
 cases x with
 | t l =>
  simp only [aK.val,Instr.sameBits,beq_self_eq_true,Bool.true_and]
  rw [List.all_eq_true]
  intro p hp
  have:∀ (l:List Value) (p:Value×Value),p∈l.zip l->p.1=p.2/\p.1∈l:=by
   intro l
   induction l with
   | nil=>intro p h; simp at h
   | cons a l ih =>
    intro p h
    simp only [List.zip_cons_cons,List.mem_cons] at h
    rcases h with rfl|h
    ·exact ⟨rfl,List.mem_cons_self ..⟩
    ·exact ⟨(ih p h).1,List.mem_cons_of_mem _ (ih p h).2⟩
  obtain ⟨e1,e2⟩:=this _ p hp
  obtain ⟨a,b⟩:=p
  simp only at e1 e2 ⊢
  subst e1
  obtain ⟨x,_,rfl⟩:=List.mem_map.1 (by simpa using e2)
  cases x <;> simp [KP.val,Instr.sameBits,nA]
 | _=>simp [aK.val,Instr.sameBits,nA]
theorem tW (x:aK):(Instr.keyThatStays x.val x.val).run P w=.ok x.val w:=by
 have:Instr.sameBits 10000 x.val x.val=true:=Ef 9998
 simp [Instr.keyThatStays,this]
def fnd {V:Type} (k:aK):List (aK×V×Nat)->List MapEntry->Nat->Option (Nat×Value)
 | x::r,e::t,i=>if x.1=k then some (i,e.val) else fnd k r t (i+1)
 | _,_,_=>none
theorem jZ {kt:TypeId} {kk:KK} (hk:iS P kt=some kk) {k:aK} (hkd:k.kind=kk) {E:Env} {V:Type} {ev:V->SV} :
  ∀ (l:List (aK×V×Nat)) (es:List MapEntry) (i:Nat),cV E ev l es->(∀ x∈l,x.1.kind=kk)->(Instr.findAsking kt k.val es i).run P w=.ok (fnd k l es i) w:=by
 intro l
 induction l with
 | nil=>intro es i h _; simp only [cV] at h; subst h; simp [Instr.findAsking,fnd]
 | cons x r ih =>
  intro es i h hkk
  obtain ⟨e,t,rfl,h2,h3,h4,h5⟩:=h
  have:=Ee (w:=w) hk hkd (hkk x (List.mem_cons_self ..))
  rw [<- h2] at this
  unfold Instr.findAsking
  rw [Sem.run_bind,this,Result.andThen_ok]
  by_cases e1:k=x.1
  ·simp [fnd,e1]
  ·have e2:¬ x.1=k:=fun e=>e1 e.symm
   rw [if_neg (by simp [e1]),ih t (i+1) h5 (fun y hy=>hkk y (List.mem_cons_of_mem _ hy))]
   simp [fnd,e2]
theorem pV {d:TypeDesc} {k:aK} (hd:(d=.string/\k.kind=.s)\/∃ q,d=.int q/\k.kind=.i q) {E:Env} {V:Type} {ev:V->SV} :
  ∀ (l:List (aK×V×Nat)) (es:List MapEntry) (i:Nat),cV E ev l es->(∀ x∈l,x.1.kind=k.kind)->Instr.findNow d k.val es i=some (fnd k l es i):=by
 intro l
 induction l with
 | nil=>intro es i h _; simp only [cV] at h; subst h; simp [Instr.findNow,fnd]
 | cons x r ih =>
  intro es i h hkk
  obtain ⟨e,t,rfl,h2,h3,h4,h5⟩:=h
  have hsame:Instr.sameNow d k.val e.key=some (decide (k=x.1)):=by
   rw [h2]
   have hx:=hkk x (List.mem_cons_self ..)
   rcases hd with ⟨rfl,hs⟩|⟨q,rfl,hs⟩ <;> rw [hs] at hx <;> cases k <;> simp [aK.kind] at hs <;> (generalize x.1=y at hx) <;> cases y <;> simp [aK.kind] at hx
   ·simp [Instr.sameNow,aK.val,nA]
   ·subst hs hx
    simp [Instr.sameNow,aK.val,vH]
  unfold Instr.findNow
  rw [hsame]
  by_cases e1:k=x.1
  ·simp [fnd,e1]
  ·have e2:¬ x.1=k:=fun e=>e1 e.symm
   simp only [e1,decide_false]
   rw [ih t (i+1) h5 (fun y hy=>hkk y (List.mem_cons_of_mem _ hy))]
   simp [fnd,e2]
theorem kA {kt:TypeId} {kk:KK} (hk:iS P kt=some kk) {k:aK} (hkd:k.kind=kk) {E:Env} {V:Type} {ev:V->SV} {l:List (aK×V×Nat)} {es:List MapEntry} (h:cV E ev l es) (hkk:∀ x∈l,x.1.kind=kk) :
  (Instr.findKey kt k.val es).run P w=.ok (fnd k l es 0) w:=by
 have hk0:=hk
 unfold iS at hk
 split at hk
 ·rename_i hd
  cases hk
  have:=pV (.inl ⟨rfl,hkd⟩) l es 0 h (by rw [hkd]; exact hkk)
  simp [Instr.findKey,aB w hd,this]
 ·rename_i q hd
  cases hk
  have:=pV (.inr ⟨q,rfl,hkd⟩) l es 0 h (by rw [hkd]; exact hkk)
  simp [Instr.findKey,aB w hd,this]
 ·rename_i e hd
  rw [run_findKey_eq w (by rw [hd])]
  exact jZ hk0 hkd l es 0 h hkk
 ·rename_i fs hd
  rw [run_findKey_eq w (by rw [hd])]
  exact jZ hk0 hkd l es 0 h hkk
 ·cases hk
theorem nF {E:Env} {V:Type} {ev:V->SV} {k:aK}:∀ (l:List (aK×V×Nat)) (es:List MapEntry) (i:Nat),cV E ev l es ->
  (mget l k=none/\fnd k l es i=none) \/
  ∃ v t j e,mget l k=some (v,t)/\fnd k l es i=some (i+j,e.val)/\es[j]?=some e/\e.key=k.val/\R E (ev v) [e.val]/\e.born=t/\cV E ev (mdel l k) (es.eraseIdx j) /\
   ∀ (v':V) (u:Value),R E (ev v') [u]->cV E ev (mput l k v') (es.modify j fun e=>{ e with key:=k.val,val:=u }):=by
 intro l
 induction l with
 | nil=>intro es i h; simp only [cV] at h; subst h; exact .inl ⟨rfl,rfl⟩
 | cons x r ih =>
  intro es i h
  obtain ⟨e,t,rfl,h2,h3,h4,h5⟩:=h
  by_cases e1:x.1=k
  ·refine .inr ⟨x.2.1,x.2.2,0,e,by simp [mget,e1],by simp [fnd,e1],rfl,by rw [h2,e1],h3,h4,?_,?_⟩
   ·simpa [mdel,e1] using h5
   ·intro v' u hu
    simp only [mput,e1,if_true]
    exact ⟨{ e with key:=k.val,val:=u },t,by simp,rfl,hu,h4,h5⟩
  ·rcases ih t (i+1) h5 with ⟨a1,a2⟩|⟨v,tt,j,e',a1,a2,a3,a4,a5,a6,a7,a8⟩
   ·exact .inl ⟨by simp [mget,e1,a1],by simp [fnd,e1,a2]⟩
   ·refine .inr ⟨v,tt,j+1,e',by simp [mget,e1,a1],by simp [fnd,e1,a2]; omega,by simpa using a3,a4,a5,a6,?_,?_⟩
    ·simp only [mdel,e1,if_false,List.eraseIdx_cons_succ]
     exact ⟨e,_,rfl,h2,h3,h4,a7⟩
    ·intro v' u hu
     simp only [mput,e1,if_false,List.modify_succ_cons]
     exact ⟨e,_,rfl,h2,h3,h4,a8 v' u hu⟩
theorem pP {E:Env} {V:Type} {ev:V->SV}:∀ {l m:List (aK×V×Nat)} {es fs:List MapEntry},cV E ev l es->cV E ev m fs->cV E ev (l++m) (es++fs):=by
 intro l
 induction l with
 | nil=>intro m es fs h hm; simp only [cV] at h; subst h; exact hm
 | cons x r ih =>
  intro m es fs h hm
  obtain ⟨e,t,rfl,h2,h3,h4,h5⟩:=h
  exact ⟨e,t++fs,rfl,h2,h3,h4,ih h5 hm⟩
theorem wT {E:Env} {V:Type} {ev:V->SV}:∀ {l:List (aK×V×Nat)} {es:List MapEntry},cV E ev l es->es.length=l.length:=by
 intro l
 induction l with
 | nil=>intro es h; simp only [cV] at h; subst h; rfl
 | cons x r ih=>intro es h; obtain ⟨e,t,rfl,_,_,_,h5⟩:=h; simp [ih h5]
theorem J1 {E:Env} {V V':Type} {ev:V->SV} {ev':V'->SV} {g:V->V'} (h:∀ v,ev' (g v)=ev v):∀ {l:List (aK×V×Nat)} {es:List MapEntry},cV E ev l es->cV E ev' (l.map fun x=>(x.1,g x.2.1,x.2.2)) es:=by
 intro l
 induction l with
 | nil=>intro es hh; exact hh
 | cons x r ih =>
  intro es hh
  obtain ⟨e,t,h1,h2,h3,h4,h5⟩:=hh
  exact ⟨e,t,h1,h2,by rw [h]; exact h3,h4,ih h5⟩
theorem Bb {V:Type} {kk:KK} {k:aK} (hk:k.kind=kk) (v:V):∀ {l:List (aK×V×Nat)},(∀ x∈l,x.1.kind=kk)->∀ x∈mput l k v,x.1.kind=kk:=by
 intro l
 induction l with
 | nil=>intro _ x hx; cases hx
 | cons y r ih =>
  intro h x hx
  simp only [mput] at hx
  split at hx
  ·rcases List.mem_cons.1 hx with rfl|hx
   ·exact hk
   ·exact h x (List.mem_cons_of_mem _ hx)
  ·rcases List.mem_cons.1 hx with rfl|hx
   ·exact h _ (List.mem_cons_self ..)
   ·exact ih (fun z hz=>h z (List.mem_cons_of_mem _ hz)) x hx
theorem Ba {V:Type} {kk:KK} {k:aK}:∀ {l:List (aK×V×Nat)},(∀ x∈l,x.1.kind=kk)->∀ x∈mdel l k,x.1.kind=kk:=by
 intro l
 induction l with
 | nil=>intro _ x hx; cases hx
 | cons y r ih =>
  intro h x hx
  simp only [mdel] at hx
  split at hx
  ·exact h x (List.mem_cons_of_mem _ hx)
  ·rcases List.mem_cons.1 hx with rfl|hx
   ·exact h _ (List.mem_cons_self ..)
   ·exact ih (fun z hz=>h z (List.mem_cons_of_mem _ hz)) x hx
theorem Bc {V:Type} {kk:KK} {t:Nat} {v:V}:∀ {l:List (aK×V×Nat)},(∀ x∈l,x.1.kind=kk)->∀ x∈mset l t v,x.1.kind=kk:=by
 intro l
 induction l with
 | nil=>intro _ x hx; cases hx
 | cons y r ih =>
  intro h x hx
  simp only [mset] at hx
  split at hx
  ·rcases List.mem_cons.1 hx with rfl|hx
   ·exact h y (List.mem_cons_self ..)
   ·exact h x (List.mem_cons_of_mem _ hx)
  ·rcases List.mem_cons.1 hx with rfl|hx
   ·exact h _ (List.mem_cons_self ..)
   ·exact ih (fun z hz=>h z (List.mem_cons_of_mem _ hz)) x hx
theorem Em {E:Env} {V:Type} {ev:V->SV} {t:Nat} {v':V} {u:Value} (hu:R E (ev v') [u]):∀ (l:List (aK×V×Nat)) (es:List MapEntry),cV E ev l es->(∃ x∈l,x.2.2=t) ->
  ∃ j,es.findIdx? (fun e=>(e.born:Int) == (t:Int))=some j/\cV E ev (mset l t v') (es.modify j fun e=>{ e with val:=u }):=by
 intro l
 induction l with
 | nil=>intro es _ ⟨x,hx,_⟩; cases hx
 | cons x r ih =>
  intro es h hx
  obtain ⟨e,es',rfl,h2,h3,h4,h5⟩:=h
  by_cases e1:x.2.2=t
  ·refine ⟨0,?_,?_⟩
   ·simp [List.findIdx?_cons,h4,e1]
   ·simp only [mset,e1,if_true]
    exact ⟨{ e with val:=u },es',by simp,h2,hu,h4.trans e1,h5⟩
  ·obtain ⟨y,hy,hyt⟩:=hx
   have hy':∃ y∈r,y.2.2=t:=by
    rcases List.mem_cons.1 hy with rfl|hy
    ·exact absurd hyt e1
    ·exact ⟨y,hy,hyt⟩
   obtain ⟨j,j1,j2⟩:=ih es' h5 hy'
   refine ⟨j+1,?_,?_⟩
   ·have:¬ (e.born:Int)=(t:Int):=by rw [h4]; omega
    simp [List.findIdx?_cons,this] at j1 ⊢
    exact j1
   ·simp only [mset,e1,if_false,List.modify_succ_cons]
    exact ⟨e,_,rfl,h2,h3,h4,j2⟩
end
end Go.Eng
end
section
namespace Go.Eng
open Go Go.RowKit
def bC:SV->(SV->Prop)->Prop
  | .junk,k=>k .junk
  | .val v,k=>k (.val v)
  | .int q n,k=>k (.int q n)
  | .bool b,k=>k (.bool b)
  | .str s,k=>k (.str s)
  | .own a b,k=>cR a fun a=>k (.own a b)
  | .osl a b c d,k=>cR a fun a=>k (.osl a b c d)
  | .lsl a b c,k=>cR a fun a=>k (.lsl a b c)
  | .oel a b c d,k=>cR a fun a=>k (.oel a b c d)
  | .mref a,k=>cR a fun a=>k (.mref a)
  | .fown a b c,k=>cR a fun a=>k (.fown a b c)
  | .fmref a b,k=>cR a fun a=>k (.fmref a b)
  | .nilsl,k=>k .nilsl
  | .slice a b c,k=>k (.slice a b c)
  | .slit a b,k=>bC b fun b=>k (.slit a b)
  | .cptr a,k=>bC a fun a=>k (.cptr a)
  | .nil,k=>k .nil
  | .cons a b,k=>bC a fun a=>bC b fun b=>k (.cons a b)
  | .ints q n f a,k=>cR n fun n=>bC a fun a=>k (.ints q n f a)
  | .agg a,k=>bC a fun a=>k (.agg a)
  | .tup a,k=>bC a fun a=>k (.tup a)
  | .fn f a,k=>bC a fun a=>k (.fn f a)
  | .yield a,k=>cR a fun a=>k (.yield a)
  | .gd a b c,k=>k (.gd a b c)
theorem bN:∀ (s:SV) (k:SV->Prop),bC s k=k s:=by
  intro s
  induction s with
  | cons a b iha ihb=>intro k; simp only [bC,iha,ihb]
  | ints q n f a ih=>intro k; simp only [bC,dB,ih]
  | agg a ih=>intro k; simp only [bC,ih]
  | tup a ih=>intro k; simp only [bC,ih]
  | fn f a ih=>intro k; simp only [bC,ih]
  | slit n a ih=>intro k; simp only [bC,ih]
  | cptr a ih=>intro k; simp only [bC,ih]
  | _=>intro k; first|rfl|simp only [bC,dB]
def Az (o:aG) (k:aG->Prop):Prop :=
  match o with
  | .cells T l=>bC l fun l=>k (.cells T l)
  | .arr T sz len enc=>k (.arr T sz len enc)
  | .obj o=>k (.obj o)
  | .map V kk l c ev iv=>k (.map V kk l c ev iv)
  | .iter a b c d=>bC a fun a=>k (.iter a b c d)
  | .fam f=>k (.fam f)
  | .hid a b=>k (.hid a b)
  | .gone=>k .gone
theorem D6 (o:aG) (k:aG->Prop):Az o k=k o:=by cases o <;> simp only [Az,bN]
def jB:List (Nat×aG)->(List (Nat×aG)->Prop)->Prop
  | [],k=>k []
  | (n,o)::r,k=>cR n fun n=>Az o fun o=>jB r fun r=>k ((n,o)::r)
theorem jC:∀ (l:List (Nat×aG)) (k:List (Nat×aG)->Prop),jB l k=k l:=by
  intro l
  induction l with
  | nil=>intro k; rfl
  | cons p r ih=>intro k; simp only [jB,dB,D6,ih]
def stK (st:St) (k:List (Nat×aG)->Nat->Prop):Prop :=
  match st with
  | ⟨_,hp,nx⟩=>cR nx fun nx=>jB hp fun hp=>k hp nx
theorem Q8 (st:St) (k:List (Nat×aG)->Nat->Prop):stK st k=k st.hp st.nx:=by
  cases st
  simp only [stK,dB,jC]
def stP (st:St) (k:List (Nat×SV)->List (Nat×aG)->Nat->Prop):Prop :=
  match st with
  | ⟨fr,hp,nx⟩=>k fr hp nx
theorem Q9 (st:St) (k:List (Nat×SV)->List (Nat×aG)->Nat->Prop):stP st k=k st.fr st.hp st.nx:=by
  cases st
  rfl
def stF (st:St) (k:St->Prop):Prop :=
  match st with
  | ⟨fr,hp,nx⟩=>cR nx fun nx=>jB hp fun hp=>k ⟨fr,hp,nx⟩
theorem wL (st:St) (k:St->Prop):stF st k=k st:=by
  cases st
  simp only [stF,dB,jC]
def dZ (l:List (Nat×aG)) (id:Nat) (x:aG):List (Nat×aG) :=
  match l with
  | []=>[(id,x)]
  | (k,v)::r=>bif Nat.beq k id then (id,x)::r else (k,v)::dZ r id x
theorem get?_putH (l:List (Nat×aG)) (id:Nat) (x:aG) (n:Nat):get? (dZ l id x) n=get? ((id,x)::l) n:=by
  induction l with
  | nil=>rfl
  | cons p r ih =>
    obtain ⟨k,v⟩:=p
    simp only [dZ]
    cases hb:Nat.beq k id with
    | true =>
      have:=nbeq hb
      subst this
      simp only [cond_true,get?_cons]
      split <;> rfl
    | false =>
      have hne:¬ k=id:=fun e=>by subst e; simp [Nat.beq_refl] at hb
      simp only [cond_false,get?_cons,ih]
      by_cases h1:k=n
      · subst h1
        have:¬ id=k:=fun e=>hne e.symm
        simp [this]
      · simp [h1]
theorem cK (l:List (Nat×aG)) (id:Nat) (x:aG) (n:Nat):hget (dZ l id x) n=hget ((id,x)::l) n:=by
  unfold hget
  simp only [get?_putH]
theorem cM {l:List (Nat×aG)} {id:Nat} {x o:aG} (hg:get? l id=some o):∀ n o',get? (dZ l id x) n=some o'->∃ o'',get? l n=some o'':=by
  intro n o' h
  rw [get?_putH,get?_cons] at h
  by_cases e:id=n
  · subst e; exact ⟨_,hg⟩
  · simp [e] at h; exact ⟨_,h⟩
def pC (l:List (Nat×aG)) (id:Nat) (x:aG) (k:List (Nat×aG)->Prop):Prop :=
  match l with
  | []=>k [(id,x)]
  | (a,v)::r=>bif Nat.beq a id then k ((id,x)::r) else pC r id x fun l=>k ((a,v)::l)
theorem wC (id:Nat) (x:aG):∀ (l:List (Nat×aG)) (k:List (Nat×aG)->Prop),pC l id x k=k (dZ l id x):=by
  intro l
  induction l with
  | nil=>intro k; rfl
  | cons p r ih =>
    obtain ⟨a,v⟩:=p
    intro k
    simp only [pC,dZ]
    cases Nat.beq a id <;> simp [ih]
def Acts (P:Program) (C:Ctx) (μ:Nat->Option (Nat×Nat)) (hp:List (Nat×aG)) (w:World) (fr:List (Nat×SV)) (K:SV->St->Prop) (r:Result Next):Prop :=
  Does P (fun v w'=>∃ s st' μ',K s st'/\st'.fr=fr/\(aC C μ hp w).Le (aC C μ' st'.hp w')/\aL C μ' st'.hp st'.nx w'/\R (aC C μ' st'.hp w') s [v]) r
def tX:SV->Option (List KP)
  | .nil=>some []
  | .cons (.str b) r=>match tX r with
    | some l=>some (.s b::l)
    | none=>none
  | .cons (.int k i) r=>match tX r with
    | some l=>some (.n k i::l)
    | none=>none
  | _=>none
theorem J3 {E:Env}:∀ {s:SV} {l:List KP} {vs:List Value},R E s vs->tX s=some l->vs=l.map KP.val:=by
  intro s
  induction s with
  | nil=>intro l vs h e; cases e; exact h
  | cons a r _ ih =>
    intro l vs h e
    simp only [R] at h
    obtain ⟨x,xs,rfl,h1,h2⟩:=h
    cases a <;> simp only [tX] at e <;> first
      | (cases e; done)
      | (split at e
         · rename_i l' hl
           cases e
           rw [List.singleton_inj.1 h1,ih h2 hl]
           rfl
         · cases e)
  | _=>intro l vs h e; simp [tX] at e
def keyOf:SV->Option aK
  | .str b=>some (.s b)
  | .int k n=>some (.i k n)
  | .agg (.cons (.int .i64 x) (.cons (.int .i64 y) .nil))=>some (.a x y)
  | .agg l=>match tX l with
    | some l=>some (.t l)
    | none=>none
  | _=>none
theorem qM {E:Env} {s:SV} {v:Value} {k:aK} (h:R E s [v]) (hk:keyOf s=some k):v=k.val:=by
  unfold keyOf at hk
  split at hk
  · cases hk; exact List.singleton_inj.1 h
  · cases hk; exact List.singleton_inj.1 h
  · cases hk
    simp only [R] at h
    obtain ⟨cs,h1,x,xs,rfl,h2,y,ys,rfl,h3,rfl⟩:=h
    rw [List.singleton_inj.1 h1,List.singleton_inj.1 h2,List.singleton_inj.1 h3]
    rfl
  · split at hk
    · rename_i l' hl
      cases hk
      simp only [R] at h
      obtain ⟨cs,h1,h2⟩:=h
      rw [List.singleton_inj.1 h1,J3 h2 hl]
      rfl
    · cases hk
  · cases hk
def Hh:IntKind->IntKind->Bool
  | .i8,.i8|.i16,.i16|.i32,.i32|.i64,.i64|.u8,.u8|.u16,.u16|.u32,.u32|.u64,.u64=>true
  | _,_=>false
def Bd:List KPK->List KPK->Bool
  | [],[]=>true
  | .s::r,.s::r'=>Bd r r'
  | .n a::r,.n b::r'=>bif Hh a b then Bd r r' else false
  | _,_=>false
theorem C9 {x y:IntKind} (h:Hh x y=true):x=y:=by cases x <;> cases y <;> simp [Hh] at h <;> rfl
theorem Lh:∀ {l m:List KPK},Bd l m=true->l=m:=by
  intro l
  induction l with
  | nil=>intro m h; cases m <;> simp [Bd] at h; rfl
  | cons a l ih =>
    intro m h
    cases m with
    | nil=>cases a <;> simp [Bd] at h
    | cons b m =>
      cases a <;> cases b <;> simp only [Bd] at h <;> first
        | (rw [ih h]; done)
        | (cases h; done)
        | (rename_i x y
           cases hb:Hh x y with
           | false=>simp [hb] at h
           | true=>simp only [hb,cond_true] at h; rw [C9 hb,ih h])
def gD:KK->KK->Bool
  | .s,.s=>true
  | .i a,.i b=>Hh a b
  | .a,.a=>true
  | .t l,.t m=>Bd l m
  | _,_=>false
theorem Lg {k k':KK} (h:gD k k'=true):k=k':=by
  cases k <;> cases k' <;> simp [gD] at h <;> first
    | rfl
    | (rename_i x y; rw [C9 h]; done)
    | (rename_i x y; rw [Lh h]; done)
def gO (hp:List (Nat×aG)):SV->Option aG
  | .mref id=>get? hp id
  | .fmref h i=>match get? hp h with
    | some (.fam f)=>some (f i)
    | _=>none
  | _=>none
def dC (hp:List (Nat×aG)) (m:SV) (o:aG):List (Nat×aG) :=
  match m with
  | .mref id=>dZ hp id o
  | .fmref h i=>match get? hp h with
    | some (.fam f)=>dZ hp h (.fam fun j=>bif Nat.beq j i then o else f j)
    | _=>hp
  | _=>hp
theorem dF {C:Ctx} {μ:Nat->Option (Nat×Nat)} {hp:List (Nat×aG)} {nx:Nat} {w:World} (h:aL C μ hp nx w) {m:SV} {v:Value} (hr:R (aC C μ hp w) m [v])
    {V:Type} {kk:KK} {l:List (aK×V×Nat)} {clock:Nat} {ev:V->SV} {iv:SV->Option V} (ha:gO hp m=some (.map V kk l clock ev iv)) :
    ∃ id b c es,hget hp id=some (.map V kk l clock ev iv)/\μ id=some (b,c)/\v=.map (some b)/\w.heap[b]?=some (.map es.toArray clock)/\cV (aC C μ hp w) ev l es/\(∀ x∈l,x.1.kind=kk) /\
      ∀ o,dG? o=some o->(∀ n,hget (dC hp m o) n=if id=n then some o else hget hp n)/\(∀ n o',get? (dC hp m o) n=some o'->∃ o'',get? hp n=some o''):=by
  have fin:∀ id b c,hget hp id=some (.map V kk l clock ev iv)->μ id=some (b,c)->∃ es:List MapEntry,w.heap[b]?=some (.map es.toArray clock)/\cV (aC C μ hp w) ev l es/\(∀ x∈l,x.1.kind=kk):=by
    intro id b c hg hm
    obtain ⟨b',c',y,e1,e2,h0,es,e3,e4⟩:=h.obj.obj id _ hg
    have e1':μ id=some (b',c'):=e1
    rw [hm] at e1'
    cases e1'
    exact ⟨es,e3 ▸ e2,e4,h0⟩
  cases m with
  | mref id =>
    simp only [gO] at ha
    simp only [R] at hr
    obtain ⟨b,c,m1,hv⟩:=hr
    have hg:=h.get ha rfl
    obtain ⟨es,f1,f2,f3⟩:=fin id b c hg m1
    refine ⟨id,b,c,es,hg,m1,List.singleton_inj.1 hv,f1,f2,f3,fun o ho=>⟨fun n=>?_,cM ha⟩⟩
    simp only [dC]
    rw [cK]
    exact cJ (h.obj.keys _ _ ha) (dG?_solid ho) (fun f e=>by rw [ha] at e; cases e) n
  | fmref d i =>
    simp only [gO] at ha
    split at ha
    · rename_i f hf
      simp only [R] at hr
      obtain ⟨b,c,m1,hv⟩:=hr
      have hd:=h.obj.keys _ _ hf
      have hfi:f i=.map V kk l clock ev iv:=by simpa using ha
      have hg:hget hp (fid d i)=some (.map V kk l clock ev iv):=by rw [nJ hd hf,hfi]; rfl
      obtain ⟨es,f1,f2,f3⟩:=fin _ b c hg m1
      refine ⟨fid d i,b,c,es,hg,m1,List.singleton_inj.1 hv,f1,f2,f3,fun o ho=>⟨fun n=>?_,?_⟩⟩
      · simp only [dC,hf]
        rw [cK]
        exact pW hd hf ho n
      · simp only [dC,hf]
        exact cM hf
    · cases ha
  | _=>simp [gO] at ha
def gE (ok:Bool) (x:SV) (b:Bool):SV :=
  match ok with
  | true=>.tup (.cons x (.cons (.bool b) .nil))
  | false=>x
def idn:List (Nat×aG)->List (Nat×Nat)
  | []=>[]
  | (k,_)::r=>(k,k)::idn r
theorem get?_idn {n x:Nat}:∀ {l:List (Nat×aG)},get? (idn l) n=some x->x=n:=by
  intro l
  induction l with
  | nil=>intro h; cases h
  | cons p r ih =>
    intro h
    simp only [idn,get?_cons] at h
    split at h
    · rename_i e; cases h; exact e
    · exact ih h
def Keep.same (hp:List (Nat×aG)):Keep:=⟨idn hp,true,true,false⟩
def yQ {V:Type} (hp:List (Nat×aG)) (ev:V->SV) (iv:SV->Option V) (l:List (aK×V×Nat)) (s:SV) (k:(W:Type)->(W->SV)->(SV->Option W)->List (aK×W×Nat)->W->Prop):Prop :=
  match iv s with
  | some v=>sub (Keep.same hp) hp 200 s (ev v)/\k V ev iv l v
  | none=>k SV id some (l.map fun x=>(x.1,ev x.2.1,x.2.2)) s
def fam1:List (Nat×aG)->Option Nat
  | []=>none
  | (h,.fam _)::_=>some h
  | _::r=>fam1 r
structure cZ {V:Type} (l:List (aK×V×Nat)) (k:aK) (Q:V->Nat->Prop) (R:Prop):Prop where
  hit:∀ v t,mget l k=some (v,t)->Q v t
  miss:mget l k=none->R
theorem cZ.Md {V:Type} {l:List (aK×V×Nat)} {k:aK} {v:V} {t:Nat} {Q:V->Nat->Prop} {R:Prop} (h:mget l k=some (v,t)) (hq:Q v t):cZ l k Q R :=
  ⟨(fun v' t' h'=>by cases h.symm.trans h'; exact hq),(fun h'=>by cases h.symm.trans h')⟩
theorem cZ.jH {V:Type} {l:List (aK×V×Nat)} {k:aK} {Q:V->Nat->Prop} {R:Prop} (h:mget l k=none) (hr:R):cZ l k Q R :=
  ⟨(fun v' t' h'=>by cases h.symm.trans h'),(fun _=>hr)⟩
def evM (g:Option (Nat×Bool)) (st:St) (k:SV->St->Prop):SOp->Prop
  | .mkmap kk=>match fam1 st.hp with
    | none=>bif Nat.blt st.nx FB then k (.mref st.nx) ⟨st.fr,(st.nx,.map SV kk [] 0 id some)::st.hp,st.nx+1⟩ else False
    | some h=>match get? st.hp h with
      | some (.fam f)=>∃ j,f j=.gone/\k (.fmref h j) ⟨st.fr,dC st.hp (.fmref h j) (.map SV kk [] 0 id some),st.nx⟩
      | _=>False
  | .mlook z ok kk m key=>match keyOf (gx g st.fr key) with
    | some kv=>bif gD kv.kind kk then
        match gx g st.fr m with
        | .val (.map none)=>k (gE ok z.sv false) st
        | ms=>match gO st.hp ms with
          | some (.map _ kk' l _ ev _)=>bif gD kk' kk then
              cZ l kv (fun v _t=>k (gE ok (ev v) true) st) (k (gE ok z.sv false) st)
            else False
          | _=>False
      else False
    | none=>False
  | .mupd kk m key v=>match keyOf (gx g st.fr key) with
    | some kv=>bif gD kv.kind kk then
        match gO st.hp (gx g st.fr m) with
        | some (.map _ kk' l clock ev iv)=>bif gD kk' kk then
            yQ st.hp ev iv l (gx g st.fr v) fun W ev iv l v =>
              cZ l kv (fun _u _t=>k (.val undef) ⟨st.fr,dC st.hp (gx g st.fr m) (.map W kk' (mput l kv v) clock ev iv),st.nx⟩)
                (k (.val undef) ⟨st.fr,dC st.hp (gx g st.fr m) (.map W kk' (l++[(kv,v,clock)]) (clock+1) ev iv),st.nx⟩)
          else False
        | _=>False
      else False
    | none=>False
  | .ment z kk m key=>match keyOf (gx g st.fr key) with
    | some kv=>bif gD kv.kind kk then
        match gO st.hp (gx g st.fr m) with
        | some (.map _ kk' l clock ev iv)=>bif gD kk' kk then
            cZ l kv (fun v t=>k (.tup (.cons (ev v) (.cons (.int .i64 (t:Int)) .nil))) st)
              (yQ st.hp ev iv l z.sv fun W ev iv l v =>
              k (.tup (.cons z.sv (.cons (.int .i64 (clock:Int)) .nil))) ⟨st.fr,dC st.hp (gx g st.fr m) (.map W kk' (l++[(kv,v,clock)]) (clock+1) ev iv),st.nx⟩)
          else False
        | _=>False
      else False
    | none=>False
  | .mesto m t v=>match gx g st.fr t with
    | .int _ n=>match gO st.hp (gx g st.fr m) with
      | some (.map _ kk l clock ev iv)=>yQ st.hp ev iv l (gx g st.fr v) fun W ev iv l v =>
          ∃ t:Nat,n=(t:Int)/\(∃ x∈l,x.2.2=t)/\k (.val undef) ⟨st.fr,dC st.hp (gx g st.fr m) (.map W kk (mset l t v) clock ev iv),st.nx⟩
      | _=>False
    | _=>False
  | .mdele kk m key=>match keyOf (gx g st.fr key) with
    | some kv=>bif gD kv.kind kk then
        match gx g st.fr m with
        | .val (.map none)=>k (.val (.tuple #[])) st
        | ms=>match gO st.hp ms with
          | some (.map V kk' l clock ev iv)=>bif gD kk' kk then
              k (.val (.tuple #[])) ⟨st.fr,dC st.hp ms (.map V kk' (mdel l kv) clock ev iv),st.nx⟩
            else False
          | _=>False
      else False
    | none=>False
  | .mlen m=>match gx g st.fr m with
    | .val (.map none)=>k (.int .i64 0) st
    | ms=>match gO st.hp ms with
      | some (.map _ _ l _ _ _)=>k (.int .i64 (l.length:Int)) st
      | _=>False
  | .mrange m=>bif Nat.blt st.nx FB then
      match gx g st.fr m with
      | .val (.map none)=>k (.own st.nx 0) ⟨st.fr,(st.nx,.iter (.val (.map none)) 0 [] 0)::st.hp,st.nx+1⟩
      | ms=>match gO st.hp ms with
        | some (.map _ _ _ clock _ _)=>k (.own st.nx 0) ⟨st.fr,(st.nx,.iter ms clock [] clock)::st.hp,st.nx+1⟩
        | _=>False
    else False
  | .mnext it=>match gx g st.fr it with
    | .own id 0=>match get? st.hp id with
      | some (.iter (.val (.map none)) _ _ _)=>k (.tup (.cons (.bool false) .nil)) st
      | some (.iter src since seen last)=>match gO st.hp src with
        | some (.map _ _ l clock ev _) =>
          (∀ x∈l,x.2.2 < since)/\since<=last /\
          (∀ x∈l,x.2.2 ∉ seen->k (.tup (.cons (.bool true) (.cons x.1.sv (.cons (ev x.2.1) .nil)))) ⟨st.fr,dZ st.hp id (.iter src since (seen++[x.2.2]) clock),st.nx⟩) /\
          ((∀ x∈l,x.2.2∈seen)->k (.tup (.cons (.bool false) .nil)) st)
        | _=>False
      | _=>False
    | _=>False
  | .mentry it=>match gx g st.fr it with
    | .own id 0=>match get? st.hp id with
      | some (.iter src _ seen last)=>match gO st.hp src with
        | some (.map _ _ l clock ev _)=>clock=last/\∃ x∈l,(∀ y∈l,y.2.2=x.2.2->y=x)/\(∃ s0,seen=s0++[x.2.2])/\k (.tup (.cons x.1.sv (.cons (ev x.2.1) .nil))) st
        | _=>False
      | _=>False
    | _=>False
  | _=>False
def rP (hp:List (Nat×aG)) (ms:SV) (k:aG->Prop):Prop :=
  match ms with
  | .mref id=>match get? hp id with
    | some o=>k o
    | none=>False
  | .fmref h i=>match get? hp h with
    | some (.fam f)=>∃ o,f i=o/\k o
    | _=>False
  | _=>False
theorem gB {hp:List (Nat×aG)} {ms:SV} {k:aG->Prop} (h:rP hp ms k):∃ o,gO hp ms=some o/\k o:=by
  unfold rP at h
  split at h
  · split at h
    · rename_i id o ho; exact ⟨o,ho,h⟩
    · exact h.elim
  · split at h
    · rename_i d i f hf
      obtain ⟨o,ho,hk⟩:=h
      exact ⟨o,by simp only [gO,hf,ho],hk⟩
    · exact h.elim
  · exact h.elim
def qF (g:Option (Nat×Bool)) (st:St) (k:SV->St->Prop):SOp->Prop
  | .mkmap kk=>match fam1 st.hp with
    | none=>bif Nat.blt st.nx FB then k (.mref st.nx) ⟨st.fr,(st.nx,.map SV kk [] 0 id some)::st.hp,st.nx+1⟩ else False
    | some h=>match get? st.hp h with
      | some (.fam f)=>∃ j,f j=.gone/\k (.fmref h j) ⟨st.fr,dC st.hp (.fmref h j) (.map SV kk [] 0 id some),st.nx⟩
      | _=>False
  | .mlook z ok kk m key=>match keyOf (gx g st.fr key) with
    | some kv=>bif gD kv.kind kk then
        match gx g st.fr m with
        | .val (.map none)=>k (gE ok z.sv false) st
        | ms=>rP st.hp ms fun o=>match o with
          | .map _ kk' l _ ev _=>bif gD kk' kk then
              cZ l kv (fun v _t=>k (gE ok (ev v) true) st) (k (gE ok z.sv false) st)
            else False
          | _=>False
      else False
    | none=>False
  | .mupd kk m key v=>match keyOf (gx g st.fr key) with
    | some kv=>bif gD kv.kind kk then
        rP st.hp (gx g st.fr m) fun o=>match o with
        | .map _ kk' l clock ev iv=>bif gD kk' kk then
            yQ st.hp ev iv l (gx g st.fr v) fun W ev iv l v =>
              cZ l kv (fun _u _t=>k (.val undef) ⟨st.fr,dC st.hp (gx g st.fr m) (.map W kk' (mput l kv v) clock ev iv),st.nx⟩)
                (k (.val undef) ⟨st.fr,dC st.hp (gx g st.fr m) (.map W kk' (l++[(kv,v,clock)]) (clock+1) ev iv),st.nx⟩)
          else False
        | _=>False
      else False
    | none=>False
  | .ment z kk m key=>match keyOf (gx g st.fr key) with
    | some kv=>bif gD kv.kind kk then
        rP st.hp (gx g st.fr m) fun o=>match o with
        | .map _ kk' l clock ev iv=>bif gD kk' kk then
            cZ l kv (fun v t=>k (.tup (.cons (ev v) (.cons (.int .i64 (t:Int)) .nil))) st)
              (yQ st.hp ev iv l z.sv fun W ev iv l v =>
              k (.tup (.cons z.sv (.cons (.int .i64 (clock:Int)) .nil))) ⟨st.fr,dC st.hp (gx g st.fr m) (.map W kk' (l++[(kv,v,clock)]) (clock+1) ev iv),st.nx⟩)
          else False
        | _=>False
      else False
    | none=>False
  | .mesto m t v=>match gx g st.fr t with
    | .int _ n=>rP st.hp (gx g st.fr m) fun o=>match o with
      | .map _ kk l clock ev iv=>yQ st.hp ev iv l (gx g st.fr v) fun W ev iv l v =>
          ∃ t:Nat,n=(t:Int)/\(∃ x∈l,x.2.2=t)/\k (.val undef) ⟨st.fr,dC st.hp (gx g st.fr m) (.map W kk (mset l t v) clock ev iv),st.nx⟩
      | _=>False
    | _=>False
  | .mdele kk m key=>match keyOf (gx g st.fr key) with
    | some kv=>bif gD kv.kind kk then
        match gx g st.fr m with
        | .val (.map none)=>k (.val (.tuple #[])) st
        | ms=>rP st.hp ms fun o=>match o with
          | .map V kk' l clock ev iv=>bif gD kk' kk then
              k (.val (.tuple #[])) ⟨st.fr,dC st.hp ms (.map V kk' (mdel l kv) clock ev iv),st.nx⟩
            else False
          | _=>False
      else False
    | none=>False
  | .mlen m=>match gx g st.fr m with
    | .val (.map none)=>k (.int .i64 0) st
    | ms=>rP st.hp ms fun o=>match o with
      | .map _ _ l _ _ _=>k (.int .i64 (l.length:Int)) st
      | _=>False
  | .mrange m=>bif Nat.blt st.nx FB then
      match gx g st.fr m with
      | .val (.map none)=>k (.own st.nx 0) ⟨st.fr,(st.nx,.iter (.val (.map none)) 0 [] 0)::st.hp,st.nx+1⟩
      | ms=>rP st.hp ms fun o=>match o with
        | .map _ _ _ clock _ _=>k (.own st.nx 0) ⟨st.fr,(st.nx,.iter ms clock [] clock)::st.hp,st.nx+1⟩
        | _=>False
    else False
  | .mnext it=>match gx g st.fr it with
    | .own id 0=>match get? st.hp id with
      | some (.iter (.val (.map none)) _ _ _)=>k (.tup (.cons (.bool false) .nil)) st
      | some (.iter src since seen last)=>rP st.hp src fun o=>match o with
        | .map _ _ l clock ev _ =>
          (∀ x∈l,x.2.2 < since)/\since<=last /\
          (∀ x∈l,x.2.2 ∉ seen->k (.tup (.cons (.bool true) (.cons x.1.sv (.cons (ev x.2.1) .nil)))) ⟨st.fr,dZ st.hp id (.iter src since (seen++[x.2.2]) clock),st.nx⟩) /\
          ((∀ x∈l,x.2.2∈seen)->k (.tup (.cons (.bool false) .nil)) st)
        | _=>False
      | _=>False
    | _=>False
  | .mentry it=>match gx g st.fr it with
    | .own id 0=>match get? st.hp id with
      | some (.iter src _ seen last)=>rP st.hp src fun o=>match o with
        | .map _ _ l clock ev _=>clock=last/\∃ x∈l,(∀ y∈l,y.2.2=x.2.2->y=x)/\(∃ s0,seen=s0++[x.2.2])/\k (.tup (.cons x.1.sv (.cons (ev x.2.1) .nil))) st
        | _=>False
      | _=>False
    | _=>False
  | _=>False
theorem dR {g:Option (Nat×Bool)} {st:St} {k:SV->St->Prop} {so:SOp} (h:qF g st k so):evM g st k so:=by
  cases so <;> try exact h
  case mlook z ok kk m key =>
    simp only [qF,evM] at h ⊢
    split at h
    · rename_i kv hkv
      try rw [hkv]
      cases hb:gD kv.kind kk with
      | false=>rw [hb] at h; exact h
      | true =>
        rw [hb] at h
        dsimp only [cond_true] at h ⊢
        generalize gx g st.fr m=ms at h ⊢
        split at h
        · exact h
        · rename_i hne
          obtain ⟨o,ho,h⟩:=gB h
          rw [ho]; cases o <;> exact h
    · exact h.elim
  case mupd kk m key v =>
    simp only [qF,evM] at h ⊢
    split at h
    · rename_i kv hkv
      try rw [hkv]
      cases hb:gD kv.kind kk with
      | false=>rw [hb] at h; exact h
      | true =>
        rw [hb] at h
        dsimp only [cond_true] at h ⊢
        obtain ⟨o,ho,h⟩:=gB h
        rw [ho]
        cases o <;> exact h
    · exact h.elim
  case ment z kk m key =>
    simp only [qF,evM] at h ⊢
    split at h
    · rename_i kv hkv
      try rw [hkv]
      cases hb:gD kv.kind kk with
      | false=>rw [hb] at h; exact h
      | true =>
        rw [hb] at h
        dsimp only [cond_true] at h ⊢
        obtain ⟨o,ho,h⟩:=gB h
        rw [ho]
        cases o <;> exact h
    · exact h.elim
  case mesto m t v =>
    simp only [qF,evM] at h ⊢
    split at h
    · rename_i n hn
      try rw [hn]
      try dsimp only
      obtain ⟨o,ho,h⟩:=gB h
      rw [ho]
      cases o <;> exact h
    · exact h.elim
  case mdele kk m key =>
    simp only [qF,evM] at h ⊢
    split at h
    · rename_i kv hkv
      try rw [hkv]
      cases hb:gD kv.kind kk with
      | false=>rw [hb] at h; exact h
      | true =>
        rw [hb] at h
        dsimp only [cond_true] at h ⊢
        generalize gx g st.fr m=ms at h ⊢
        split at h
        · exact h
        · rename_i hne
          obtain ⟨o,ho,h⟩:=gB h
          rw [ho]; cases o <;> exact h
    · exact h.elim
  case mlen m =>
    simp only [qF,evM] at h ⊢
    generalize gx g st.fr m=ms at h ⊢
    split at h
    · exact h
    · rename_i hne
      obtain ⟨o,ho,h⟩:=gB h
      rw [ho]; cases o <;> exact h
  case mrange m =>
    simp only [qF,evM] at h ⊢
    cases hb:Nat.blt st.nx FB with
    | false=>rw [hb] at h; exact h
    | true =>
      rw [hb] at h
      dsimp only [cond_true] at h ⊢
      generalize gx g st.fr m=ms at h ⊢
      split at h
      · exact h
      · rename_i hne
        obtain ⟨o,ho,h⟩:=gB h
        rw [ho]; cases o <;> exact h
  case mnext it =>
    simp only [qF,evM] at h ⊢
    split at h
    · rename_i id hid
      try rw [hid]
      try dsimp only
      split at h
      · rename_i hg; (try rw [hg]); exact h
      · rename_i src since seen last hne hg
        try rw [hg]
        obtain ⟨o,ho,h⟩:=gB h
        rw [ho]; cases o <;> exact h
      · exact h.elim
    · exact h.elim
  case mentry it =>
    simp only [qF,evM] at h ⊢
    split at h
    · rename_i id hid
      try rw [hid]
      try dsimp only
      split at h
      · rename_i hg
        try rw [hg]
        try dsimp only
        obtain ⟨o,ho,h⟩:=gB h
        rw [ho]
        cases o <;> exact h
      · exact h.elim
    · exact h.elim
section
variable {P:Program} {w:World}
theorem kX {E:Env} {t:TypeId} {z:CV} (h:zeroV P t=some z):∃ u,(zeroValue t).run P w=.ok u w/\R E z.sv [u]:=by
  simp only [zeroV,Option.bind_eq_bind,Option.bind_eq_some_iff] at h
  obtain ⟨i,h1,h2⟩:=h
  split at h2
  · rename_i v hv
    exact ⟨v,dJ w h1 hv,Fo h2⟩
  · cases h2
theorem oR {E:Env} {ok:Bool} {s:SV} {u:Value} {b:Bool} (h:R E s [u]):R E (gE ok s b) [if ok=true then .tuple #[u,.bool b] else u]:=by
  cases ok with
  | true=>simp only [gE,if_true,R]; exact ⟨[u,.bool b],rfl,u,[.bool b],rfl,h,.bool b,[],rfl,rfl,rfl⟩
  | false=>simpa [gE] using h
theorem Bi {t kt et:TypeId} {kk:KK} (ht:P.underlying t=some (.map kt et)) (hk:iS P kt=some kk) {z:CV} (hz:zeroV P et=some z) {k:aK} (hkd:k.kind=kk) {b clock:Nat} {es:List MapEntry} (hb:w.heap[b]?=some (.map es.toArray clock))
    {E:Env} {V:Type} {ev:V->SV} {l:List (aK×V×Nat)} (he:cV E ev l es) (hkk:∀ x∈l,x.1.kind=kk) (ok:Bool) :
    (∃ v t' u,mget l k=some (v,t')/\R E (ev v) [u]/\(Instr.lookup t (.map (some b)) k.val ok).run P w=.ok (if ok=true then .tuple #[u,.bool true] else u) w) \/
    (mget l k=none/\∃ u,R E z.sv [u]/\(Instr.lookup t (.map (some b)) k.val ok).run P w=.ok (if ok=true then .tuple #[u,.bool false] else u) w):=by
  have hf:=kA (w:=w) hk hkd he hkk
  have hc:=fun em=>gJ (w:=w) hk hkd em
  rcases nF l es 0 he with ⟨h1,h2⟩|⟨v,t',j,e,h1,h2,h3,h4,h5,h6,h7,h8⟩
  · right
    obtain ⟨u,hu,hR⟩:=kX (w:=w) (E:=E) hz
    refine ⟨h1,u,hR,?_⟩
    unfold Instr.lookup
    simp only [Sem.run_bind,aB w ht,Result.andThen_ok,MapKept.run_getObj_map hb,Sem.run_pure,hc,hf,h2,hu]
  · left
    refine ⟨v,t',e.val,h1,h5,?_⟩
    unfold Instr.lookup
    simp only [Sem.run_bind,aB w ht,Result.andThen_ok,MapKept.run_getObj_map hb,Sem.run_pure,hc,hf,h2]
theorem lookup_nil {t kt et:TypeId} {kk:KK} (ht:P.underlying t=some (.map kt et)) (hk:iS P kt=some kk) {z:CV} (hz:zeroV P et=some z) {k:aK} (hkd:k.kind=kk) {E:Env} (ok:Bool) :
    ∃ u,R E z.sv [u]/\(Instr.lookup t (.map none) k.val ok).run P w=.ok (if ok=true then .tuple #[u,.bool false] else u) w:=by
  obtain ⟨u,hu,hR⟩:=kX (w:=w) (E:=E) hz
  have hc:=fun em=>gJ (w:=w) hk hkd em
  have hf:=kA (P:=P) (w:=w) hk hkd (E:=E) (V:=Unit) (ev:=fun _=>.junk) (l:=[]) (es:=[]) rfl (by simp)
  simp only [fnd] at hf
  refine ⟨u,hR,?_⟩
  unfold Instr.lookup
  simp only [Sem.run_bind,aB w ht,Result.andThen_ok,Sem.run_pure,hc,hf,hu]
def jU (w:World) (b:Nat) (o:Obj):World:={ w with heap:=w.heap.setIfInBounds b o }
theorem Ci {t kt et:TypeId} {kk:KK} (ht:P.underlying t=some (.map kt et)) (hk:iS P kt=some kk) {k:aK} (hkd:k.kind=kk) {b clock:Nat} {es:List MapEntry} (hb:w.heap[b]?=some (.map es.toArray clock))
    {E:Env} {V:Type} {ev:V->SV} {l:List (aK×V×Nat)} (he:cV E ev l es) (hkk:∀ x∈l,x.1.kind=kk) {v:V} {u:Value} (hu:R E (ev v) [u]) :
    (∃ v' t' es',mget l k=some (v',t')/\cV E ev (mput l k v) es'/\(Instr.mapUpdate t (.map (some b)) k.val u).run P w=.ok () (jU w b (.map es'.toArray clock))) \/
    (mget l k=none/\∃ es',cV E ev (l++[(k,v,clock)]) es'/\(Instr.mapUpdate t (.map (some b)) k.val u).run P w=.ok () (jU w b (.map es'.toArray (clock+1)))):=by
  have hf:=kA (w:=w) hk hkd he hkk
  have hc:=fun em=>gJ (w:=w) hk hkd em
  rcases nF l es 0 he with ⟨h1,h2⟩|⟨v',t',j,e,h1,h2,h3,h4,h5,h6,h7,h8⟩
  · right
    refine ⟨h1,es++[⟨k.val,u,clock⟩],pP he ⟨_,[],rfl,rfl,hu,rfl,rfl⟩,?_⟩
    unfold Instr.mapUpdate
    simp only [Sem.run_bind,aB w ht,Result.andThen_ok,MapKept.run_getObj_map hb,hc,hf,h2,MapKept.run_setObj_map _ hb]
    simp [jU]
  · left
    refine ⟨v',t',_,h1,h8 v u hu,?_⟩
    rw [Nat.zero_add] at h2
    have hkey:((es.toArray[j]?.map (·.key)).getD k.val)=k.val:=by simp [h3,h4]
    unfold Instr.mapUpdate
    simp only [Sem.run_bind,aB w ht,Result.andThen_ok,MapKept.run_getObj_map hb,hc,hf,h2,hkey,tW,MapKept.run_setObj_map _ hb]
    simp [jU]
theorem D1 {t kt et:TypeId} {kk:KK} (ht:P.underlying t=some (.map kt et)) (hk:iS P kt=some kk) {z:CV} (hz:zeroV P et=some z) {k:aK} (hkd:k.kind=kk) {b clock:Nat} {es:List MapEntry} (hb:w.heap[b]?=some (.map es.toArray clock))
    {E:Env} {V:Type} {ev:V->SV} {l:List (aK×V×Nat)} (he:cV E ev l es) (hkk:∀ x∈l,x.1.kind=kk) :
    (∃ v t' u,mget l k=some (v,t')/\R E (ev v) [u]/\(Instr.mapEntry t (.map (some b)) k.val).run P w=.ok (.tuple #[u,goInt (t':Int)]) (jU w b (.map es.toArray clock))) \/
    (mget l k=none/\∃ u,R E z.sv [u]/\(Instr.mapEntry t (.map (some b)) k.val).run P w=.ok (.tuple #[u,goInt (clock:Int)]) (jU w b (.map (es++[({ key:=k.val,val:=u,born:=clock }:MapEntry)]).toArray (clock+1)))):=by
  have hf:=kA (w:=w) hk hkd he hkk
  have hc:=fun em=>gJ (w:=w) hk hkd em
  rcases nF l es 0 he with ⟨h1,h2⟩|⟨v',t',j,e,h1,h2,h3,h4,h5,h6,h7,h8⟩
  · right
    obtain ⟨u,hu,hR⟩:=kX (w:=w) (E:=E) hz
    refine ⟨h1,u,hR,?_⟩
    unfold Instr.mapEntry
    simp only [Sem.run_bind,aB w ht,Result.andThen_ok,MapKept.run_getObj_map hb,hc,hf,h2,hu,MapKept.run_setObj_map _ hb]
    simp [jU]
  · left
    refine ⟨v',t',e.val,h1,h5,?_⟩
    rw [Nat.zero_add] at h2
    have hkey:((es.toArray[j]?.map (·.key)).getD k.val)=k.val:=by simp [h3,h4]
    have hmod:es.toArray.modify j (fun e=>{ e with key:=k.val })=es.toArray:=by
      apply Array.ext'
      simp only [Array.toList_modify]
      apply List.ext_getElem?
      intro q
      rw [List.getElem?_modify]
      by_cases hq:j=q
      · subst hq; simp [h3,<- h4]
      · simp [hq]
    unfold Instr.mapEntry
    simp only [Sem.run_bind,aB w ht,Result.andThen_ok,MapKept.run_getObj_map hb,hc,hf,h2,hkey,tW,MapKept.run_setObj_map _ hb,hmod]
    simp [jU,h3,h6]
theorem Am {t kt et:TypeId} {kk:KK} (ht:P.underlying t=some (.map kt et)) (hk:iS P kt=some kk) {k:aK} (hkd:k.kind=kk) {b clock:Nat} {es:List MapEntry} (hb:w.heap[b]?=some (.map es.toArray clock))
    {E:Env} {V:Type} {ev:V->SV} {l:List (aK×V×Nat)} (he:cV E ev l es) (hkk:∀ x∈l,x.1.kind=kk) (ts:Array TypeId) (hts:ts[0]?=some t) (ty:TypeId) :
    ∃ es',cV E ev (mdel l k) es'/\(Builtin.delete_ ts ty #[.map (some b),k.val]).run P w=.ok (.tuple #[]) (jU w b (.map es'.toArray clock)):=by
  have hf:=kA (w:=w) hk hkd he hkk
  have hc:=fun em=>gJ (w:=w) hk hkd em
  have none_same:∀ l:List (aK×V×Nat),mget l k=none->mdel l k=l:=by
    intro l
    induction l with
    | nil=>intro _; rfl
    | cons x r ih =>
      intro h
      simp only [mget] at h
      split at h
      · cases h
      · rename_i hne
        simp only [mdel,hne,if_false,ih h]
  rcases nF l es 0 he with ⟨h1,h2⟩|⟨v',t',j,e,h1,h2,h3,h4,h5,h6,h7,h8⟩
  · refine ⟨es,by rw [none_same l h1]; exact he,?_⟩
    unfold Builtin.delete_
    simp only [hts]
    simp [aB w ht,MapKept.run_getObj_map hb,hc,hf,h2,MapKept.run_setObj_map _ hb,jU]
  · refine ⟨_,h7,?_⟩
    rw [Nat.zero_add] at h2
    have hlt:j < es.length:=(List.getElem?_eq_some_iff.1 h3).1
    unfold Builtin.delete_
    simp only [hts]
    simp [aB w ht,MapKept.run_getObj_map hb,hc,hf,h2,MapKept.run_setObj_map _ hb,jU,Array.eraseIdxIfInBounds,hlt]
section
variable {C:Ctx} {μ:Nat->Option (Nat×Nat)} {hp:List (Nat×aG)} {nx:Nat}
theorem Jj (hH:HpR (aC C μ hp w) hp) {s t:SV} {vs:List Value} (h:sub (Keep.same hp) hp 200 s t) (hr:R (aC C μ hp w) s vs):R (aC C μ hp w) t vs :=
  fP (E:=aC C μ hp w) (E':=aC C μ hp w) (keep:=Keep.same hp) ⟨fun _=>⟨fun _ h=>h,fun _ _=>rfl⟩,(fun _ _ _ h=>by cases get?_idn h; first|exact id|rfl|(intro e; exact e)),(fun _ _ _ _ h=>by cases get?_idn h; first|exact id|rfl|(intro e; exact e)),rfl,fun _ _ _ _ _ _ h=>by simp [kept,Keep.same] at h⟩ hH 200 s t vs h hr
theorem oS (hH:HpR (aC C μ hp w) hp) {V:Type} {ev:V->SV} {iv:SV->Option V} {l:List (aK×V×Nat)} {es:List MapEntry} {kk:KK} {s:SV} {u:Value} (hs:R (aC C μ hp w) s [u]) (he:cV (aC C μ hp w) ev l es) (hkk:∀ x∈l,x.1.kind=kk)
    {k:(W:Type)->(W->SV)->(SV->Option W)->List (aK×W×Nat)->W->Prop} (h:yQ hp ev iv l s k) :
    ∃ (W:Type) (ev':W->SV) (iv':SV->Option W) (l':List (aK×W×Nat)) (v':W),k W ev' iv' l' v'/\cV (aC C μ hp w) ev' l' es/\(∀ x∈l',x.1.kind=kk)/\R (aC C μ hp w) (ev' v') [u]:=by
  unfold yQ at h
  split at h
  · rename_i v hv
    exact ⟨V,ev,iv,l,v,h.2,he,hkk,Jj hH h.1 hs⟩
  · refine ⟨SV,id,some,_,s,h,J1 (g:=ev) (fun _=>rfl) he,?_,hs⟩
    intro x hx
    simp only [List.mem_map] at hx
    obtain ⟨y,hy,rfl⟩:=hx
    exact hkk y hy
theorem fN (h:aL C μ hp nx w) {hp':List (Nat×aG)} {id b c:Nat} {o x:aG} {y:Obj} (hh:∀ n,hget hp' n=if id=n then some x else hget hp n) (hk:∀ n o',get? hp' n=some o'->∃ o'',get? hp n=some o'')
    (hg:hget hp id=some o) (hm:μ id=some (b,c)) (hx:HR (aC C μ hp w) x c y) (hn:∀ l p,o≠.hid l p:=by intro _ _ e; cases e):(aC C μ hp w).Le (aC C μ hp' (jU w b y))/\aL C μ hp' nx (jU w b y):=by
  have hlt:=h.lt hg hm
  refine h.write hh hk hg hm (by simp [jU]) (fun k hk=>?_) ?_ rfl rfl rfl hx hn
  · simp [jU,Ne.symm hk]
  · simp [jU,hlt]
theorem xY {E:Env} (k:aK):R E k.sv [k.val]:=by
  cases k with
  | s b=>rfl
  | i k n=>rfl
  | a x y=>exact ⟨[.int .i64 x,.int .i64 y],rfl,.int .i64 x,[.int .i64 y],rfl,rfl,.int .i64 y,[],rfl,rfl,rfl⟩
  | t l =>
    refine ⟨_,rfl,?_⟩
    induction l with
    | nil=>rfl
    | cons x l ih=>exact ⟨x.val,l.map KP.val,rfl,by cases x <;> rfl,ih⟩
theorem qU {E:Env} {V:Type} {ev:V->SV}:∀ {l:List (aK×V×Nat)} {es:List MapEntry},cV E ev l es->∀ e∈es,∃ x∈l,e.key=x.1.val/\R E (ev x.2.1) [e.val]/\e.born=x.2.2:=by
  intro l
  induction l with
  | nil=>intro es h e he; simp only [cV] at h; subst h; cases he
  | cons x r ih =>
    intro es h e he
    obtain ⟨e0,t,rfl,h2,h3,h4,h5⟩:=h
    rcases List.mem_cons.1 he with rfl|he
    · exact ⟨x,List.mem_cons_self ..,h2,h3,h4⟩
    · obtain ⟨y,hy,h⟩:=ih h5 e he
      exact ⟨y,List.mem_cons_of_mem _ hy,h⟩
theorem tG {E:Env} {V:Type} {ev:V->SV}:∀ {l:List (aK×V×Nat)} {es:List MapEntry},cV E ev l es->∀ x∈l,∃ e∈es,e.key=x.1.val/\R E (ev x.2.1) [e.val]/\e.born=x.2.2:=by
  intro l
  induction l with
  | nil=>intro es _ x hx; cases hx
  | cons y r ih =>
    intro es h x hx
    obtain ⟨e0,t,rfl,h2,h3,h4,h5⟩:=h
    rcases List.mem_cons.1 hx with rfl|hx
    · exact ⟨e0,List.mem_cons_self ..,h2,h3,h4⟩
    · obtain ⟨e,he,h⟩:=ih h5 x hx
      exact ⟨e,List.mem_cons_of_mem _ he,h⟩
end
end
end Go.Eng
end
