/- A part of the proof. -/
import Derived.Test.YtpiolkcdfgiefaaGreatDoorEngQ
import Derived.MapKept
import Derived.WideKeyRuns
import Derived.ChangeKeysEq
section
set_option maxHeartbeats 10000000
namespace Go.Eng
open Go Go.RowKit
universe u
def mget{V:Type u}:List (bQ×V×Nat)->bQ->Option (V×Nat)
 | [],_=>none
 |x::r,k=>if x.1=k then some x.2 else mget r k
def mput{V:Type u}:List (bQ×V×Nat)->bQ->V->List (bQ×V×Nat)
 | [],_,_=>[]
 |x::r,k,v=>if x.1=k then (k,v,x.2.2)::r else x::mput r k v
def mdel{V:Type u}:List (bQ×V×Nat)->bQ->List (bQ×V×Nat)
 | [],_=>[]
 |x::r,k=>if x.1=k then r else x::mdel r k
def mset{V:Type u}:List (bQ×V×Nat)->Nat->V->List (bQ×V×Nat)
 | [],_,_=>[]
 |x::r,t,v=>if x.2.2=t then (x.1,v,t)::r else x::mset r t v
section
variable {P:Program} {w:World}
theorem parts2{e:TypeId}{k:IntKind}(h1:P.underlying e=some (.int k))(a b:Int)(j:Nat)(hj:j<2) :
  (part e #[Value.int .i64 a,Value.int .i64 b] (j*1)).run P w=.ok (if j=0 then .int .i64 a else .int .i64 b) w:=by
 have:j=0\/j=1:=by omega
 rcases this with rfl|rfl<;>simp[part,isAgg,aJ w h1]
theorem tJ{kk:KP}{t:TypeId}{pre post:List Value}{i:Nat}(hi:pre.length=i)(ht:(P.underlying t=some .string)\/∃k,P.underlying t=some (.int k)):(part t (pre++kk.val::post).toArray i).run P w=.ok kk.val w:=by
 rcases ht with ht|⟨k,ht⟩<;>simp[part,isAgg,aJ w ht,<- hi]
theorem tI{x:KP}{r:List KP}{k:KPK}{ks:List KPK}(h:(x::r).map KP.kind=k::ks):x.kind=k/\r.map KP.kind=ks:=by grind
theorem Ow(em:Bool)(n:Nat):∀(fs:List Field) (i:Nat) (ks:List KPK) (l:List KP) (pre:List Value),Bn P i fs=some ks->pre.length=i->l.map KP.kind=ks ->
  (forIn fs PUnit.unit fun f (_ : PUnit) => (if f.name ≠ "_" then do
    let v <- part f.type (pre++l.map KP.val).toArray f.offset
    Instr.checkKey em (n+1) f.type v
    pure (ForInStep.yield PUnit.unit)
   else pure (ForInStep.yield PUnit.unit):Sem (ForInStep PUnit))).run P w=.ok PUnit.unit w:=by
 intro fs;induction fs with
 |nil=>simp
 |cons f fs ih =>
  intro i ks l pre hc hi hl;simp only [Bn] at hc;cases hb : (f.name != "_" && Nat.beq f.offset i) with
  |false=>grind
  |true =>
   simp only [hb] at hc;obtain ⟨hn, ho⟩ := Bool.and_eq_true_iff.1 hb;have hn' : f.name ≠ "_" := by grind
   have ho':f.offset=i:=nbeq ho;obtain⟨k,r,hr,rfl,ht,hck⟩:∃k r,Bn P (i+1) fs=some r/\ks=k::r/\((P.underlying f.type=some .string)\/∃k,P.underlying f.type=some (.int k))/\∀x:KP,x.kind=k->(Instr.checkKey em (n+1) f.type x.val).run P w=.ok () w:=by
    split at hc
    .rename_i ht;obtain⟨r,hr,rfl⟩:=aF.1 hc;refine⟨_,r,hr,rfl,.inl ht,λx hx=>?_⟩;simp_all[KP.kind,Instr.checkKey,aJ,KP.val]
    .rename_i q ht;obtain⟨r,hr,rfl⟩:=aF.1 hc;refine⟨_,r,hr,rfl,.inr ⟨q,ht⟩,λx hx=>?_⟩;cases x<;>simp[KP.kind]at hx;simp[Instr.checkKey,aJ w ht,KP.val]
    .cases hc
   cases l with
   |nil=>simp at hl
   |cons x l =>
    obtain⟨hk,hl'⟩:=tI hl;have hp:=tJ (P:=P) (w:=w) (kk:=x) (post:=l.map KP.val) hi ht;have:=ih (i+1) r l (pre++[x.val]) hr (by simp[hi]) hl';simp_all
theorem aCa(n:Nat):∀(fs:List Field) (i:Nat) (ks:List KPK) (l l':List KP) (pre pre':List Value),Bn P i fs=some ks->pre.length=i->pre'.length=i->l.map KP.kind=ks->l'.map KP.kind=ks ->
  (Op.eqFields (n+1) (pre++l.map KP.val).toArray (pre'++l'.map KP.val).toArray fs).run P w=.ok (decide (l=l')) w:=by
 intro fs;induction fs with
 |nil =>
  simp_all[Bn,Option.some.injEq,Op.eqFields]
 |cons f fs ih =>
  intro i ks l l' pre pre' hc hi hi' hl hl';simp only [Bn] at hc;cases hb : (f.name != "_" && Nat.beq f.offset i) with
  |false=>grind
  |true =>
   simp only [hb] at hc;obtain ⟨hn, ho⟩ := Bool.and_eq_true_iff.1 hb;have hn' : f.name ≠ "_" := by grind
   have ho':f.offset=i:=nbeq ho;obtain⟨k,r,hr,rfl,ht,hck⟩:∃k r,Bn P (i+1) fs=some r/\ks=k::r/\((P.underlying f.type=some .string)\/∃k,P.underlying f.type=some (.int k))/\∀x y:KP,x.kind=k->y.kind=k->(Op.equalIn (n+1) f.type x.val y.val).run P w=.ok (decide (x=y)) w:=by
    split at hc
    .rename_i ht;obtain⟨r,hr,rfl⟩:=aF.1 hc;refine⟨_,r,hr,rfl,.inl ht,λx y hx hy=>?_⟩;cases x<;>simp[KP.kind]at hx;cases y<;>simp[KP.kind]at hy;simp only[Op.equalIn,Sem.run_bind,aJ w ht,KP.val,Result.andThen_ok,Sem.run_pure,KP.s.injEq];congr 1;rw[bH,MapKept.bytes_beq];simp
    .rename_i q ht;obtain⟨r,hr,rfl⟩:=aF.1 hc;refine⟨_,r,hr,rfl,.inr ⟨q,ht⟩,λx y hx hy=>?_⟩;cases x<;>simp[KP.kind]at hx;cases y<;>simp[KP.kind]at hy;subst hx hy;have:∀a b:Int,(a == b)=decide (a=b):=(by grind);simp[*,Op.equalIn,aJ,KP.val]
    .cases hc
   cases l with
   |nil=>simp at hl
   |cons x l =>
    cases l' with
    |nil=>simp at hl'
    |cons y l' =>
     obtain⟨hk,hl2⟩:=tI hl;obtain⟨hk',hl2'⟩:=tI hl';have hp:=tJ (P:=P) (w:=w) (kk:=x) (post:=l.map KP.val) hi ht;have hp':=tJ (P:=P) (w:=w) (kk:=y) (post:=l'.map KP.val) hi' ht;have:=ih (i+1) r l l' (pre++[x.val]) (pre'++[y.val]) hr (by simp[hi]) (by simp[hi']) hl2 hl2';simp only[gB,List.singleton_append]at this;simp only[Op.eqFields,bK,ho',ne_eq,hn',not_false_eq_true,if_true,Sem.run_bind,hp,hp',Result.andThen_ok,hck x y hk hk'];by_cases e:x=y
     .subst e;simpa using this
     .simp [e]
theorem sM{l:List KP}{a b:List KPK}(h:l.map KP.kind=a++b):∃x y,l=x++y/\x.map KP.kind=a/\y.map KP.kind=b/\x.length=a.length:=by
 refine⟨l.take a.length,l.drop a.length,(List.take_append_drop _ _).symm,?_,?_,?_⟩
 .simp [*]
 .simp [*]
 .have:=congrArg List.length h
  grind
theorem xL{t:TypeId}{fs:Array Field}{inf:TypeInfo}(ht:P.underlying t=some (.struct fs))(hi:P.info? t=some inf){pre mid post:List Value}{i:Nat}(hp:pre.length=i)(hm:mid.length=inf.size) :
  (part t (pre++(mid++post)).toArray i).run P w=.ok (.agg mid.toArray) w:=by
 simp_all[part,isAgg,aJ,bR]
theorem Sk(em:Bool)(n:Nat):∀(fs:List Field) (i:Nat) (ks:List KPK) (l:List KP) (pre:List Value),cKF P i fs=some ks->pre.length=i->l.map KP.kind=ks ->
  (forIn fs PUnit.unit fun f (_ : PUnit) => (if f.name ≠ "_" then do
    let v <- part f.type (pre++l.map KP.val).toArray f.offset
    Instr.checkKey em (n+2) f.type v
    pure (ForInStep.yield PUnit.unit)
   else pure (ForInStep.yield PUnit.unit):Sem (ForInStep PUnit))).run P w=.ok PUnit.unit w:=by
 intro fs;induction fs with
 |nil=>simp
 |cons f fs ih =>
  intro i ks l pre hc hi hl;simp only [cKF] at hc;cases hb : (f.name != "_" && Nat.beq f.offset i) with
  |false=>grind
  |true =>
   simp only [hb] at hc;obtain ⟨hn, ho⟩ := Bool.and_eq_true_iff.1 hb;have hn' : f.name ≠ "_" := by simpa using hn
   have ho':f.offset=i:=nbeq ho;have one:∀(k:KPK) (r:List KPK),cKF P (i+1) fs=some r->ks=k::r->((P.underlying f.type=some .string)\/∃k,P.underlying f.type=some (.int k))->(∀x:KP,x.kind=k->(Instr.checkKey em (n+2) f.type x.val).run P w=.ok () w) ->
     (forIn (f :: fs) PUnit.unit fun f (_ : PUnit) => (if f.name ≠ "_" then do
      let v <- part f.type (pre++l.map KP.val).toArray f.offset
      Instr.checkKey em (n+2) f.type v
      pure (ForInStep.yield PUnit.unit)
     else pure (ForInStep.yield PUnit.unit):Sem (ForInStep PUnit))).run P w=.ok PUnit.unit w:=by
    rintro k r hr rfl ht hck;cases l with
    |nil=>simp at hl
    |cons x l =>
     obtain⟨hk,hl'⟩:=tI hl;have hp:=tJ (P:=P) (w:=w) (kk:=x) (post:=l.map KP.val) hi ht;have:=ih (i+1) r l (pre++[x.val]) hr (by simp[hi]) hl';simp_all
   split at hc
   .rename_i ht;obtain⟨r,hr,rfl⟩:=aF.1 hc;refine one _ r hr rfl (.inl ht) λx hx=>?_;simp[*,Instr.checkKey,aJ,KP.val]
   .rename_i q ht;obtain⟨r,hr,rfl⟩:=aF.1 hc;refine one _ r hr rfl (.inr ⟨q,ht⟩) λx hx=>?_;cases x<;>simp[KP.kind]at hx;simp[Instr.checkKey,aJ w ht,KP.val]
   .rename_i fs2 ht;split at hc
    .rename_i ks2 inf h0 hinf hst;split at hc
     .rename_i hsz;obtain⟨r,hr,rfl⟩:=aF.1 hc;obtain⟨x,y,rfl,hx,hy,hxl⟩:=sM hl;have hs:=nbeq hsz;have hp:=xL (P:=P) (w:=w) ht hinf (pre:=pre) (mid:=x.map KP.val) (post:=y.map KP.val) hi (by simp[hxl,hs]);have h2:=Ow (P:=P) (w:=w) em n fs2.toList 0 ks2 x [] h0 rfl hx;simp only[eE]at h2;have h3:(Instr.checkKey em (n+2) f.type (.agg (x.map KP.val).toArray)).run P w=.ok () w:=by
       rw[Instr.checkKey];simp_all[Sem.run_bind,aJ,Result.andThen_ok,Array.forIn_toList]
      have:=ih (i+ks2.length) r y (pre++x.map KP.val) hr (by simp[*]) hy;simp_all
     .cases hc
    .cases hc
   .cases hc
theorem aE1(n:Nat):∀(fs:List Field) (i:Nat) (ks:List KPK) (l l':List KP) (pre pre':List Value),cKF P i fs=some ks->pre.length=i->pre'.length=i->l.map KP.kind=ks->l'.map KP.kind=ks ->
  (Op.eqFields (n+2) (pre++l.map KP.val).toArray (pre'++l'.map KP.val).toArray fs).run P w=.ok (decide (l=l')) w:=by
 intro fs;induction fs with
 |nil =>
  simp_all[cKF,Option.some.injEq,Op.eqFields]
 |cons f fs ih =>
  intro i ks l l' pre pre' hc hi hi' hl hl';simp only [cKF] at hc;cases hb : (f.name != "_" && Nat.beq f.offset i) with
  |false=>grind
  |true =>
   simp only [hb] at hc;obtain ⟨hn, ho⟩ := Bool.and_eq_true_iff.1 hb;have hn' : f.name ≠ "_" := by grind
   have ho':f.offset=i:=nbeq ho;have one:∀(k:KPK) (r:List KPK),cKF P (i+1) fs=some r->ks=k::r->((P.underlying f.type=some .string)\/∃k,P.underlying f.type=some (.int k))->(∀x y:KP,x.kind=k->y.kind=k->(Op.equalIn (n+2) f.type x.val y.val).run P w=.ok (decide (x=y)) w) ->
     (Op.eqFields (n+2) (pre++l.map KP.val).toArray (pre'++l'.map KP.val).toArray (f::fs)).run P w=.ok (decide (l=l')) w:=by
    rintro k r hr rfl ht hck;cases l with
    |nil=>simp at hl
    |cons x l =>
     cases l' with
     |nil=>simp at hl'
     |cons y l' =>
      obtain⟨hk,hl2⟩:=tI hl;obtain⟨hk',hl2'⟩:=tI hl';have hp:=tJ (P:=P) (w:=w) (kk:=x) (post:=l.map KP.val) hi ht;have hp':=tJ (P:=P) (w:=w) (kk:=y) (post:=l'.map KP.val) hi' ht;have:=ih (i+1) r l l' (pre++[x.val]) (pre'++[y.val]) hr (by simp[hi]) (by simp[hi']) hl2 hl2';simp only[gB,List.singleton_append]at this;simp only[Op.eqFields,bK,ho',ne_eq,hn',not_false_eq_true,if_true,Sem.run_bind,hp,hp',Result.andThen_ok,hck x y hk hk'];by_cases e:x=y
      .subst e;simpa using this
      .simp [e]
   split at hc
   .rename_i ht;obtain⟨r,hr,rfl⟩:=aF.1 hc;refine one _ r hr rfl (.inl ht) λx y hx hy=>?_;cases x<;>simp[KP.kind]at hx;cases y<;>simp[KP.kind]at hy;simp only[Op.equalIn,Sem.run_bind,aJ w ht,KP.val,Result.andThen_ok,Sem.run_pure,KP.s.injEq];congr 1;rw[bH,MapKept.bytes_beq];simp
   .rename_i q ht;obtain⟨r,hr,rfl⟩:=aF.1 hc;refine one _ r hr rfl (.inr ⟨q,ht⟩) λx y hx hy=>?_;cases x<;>simp[KP.kind]at hx;cases y<;>simp[KP.kind]at hy;subst hx hy;have:∀a b:Int,(a == b)=decide (a=b):=(by grind);simp[Op.equalIn,aJ w ht,KP.val,this]
   .rename_i fs2 ht;split at hc
    .rename_i ks2 inf h0 hinf hst;split at hc
     .rename_i hsz;obtain⟨r,hr,rfl⟩:=aF.1 hc;obtain⟨x,y,rfl,hx,hy,hxl⟩:=sM hl;obtain⟨x',y',rfl,hx',hy',hxl'⟩:=sM hl';have hs:=nbeq hsz;have hp:=xL (P:=P) (w:=w) ht hinf (pre:=pre) (mid:=x.map KP.val) (post:=y.map KP.val) hi (by simp[*]);have hp':=xL (P:=P) (w:=w) ht hinf (pre:=pre') (mid:=x'.map KP.val) (post:=y'.map KP.val) hi' (by simp[*]);have h2:=aCa (P:=P) (w:=w) n fs2.toList 0 ks2 x x' [] [] h0 rfl rfl hx hx';simp only[eE]at h2;have hfo:P.fieldsOf f.type=fs2:=by simp[Program.fieldsOf,ht]
      have h3:(Op.equalIn (n+2) f.type (.agg (x.map KP.val).toArray) (.agg (x'.map KP.val).toArray)).run P w=.ok (decide (x=x')) w:=by
       rw[show n+2=(n+1)+1 from rfl,run_equalIn_struct w (n+1) f.type _ _ (by rw[hfo]; exact ht) hst,hfo];exact h2
      have:=ih (i+ks2.length) r y y' (pre++x.map KP.val) (pre'++x'.map KP.val) hr (by simp[*]) (by simp[*]) hy hy';simp only[gB]at this;simp only[Op.eqFields,eD,ho',ne_eq,hn',not_false_eq_true,if_true,Sem.run_bind,hp,hp',Result.andThen_ok,h3];by_cases e:x=x'
      .simp_all
      .have e2:¬(x++y=x'++y'):=(by grind[List.append_inj_left]);simp[e,e2]
     .cases hc
    .cases hc
   .cases hc
theorem Jq{kt:TypeId}{kk:KK}(hk:qD P kt=some kk){x:bQ}(hx:x.kind=kk)(em:Bool)(n:Nat):(Instr.checkKey em (n+3) kt x.val).run P w=.ok () w:=by
 unfold qD at hk;split at hk
 .simp [*,Instr.checkKey,aJ,bQ.val]
 .rename_i k h; cases hk;cases x<;>simp[bQ.kind]at hx;simp[Instr.checkKey,aJ w h,bQ.val]
 .rename_i e h;split at hk
  .rename_i i h1 h2;split at hk
   .rename_i hsz;cases hk;cases x<;>simp[bQ.kind]at hx;rename_i a b;have sz:=bR w h2;rw[hsz]at sz;have p0:=parts2 (w:=w) h1 a b 0 (by omega);have p1:=parts2 (w:=w) h1 a b 1 (by omega);rw[Instr.checkKey];simp only[bQ.val,Sem.run_bind,aJ w h,Result.andThen_ok];simp[*,Std.Legacy.Range.forIn_eq_forIn_range',Std.Legacy.Range.size,List.range',Instr.checkKey,aJ]
   .cases hk
  .cases hk
 .rename_i fs h;split at hk
  .obtain ⟨ks,hks,rfl⟩:=aF.1 hk;cases x<;>simp[bQ.kind]at hx;rename_i l;have:=Sk (P:=P) (w:=w) em n fs.toList 0 ks l [] hks rfl hx;simp only[eE]at this;rw[Instr.checkKey];simp_all[bQ.val,Sem.run_bind,aJ,Result.andThen_ok,Array.forIn_toList]
  .cases hk
 .cases hk
theorem oF{kt:TypeId}{kk:KK}(hk:qD P kt=some kk){x:bQ}(hx:x.kind=kk)(em:Bool):(Instr.checkKey em 10000 kt x.val).run P w=.ok () w:=Jq hk hx em 9997
theorem vM(a b:List UInt8):((⟨a.toArray⟩:ByteArray) == ⟨b.toArray⟩)=decide (a=b):=by
 rw[bH,MapKept.bytes_beq];simp
theorem El(a b:Int):(a == b)=decide (a=b):=by
 rfl
theorem Jr{kt:TypeId}{kk:KK}(hk:qD P kt=some kk){x y:bQ}(hx:x.kind=kk)(hy:y.kind=kk)(n:Nat):(Op.equalIn (n+3) kt x.val y.val).run P w=.ok (decide (x=y)) w:=by
 unfold qD at hk;split at hk
 .rename_i h; cases hk;cases x<;>simp[bQ.kind]at hx;cases y<;>simp[bQ.kind]at hy;rename_i a b;rw[show n+3=(n+2)+1 from rfl];generalize n+2=m;simp only[Op.equalIn,Sem.run_bind,aJ w h,bQ.val,Result.andThen_ok,Sem.run_pure,vM,bQ.s.injEq]
 .rename_i k h; cases hk;cases x<;>simp[bQ.kind]at hx;cases y<;>simp[bQ.kind]at hy;subst hx hy;rw[show n+3=(n+2)+1 from rfl];generalize n+2=m;simp[Op.equalIn,aJ w h,bQ.val,El]
 .rename_i e h;split at hk
  .rename_i i h1 h2;split at hk
   .rename_i hsz;cases hk;cases x<;>simp[bQ.kind]at hx;cases y<;>simp[bQ.kind]at hy;rename_i a b c d;have sz:=bR w h2;rw[hsz]at sz;have p0:=parts2 (w:=w) h1 a b 0 (by omega);have p1:=parts2 (w:=w) h1 a b 1 (by omega);have q0:=parts2 (w:=w) h1 c d 0 (by omega);have q1:=parts2 (w:=w) h1 c d 1 (by omega);have hc:P.cellsOf e=1:=by grind[Program.cellsOf]
    have eq1:∀(a b:Int),(Op.equalIn (n+2) e (.int .i64 a) (.int .i64 b)).run P w=.ok (decide (a=b)) w:=by
     intro a b;rw[show n+2=(n+1)+1 from rfl];generalize n+1=m;simp[Op.equalIn,aJ w h1,El]
    rw[show n+3=(n+2)+1 from rfl];simp only[bQ.val];rw[run_equalIn_array w (n+2) _ _ h h2,hc];have:List.range 2=[0,1]:=rfl;rw[this];have n1:¬((1:Nat)=0):=by decide
    rw[if_neg n1]at p1 q1;rw[if_pos rfl]at p0 q0;have tail:(Op.eqItems (n+2) e 1 #[Value.int .i64 a,Value.int .i64 b] #[Value.int .i64 c,Value.int .i64 d] [1]).run P w=.ok (decide (b=d)) w:=by
     unfold Op.eqItems;rw[Sem.run_bind,p1,Result.andThen_ok,Sem.run_bind,q1,Result.andThen_ok,Sem.run_bind,eq1,Result.andThen_ok];by_cases e2:b=d
     .simp [e2,Op.eqItems]
     .simp [e2]
    unfold Op.eqItems;rw[Sem.run_bind,p0,Result.andThen_ok,Sem.run_bind,q0,Result.andThen_ok,Sem.run_bind,eq1,Result.andThen_ok];by_cases e1:a=c
    .simp_all
    simp[*]
   .cases hk
  .cases hk
 .rename_i fs h;split at hk
  .rename_i hst;obtain⟨ks,hks,rfl⟩:=aF.1 hk;cases x<;>simp[bQ.kind]at hx;cases y<;>simp[bQ.kind]at hy;rename_i l l';have:=aE1 (P:=P) (w:=w) n fs.toList 0 ks l l' [] [] hks rfl rfl hx hy;simp only[eE]at this;have hfo:P.fieldsOf kt=fs:=by simp[Program.fieldsOf,h]
   simp only[bQ.val,bQ.t.injEq];rw[show n+3=(n+2)+1 from rfl,run_equalIn_struct w (n+2) kt _ _ (by rw[hfo]; exact h) hst,hfo];exact this
  .cases hk
 .cases hk
theorem Ou{kt:TypeId}{kk:KK}(hk:qD P kt=some kk){x y:bQ}(hx:x.kind=kk)(hy:y.kind=kk):(Op.equal kt x.val y.val).run P w=.ok (decide (x=y)) w:=Jr hk hx hy 9997
theorem Ov{x:bQ}(n:Nat):Instr.sameBits (n+2) x.val x.val=true:=by
 cases x with
 |t l =>
  simp only[bQ.val,Instr.sameBits,beq_self_eq_true,jD];rw[dI];intro p hp;have:∀(l:List Value) (p:Value×Value),p∈l.zip l->p.1=p.2/\p.1∈l:=by
   intro l;induction l with
   |nil=>simp
   |cons a l ih =>
    intro p h;simp only[List.zip_cons_cons,aR]at h
    grind
  obtain⟨e1,e2⟩:=this _ p hp;obtain⟨a,b⟩:=p;simp only at e1 e2 ⊢;subst e1;obtain⟨x,_,rfl⟩:=cD.1 (by simpa using e2);cases x<;>simp[KP.val,Instr.sameBits,vM]
 |_=>simp[bQ.val,Instr.sameBits,vM]
theorem Cf(x:bQ):(Instr.keyThatStays x.val x.val).run P w=.ok x.val w:=by
 simp_all[Ov,Instr.keyThatStays]
def fnd{V:Type}(k:bQ):List (bQ×V×Nat)->List MapEntry->Nat->Option (Nat×Value)
 |x::r,e::t,i=>if x.1=k then some (i,e.val)else fnd k r t (i+1)
 |_,_,_=>none
theorem rZ{kt:TypeId}{kk:KK}(hk:qD P kt=some kk){k:bQ}(hkd:k.kind=kk){E:Env}{V:Type}{ev:V->SV} :
  ∀(l:List (bQ×V×Nat)) (es:List MapEntry) (i:Nat),hZ E ev l es->(∀x∈l,x.1.kind=kk)->(Instr.findAsking kt k.val es i).run P w=.ok (fnd k l es i) w:=by
 intro l;induction l with
 |nil=>simp_all[hZ,Instr.findAsking,fnd]
 |cons x r ih =>
  intro es i h hkk;obtain⟨e,t,rfl,h2,h3,h4,h5⟩:=h;have:=Ou (w:=w) hk hkd (hkk x (aZ ..));rw[<- h2]at this;unfold Instr.findAsking;rw[Sem.run_bind,this,Result.andThen_ok];by_cases e1:k=x.1
  .simp [fnd,e1]
  .have e2:¬x.1=k:=λe=>e1 e.symm;simp_all[fnd]
theorem yK{d:TypeDesc}{k:bQ}(hd:(d=.string/\k.kind=.s)\/∃q,d=.int q/\k.kind=.i q){E:Env}{V:Type}{ev:V->SV} :
  ∀(l:List (bQ×V×Nat)) (es:List MapEntry) (i:Nat),hZ E ev l es->(∀x∈l,x.1.kind=k.kind)->Instr.findNow d k.val es i=some (fnd k l es i):=by
 intro l;induction l with
 |nil=>grind[hZ,Instr.findNow,fnd]
 |cons x r ih =>
  intro es i h hkk;obtain⟨e,t,rfl,h2,h3,h4,h5⟩:=h;have hsame:Instr.sameNow d k.val e.key=some (decide (k=x.1)):=by
   rw[h2];have hx:=hkk x (aZ ..);rcases hd with⟨rfl,hs⟩|⟨q,rfl,hs⟩<;>rw[hs]at hx<;>cases k<;>simp[bQ.kind]at hs<;>(generalize x.1=y at hx)<;>cases y<;>simp[bQ.kind]at hx
   .simp [Instr.sameNow,bQ.val,vM]
   simp_all[Instr.sameNow,bQ.val,El]
  grind[Instr.findNow,fnd]
theorem sA{kt:TypeId}{kk:KK}(hk:qD P kt=some kk){k:bQ}(hkd:k.kind=kk){E:Env}{V:Type}{ev:V->SV}{l:List (bQ×V×Nat)}{es:List MapEntry}(h:hZ E ev l es)(hkk:∀x∈l,x.1.kind=kk) :
  (Instr.findKey kt k.val es).run P w=.ok (fnd k l es 0) w:=by
 have hk0:=hk;unfold qD at hk;split at hk
 .rename_i hd;cases hk;have:=yK (.inl ⟨rfl,hkd⟩) l es 0 h (by rw[hkd]; exact hkk);simp[Instr.findKey,aJ w hd,this]
 .rename_i q hd;cases hk;have:=yK (.inr ⟨q,rfl,hkd⟩) l es 0 h (by rw[hkd]; exact hkk);simp[Instr.findKey,aJ w hd,this]
 .rename_i e hd;rw[run_findKey_eq w (by rw[hd])];exact rZ hk0 hkd l es 0 h hkk
 .rename_i fs hd;rw[run_findKey_eq w (by rw[hd])];exact rZ hk0 hkd l es 0 h hkk
 .cases hk
theorem vT{E:Env}{V:Type}{ev:V->SV}{k:bQ}:∀(l:List (bQ×V×Nat)) (es:List MapEntry) (i:Nat),hZ E ev l es ->
  (mget l k=none/\fnd k l es i=none) \/
  ∃v t j e,mget l k=some (v,t)/\fnd k l es i=some (i+j,e.val)/\es[j]?=some e/\e.key=k.val/\R E (ev v) [e.val]/\e.born=t/\hZ E ev (mdel l k) (es.eraseIdx j) /\
   ∀(v':V) (u:Value),R E (ev v') [u]->hZ E ev (mput l k v') (es.modify j λe=>{ e with key:=k.val,val:=u }):=by
 intro l;induction l with
 |nil=>intro es i h; simp only[hZ]at h; subst h; exact .inl ⟨rfl,rfl⟩
 |cons x r ih =>
  intro es i h;obtain⟨e,t,rfl,h2,h3,h4,h5⟩:=h;by_cases e1:x.1=k
  .refine .inr ⟨x.2.1,x.2.2,0,e,by simp[mget,e1],by simp[fnd,e1],rfl,by rw[h2,e1],h3,h4,?_,?_⟩
   .grind [mdel]
   .intro v' u hu;simp only[mput,e1,if_true];exact⟨{ e with key:=k.val,val:=u },t,by simp,rfl,hu,h4,h5⟩
  .rcases ih t (i+1) h5 with⟨a1,a2⟩|⟨v,tt,j,e',a1,a2,a3,a4,a5,a6,a7,a8⟩
   .grind [mget,fnd]
   .refine .inr ⟨v,tt,j+1,e',by simp_all[mget],by grind[fnd],by simp[*],a4,a5,a6,?_,?_⟩
    .simp only [mdel,e1,if_false,List.eraseIdx_cons_succ];exact⟨e,_,rfl,h2,h3,h4,a7⟩
    .intro v' u hu;simp only[mput,e1,if_false,List.modify_succ_cons];exact⟨e,_,rfl,h2,h3,h4,a8 v' u hu⟩
theorem yB{E:Env}{V:Type}{ev:V->SV}:∀{l m:List (bQ×V×Nat)} {es fs:List MapEntry},hZ E ev l es->hZ E ev m fs->hZ E ev (l++m) (es++fs):=by
 intro l;induction l with
 |nil=>grind[hZ]
 |cons x r ih =>
  intro m es fs h hm;obtain⟨e,t,rfl,h2,h3,h4,h5⟩:=h;exact⟨e,t++fs,rfl,h2,h3,h4,ih h5 hm⟩
theorem Fq{E:Env}{V:Type}{ev:V->SV}:∀{l:List (bQ×V×Nat)} {es:List MapEntry},hZ E ev l es->es.length=l.length:=by
 intro l;induction l with
 |nil=>grind[hZ]
 |cons x r ih=>intro es h; obtain⟨e,t,rfl,_,_,_,h5⟩:=h; simp[ih h5]
theorem Vr{E:Env}{V V':Type}{ev:V->SV}{ev':V'->SV}{g:V->V'}(h:∀v,ev' (g v)=ev v):∀{l:List (bQ×V×Nat)} {es:List MapEntry},hZ E ev l es->hZ E ev' (l.map λx=>(x.1,g x.2.1,x.2.2)) es:=by
 intro l;induction l with
 |nil=>intro es hh; exact hh
 |cons x r ih =>
  intro es hh;obtain⟨e,t,h1,h2,h3,h4,h5⟩:=hh;exact⟨e,t,h1,h2,by simp[*],h4,ih h5⟩
theorem Ju{V:Type}{kk:KK}{k:bQ}(_:k.kind=kk)(v:V):∀{l:List (bQ×V×Nat)},(∀x∈l,x.1.kind=kk)->∀x∈mput l k v,x.1.kind=kk:=by
 intro l;induction l with
 |nil=>intro _ x hx; cases hx
 |cons y r ih =>
  intro h x hx;simp only[mput]at hx
  grind
theorem Jt{V:Type}{kk:KK}{k:bQ}:∀{l:List (bQ×V×Nat)},(∀x∈l,x.1.kind=kk)->∀x∈mdel l k,x.1.kind=kk:=by
 intro l;induction l with
 |nil=>intro _ x hx; cases hx
 |cons y r ih =>
  intro h x hx;simp only[mdel]at hx
  grind
theorem Jv{V:Type}{kk:KK}{t:Nat}{v:V}:∀{l:List (bQ×V×Nat)},(∀x∈l,x.1.kind=kk)->∀x∈mset l t v,x.1.kind=kk:=by
 intro l;induction l with
 |nil=>intro _ x hx; cases hx
 |cons y r ih =>
  intro h x hx;simp only[mset]at hx
  grind
theorem O6{E:Env}{V:Type}{ev:V->SV}{t:Nat}{v':V}{u:Value}(hu:R E (ev v') [u]):∀(l:List (bQ×V×Nat)) (es:List MapEntry),hZ E ev l es->(∃x∈l,x.2.2=t) ->
  ∃j,es.findIdx? (λe=>(e.born:Int) == (t:Int))=some j/\hZ E ev (mset l t v') (es.modify j λe=>{ e with val:=u }):=by
 intro l;induction l with
 |nil=>simp
 |cons x r ih =>
  intro es h hx;obtain⟨e,es',rfl,h2,h3,h4,h5⟩:=h;by_cases e1:x.2.2=t
  .refine ⟨0,?_,?_⟩
   .grind
   .simp only [mset,e1,if_true];exact⟨{ e with val:=u },es',by simp,h2,hu,h4.trans e1,h5⟩
  .obtain ⟨y,hy,hyt⟩:=hx;have hy':∃y∈r,y.2.2=t:=by
    grind
   obtain⟨j,j1,j2⟩:=ih es' h5 hy';refine⟨j+1,?_,?_⟩
   .grind
   .simp only [mset,e1,if_false,List.modify_succ_cons];exact⟨e,_,rfl,h2,h3,h4,j2⟩
end
end Go.Eng
end
section
namespace Go.Eng
open Go Go.RowKit
def dJ:SV->(SV->Prop)->Prop
 |.junk,k=>k .junk
 |.val v,k=>k (.val v)
 |.int q n,k=>k (.int q n)
 |.bool b,k=>k (.bool b)
 |.str s,k=>k (.str s)
 |.own a b,k=>gN a λa=>k (.own a b)
 |.osl a b c d,k=>gN a λa=>k (.osl a b c d)
 |.lsl a b c,k=>gN a λa=>k (.lsl a b c)
 |.oel a b c d,k=>gN a λa=>k (.oel a b c d)
 |.mref a,k=>gN a λa=>k (.mref a)
 |.fown a b c,k=>gN a λa=>k (.fown a b c)
 |.fmref a b,k=>gN a λa=>k (.fmref a b)
 |.flsl a b c d,k=>gN a λa=>k (.flsl a b c d)
 |.foel a b c d e,k=>gN a λa=>k (.foel a b c d e)
 |.csl a b,k=>gN a λa=>k (.csl a b)
 |.nilsl,k=>k .nilsl
 |.slice a b c,k=>k (.slice a b c)
 |.slit a b,k=>dJ b λb=>k (.slit a b)
 |.cptr a,k=>dJ a λa=>k (.cptr a)
 |.nil,k=>k .nil
 |.cons a b,k=>dJ a λa=>dJ b λb=>k (.cons a b)
 |.ints q n f a,k=>gN n λn=>dJ a λa=>k (.ints q n f a)
 |.agg a,k=>dJ a λa=>k (.agg a)
 |.tup a,k=>dJ a λa=>k (.tup a)
 |.fn f a,k=>dJ a λa=>k (.fn f a)
 |.yield a,k=>gN a λa=>k (.yield a)
 |.gd a b c,k=>k (.gd a b c)
theorem fA:∀(s:SV) (k:SV->Prop),dJ s k=k s:=by
 intro s;induction s with
 |cons a b iha ihb=>grind[dJ]
 |ints q n f a ih=>grind[dJ,iW]
 |agg a ih=>grind[dJ]
 |tup a ih=>grind[dJ]
 |fn f a ih=>grind[dJ]
 |slit n a ih=>grind[dJ]
 |cptr a ih=>grind[dJ]
 |_=>intro k; first|rfl|simp only[dJ,iW]
def I9(o:aL)(k:aL->Prop):Prop :=
 match o with
 |.cells T l=>dJ l λl=>k (.cells T l)
 |.arr T sz len enc=>k (.arr T sz len enc)
 |.obj o=>k (.obj o)
 |.snap o=>k (.snap o)
 |.map V kk l c ev iv=>k (.map V kk l c ev iv)
 |.iter a b c d=>dJ a λa=>k (.iter a b c d)
 |.fam f=>k (.fam f)
 |.hid a b=>k (.hid a b)
 |.gone=>k .gone
theorem Oi(o:aL)(k:aL->Prop):I9 o k=k o:=by cases o<;>simp only[I9,fA]
def iF:List (Nat×aL)->(List (Nat×aL)->Prop)->Prop
 | [],k=>k []
 | (n,o)::r,k=>gN n λn=>I9 o λo=>iF r λr=>k ((n,o)::r)
theorem oI:∀(l:List (Nat×aL)) (k:List (Nat×aL)->Prop),iF l k=k l:=by
 intro l;induction l with
 |nil=>intro k; rfl
 |cons p r ih=>grind[iF,iW,Oi]
def stK(st:St)(k:List (Nat×aL)->Nat->Prop):Prop :=
 match st with
 | ⟨_,hp,nx⟩=>gN nx λnx=>iF hp λhp=>k hp nx
theorem aDm(st:St)(k:List (Nat×aL)->Nat->Prop):stK st k=k st.hp st.nx:=by
 simp_all[stK,iW,oI]
def stP(st:St)(k:List (Nat×SV)->List (Nat×aL)->Nat->Prop):Prop :=
 match st with
 | ⟨fr,hp,nx⟩=>k fr hp nx
theorem aDn(st:St)(k:List (Nat×SV)->List (Nat×aL)->Nat->Prop):stP st k=k st.fr st.hp st.nx:=by
 cases st;rfl
def stF(st:St)(k:St->Prop):Prop :=
 match st with
 | ⟨fr,hp,nx⟩=>gN nx λnx=>iF hp λhp=>k ⟨fr,hp,nx⟩
theorem Fh(st:St)(k:St->Prop):stF st k=k st:=by
 simp_all[stF,iW,oI]
def fL(l:List (Nat×aL))(id:Nat)(x:aL):List (Nat×aL) :=
 match l with
 | []=>[(id,x)]
 | (k,v)::r=>bif Nat.beq k id then (id,x)::r else (k,v)::fL r id x
theorem get?_putH(l:List (Nat×aL))(id:Nat)(x:aL)(n:Nat):get? (fL l id x) n=get? ((id,x)::l) n:=by
 induction l with
 |nil=>rfl
 |cons p r ih =>
  obtain⟨k,v⟩:=p;simp only[fL];cases hb:Nat.beq k id with
  |true =>
   simp_all[nbeq,cond_true,get?_cons]
  |false =>
   have hne:¬k=id:=(by grind[Nat.beq_refl]);simp only[cond_false,get?_cons,ih]
   grind
theorem fH(l:List (Nat×aL))(id:Nat)(x:aL)(n:Nat):hget (fL l id x) n=hget ((id,x)::l) n:=by
 grind[hget,get?_putH]
theorem fI{l:List (Nat×aL)}{id:Nat}{x o:aL}(hg:get? l id=some o):∀n o',get? (fL l id x) n=some o'->∃o'',get? l n=some o'':=by
 grind[get?_putH,get?_cons]
def oP(l:List (Nat×aL))(id:Nat)(x:aL)(k:List (Nat×aL)->Prop):Prop :=
 match l with
 | []=>k [(id,x)]
 | (a,v)::r=>bif Nat.beq a id then k ((id,x)::r)else oP r id x λl=>k ((a,v)::l)
theorem rD(id:Nat)(x:aL):∀(l:List (Nat×aL)) (k:List (Nat×aL)->Prop),oP l id x k=k (fL l id x):=by
 intro l;induction l with
 |nil=>intro k; rfl
 |cons p r ih =>
  grind[oP,fL]
def Acts(P:Program)(C:Ctx)(μ:Nat->Option (Nat×Nat))(hp:List (Nat×aL))(w:World)(fr:List (Nat×SV))(K:SV->St->Prop)(r:Result Next):Prop :=
 Does P (λv w'=>∃s st' μ',K s st'/\st'.fr=fr/\(aG C μ hp w).Le (aG C μ' st'.hp w')/\bD C μ' st'.hp st'.nx w'/\R (aG C μ' st'.hp w') s [v]) r
def Cj:SV->Option (List KP)
 |.nil=>some []
 |.cons (.str b) r=>match Cj r with
  |some l=>some (.s b::l)
  |none=>none
 |.cons (.int k i) r=>match Cj r with
  |some l=>some (.n k i::l)
  |none=>none
 |_=>none
theorem Vt{E:Env}:∀{s:SV} {l:List KP} {vs:List Value},R E s vs->Cj s=some l->vs=l.map KP.val:=by
 intro s;induction s with
 |nil=>intro l vs h e; cases e; exact h
 |cons a r _ ih =>
  intro l vs h e;simp only[R]at h;obtain⟨x,xs,rfl,h1,h2⟩:=h;cases a<;>simp only[Cj]at e<;>first
   | (cases e; done)
   | (split at e
      .rename_i l' hl;cases e;rw[aC.1 h1,ih h2 hl];rfl
      .cases e)
 |_=>intro l vs h e; simp[Cj]at e
def keyOf:SV->Option bQ
 |.str b=>some (.s b)
 |.int k n=>some (.i k n)
 |.agg (.cons (.int .i64 x) (.cons (.int .i64 y) .nil))=>some (.a x y)
 |.agg l=>match Cj l with
  |some l=>some (.t l)
  |none=>none
 |_=>none
theorem yY{E:Env}{s:SV}{v:Value}{k:bQ}(h:R E s [v])(hk:keyOf s=some k):v=k.val:=by
 unfold keyOf at hk;split at hk
 .cases hk; exact aC.1 h
 .cases hk; exact aC.1 h
 .cases hk;simp only[R]at h;obtain⟨cs,h1,x,xs,rfl,h2,y,ys,rfl,h3,rfl⟩:=h;rw[aC.1 h1,aC.1 h2,aC.1 h3];rfl
 .split at hk
  .rename_i l' hl;cases hk;simp only[R]at h;obtain⟨cs,h1,h2⟩:=h;rw[aC.1 h1,Vt h2 hl];rfl
  .cases hk
 .cases hk
def R9:IntKind->IntKind->Bool
 |.i8,.i8|.i16,.i16|.i32,.i32|.i64,.i64|.u8,.u8|.u16,.u16|.u32,.u32|.u64,.u64=>true
 |_,_=>false
def Jw:List KPK->List KPK->Bool
 | [],[]=>true
 |.s::r,.s::r'=>Jw r r'
 |.n a::r,.n b::r'=>bif R9 a b then Jw r r' else false
 |_,_=>false
theorem Mc{x y:IntKind}(h:R9 x y=true):x=y:=by cases x<;>cases y<;>simp[R9]at h<;>rfl
theorem Xg:∀{l m:List KPK},Jw l m=true->l=m:=by
 intro l;induction l with
 |nil=>grind[Jw]
 |cons a l ih =>
  intro m h;cases m with
  |nil=>grind[Jw]
  |cons b m =>
   cases a<;>cases b<;>simp only[Jw]at h<;>first
    | (rw[ih h]; done)
    | (cases h; done)
    | (rename_i x y
       cases hb:R9 x y with
       |false=>grind
       |true=>simp only[hb,cond_true]at h; rw[Mc hb,ih h])
def nY:KK->KK->Bool
 |.s,.s=>true
 |.i a,.i b=>R9 a b
 |.a,.a=>true
 |.t l,.t m=>Jw l m
 |_,_=>false
theorem Xe{k k':KK}(h:nY k k'=true):k=k':=by
 cases k<;>cases k'<;>simp[nY]at h<;>first
  |rfl
  | (rename_i x y; rw[Mc h]; done)
  |grind[Xg]
def oN(hp:List (Nat×aL)):SV->Option aL
 |.mref id=>get? hp id
 |.fmref h i=>match get? hp h with
  |some (.fam f)=>some (f i)
  |_=>none
 |_=>none
def jC(hp:List (Nat×aL))(m:SV)(o:aL):List (Nat×aL) :=
 match m with
 |.mref id=>fL hp id o
 |.fmref h i=>match get? hp h with
  |some (.fam f)=>fL hp h (.fam λj=>bif Nat.beq j i then o else f j)
  |_=>hp
 |_=>hp
theorem jO{C:Ctx}{μ:Nat->Option (Nat×Nat)}{hp:List (Nat×aL)}{nx:Nat}{w:World}(h:bD C μ hp nx w){m:SV}{v:Value}(hr:R (aG C μ hp w) m [v])
  {V:Type} {kk:KK} {l:List (bQ×V×Nat)} {clock:Nat} {ev:V->SV} {iv:SV->Option V} (ha:oN hp m=some (.map V kk l clock ev iv)) :
  ∃id b c es,hget hp id=some (.map V kk l clock ev iv)/\μ id=some (b,c)/\v=.map (some b)/\w.heap[b]?=some (.map es.toArray clock)/\hZ (aG C μ hp w) ev l es/\(∀x∈l,x.1.kind=kk) /\
   ∀o,dX? o=some o->(∀n,hget (jC hp m o) n=if id=n then some o else hget hp n)/\(∀n o',get? (jC hp m o) n=some o'->∃o'',get? hp n=some o''):=by
 have fin:∀id b c,hget hp id=some (.map V kk l clock ev iv)->μ id=some (b,c)->∃es:List MapEntry,w.heap[b]?=some (.map es.toArray clock)/\hZ (aG C μ hp w) ev l es/\(∀x∈l,x.1.kind=kk):=by
  intro id b c hg hm;obtain⟨b',c',y,e1,e2,h0,es,e3,e4⟩:=h.obj.obj id _ hg;have e1':μ id=some (b',c'):=e1;rw[hm]at e1';cases e1';exact⟨es,e3▸e2,e4,h0⟩
 cases m with
 |mref id =>
  simp only[oN]at ha;simp only[R]at hr;obtain⟨b,c,m1,hv⟩:=hr;have hg:=h.get ha rfl;obtain⟨es,f1,f2,f3⟩:=fin id b c hg m1;refine⟨id,b,c,es,hg,m1,aC.1 hv,f1,f2,f3,λo ho=>⟨λn=>?_,fI ha⟩⟩;simp only[jC];rw[fH];exact gU (h.obj.keys _ _ ha) (dX?_solid ho) (by grind) n
 |fmref d i =>
  simp only[oN]at ha;split at ha
  .rename_i f hf;simp only[R]at hr;obtain⟨b,c,m1,hv⟩:=hr;have hd:=h.obj.keys _ _ hf;have hfi:f i=.map V kk l clock ev iv:=by grind
   have hg:hget hp (fid d i)=some (.map V kk l clock ev iv):=by rw[iZ hd hf,hfi]; rfl
   obtain⟨es,f1,f2,f3⟩:=fin _ b c hg m1;refine⟨fid d i,b,c,es,hg,m1,aC.1 hv,f1,f2,f3,λo ho=>⟨λn=>?_,?_⟩⟩
   .simp_all [jC,fH,lZ]
   grind[jC,fI]
  .cases ha
 |_=>simp[oN]at ha
def nZ(ok:Bool)(x:SV)(b:Bool):SV :=
 match ok with
 |true=>.tup (.cons x (.cons (.bool b) .nil))
 |false=>x
def idn:List (Nat×aL)->List (Nat×Nat)
 | []=>[]
 | (k,_)::r=>(k,k)::idn r
theorem get?_idn{n x:Nat}:∀{l:List (Nat×aL)},get? (idn l) n=some x->x=n:=by
 intro l;induction l with
 |nil=>intro h; cases h
 |cons p r ih =>
  grind[idn,get?_cons]
def Keep.same(hp:List (Nat×aL)):Keep:=⟨idn hp,true,true,false⟩
def fK{V:Type}(hp:List (Nat×aL))(ev:V->SV)(iv:SV->Option V)(l:List (bQ×V×Nat))(s:SV)(k:(W:Type)->(W->SV)->(SV->Option W)->List (bQ×W×Nat)->W->Prop):Prop :=
 match iv s with
 |some v=>sub (Keep.same hp) hp 200 s (ev v)/\k V ev iv l v
 |none=>k SV id some (l.map λx=>(x.1,ev x.2.1,x.2.2)) s
def fam1:List (Nat×aL)->Option Nat
 | []=>none
 | (h,.fam _)::_=>some h
 |_::r=>fam1 r
structure mZ{V:Type}(l:List (bQ×V×Nat))(k:bQ)(Q:V->Nat->Prop)(R:Prop):Prop where
 hit:∀v t,mget l k=some (v,t)->Q v t
 miss:mget l k=none->R
theorem mZ.zI{V:Type}{l:List (bQ×V×Nat)}{k:bQ}{v:V}{t:Nat}{Q:V->Nat->Prop}{R:Prop}(h:mget l k=some (v,t))(hq:Q v t):mZ l k Q R :=
 ⟨(by grind),(by grind)⟩
theorem mZ.E4{V:Type}{l:List (bQ×V×Nat)}{k:bQ}{Q:V->Nat->Prop}{R:Prop}(h:mget l k=none)(hr:R):mZ l k Q R :=
 ⟨(by grind),(λ_=>hr)⟩
def evM(g:Option (Nat×Bool))(st:St)(k:SV->St->Prop):SOp->Prop
 |.mkmap kk=>match fam1 st.hp with
  |none=>bif Nat.blt st.nx FB then k (.mref st.nx) ⟨st.fr,(st.nx,.map SV kk [] 0 id some)::st.hp,st.nx+1⟩else False
  |some h=>match get? st.hp h with
   |some (.fam f)=>∃j,f j=.gone/\k (.fmref h j) ⟨st.fr,jC st.hp (.fmref h j) (.map SV kk [] 0 id some),st.nx⟩
   |_=>False
 |.mlook z ok kk m key=>match keyOf (gx g st.fr key) with
  |some kv=>bif nY kv.kind kk then
    match gx g st.fr m with
    |.val (.map none)=>k (nZ ok z.sv false) st
    |ms=>match oN st.hp ms with
     |some (.map _ kk' l _ ev _)=>bif nY kk' kk then
       mZ l kv (λv _t=>k (nZ ok (ev v) true) st) (k (nZ ok z.sv false) st)
      else False
     |_=>False
   else False
  |none=>False
 |.mupd kk m key v=>match keyOf (gx g st.fr key) with
  |some kv=>bif nY kv.kind kk then
    match oN st.hp (gx g st.fr m) with
    |some (.map _ kk' l clock ev iv)=>bif nY kk' kk then
      fK st.hp ev iv l (gx g st.fr v) λW ev iv l v =>
       mZ l kv (λ_u _t=>k (.val undef) ⟨st.fr,jC st.hp (gx g st.fr m) (.map W kk' (mput l kv v) clock ev iv),st.nx⟩)
        (k (.val undef) ⟨st.fr,jC st.hp (gx g st.fr m) (.map W kk' (l++[(kv,v,clock)]) (clock+1) ev iv),st.nx⟩)
     else False
    |_=>False
   else False
  |none=>False
 |.ment z kk m key=>match keyOf (gx g st.fr key) with
  |some kv=>bif nY kv.kind kk then
    match oN st.hp (gx g st.fr m) with
    |some (.map _ kk' l clock ev iv)=>bif nY kk' kk then
      mZ l kv (λv t=>k (.tup (.cons (ev v) (.cons (.int .i64 (t:Int)) .nil))) st)
       (fK st.hp ev iv l z.sv λW ev iv l v =>
       k (.tup (.cons z.sv (.cons (.int .i64 (clock:Int)) .nil))) ⟨st.fr,jC st.hp (gx g st.fr m) (.map W kk' (l++[(kv,v,clock)]) (clock+1) ev iv),st.nx⟩)
     else False
    |_=>False
   else False
  |none=>False
 |.mesto m t v=>match gx g st.fr t with
  |.int _ n=>match oN st.hp (gx g st.fr m) with
   |some (.map _ kk l clock ev iv)=>fK st.hp ev iv l (gx g st.fr v) λW ev iv l v =>
     ∃t:Nat,n=(t:Int)/\(∃x∈l,x.2.2=t)/\k (.val undef) ⟨st.fr,jC st.hp (gx g st.fr m) (.map W kk (mset l t v) clock ev iv),st.nx⟩
   |_=>False
  |_=>False
 |.mdele kk m key=>match keyOf (gx g st.fr key) with
  |some kv=>bif nY kv.kind kk then
    match gx g st.fr m with
    |.val (.map none)=>k (.val (.tuple #[])) st
    |ms=>match oN st.hp ms with
     |some (.map V kk' l clock ev iv)=>bif nY kk' kk then
       k (.val (.tuple #[])) ⟨st.fr,jC st.hp ms (.map V kk' (mdel l kv) clock ev iv),st.nx⟩
      else False
     |_=>False
   else False
  |none=>False
 |.mlen m=>match gx g st.fr m with
  |.val (.map none)=>k (.int .i64 0) st
  |ms=>match oN st.hp ms with
   |some (.map _ _ l _ _ _)=>k (.int .i64 (l.length:Int)) st
   |_=>False
 |.mrange m=>bif Nat.blt st.nx FB then
   match gx g st.fr m with
   |.val (.map none)=>k (.own st.nx 0) ⟨st.fr,(st.nx,.iter (.val (.map none)) 0 [] 0)::st.hp,st.nx+1⟩
   |ms=>match oN st.hp ms with
    |some (.map _ _ _ clock _ _)=>k (.own st.nx 0) ⟨st.fr,(st.nx,.iter ms clock [] clock)::st.hp,st.nx+1⟩
    |_=>False
  else False
 |.mnext it=>match gx g st.fr it with
  |.own id 0=>match get? st.hp id with
   |some (.iter (.val (.map none)) _ _ _)=>k (.tup (.cons (.bool false) .nil)) st
   |some (.iter src since seen last)=>match oN st.hp src with
    |some (.map _ _ l clock ev _) =>
     (∀x∈l,x.2.2<since)/\since<=last /\
     (∀x∈l,x.2.2∉seen->k (.tup (.cons (.bool true) (.cons x.1.sv (.cons (ev x.2.1) .nil)))) ⟨st.fr,fL st.hp id (.iter src since (seen++[x.2.2]) clock),st.nx⟩) /\
     ((∀x∈l,x.2.2∈seen)->k (.tup (.cons (.bool false) .nil)) st)
    |_=>False
   |_=>False
  |_=>False
 |.mentry it=>match gx g st.fr it with
  |.own id 0=>match get? st.hp id with
   |some (.iter src _ seen last)=>match oN st.hp src with
    |some (.map _ _ l clock ev _)=>clock=last/\∃x∈l,(∀y∈l,y.2.2=x.2.2->y=x)/\(∃s0,seen=s0++[x.2.2])/\k (.tup (.cons x.1.sv (.cons (ev x.2.1) .nil))) st
    |_=>False
   |_=>False
  |_=>False
 |_=>False
def Ad(hp:List (Nat×aL))(ms:SV)(k:aL->Prop):Prop :=
 match ms with
 |.mref id=>match get? hp id with
  |some o=>k o
  |none=>False
 |.fmref h i=>match get? hp h with
  |some (.fam f)=>∃o,f i=o/\k o
  |_=>False
 |_=>False
theorem nW{hp:List (Nat×aL)}{ms:SV}{k:aL->Prop}(h:Ad hp ms k):∃o,oN hp ms=some o/\k o:=by
 unfold Ad at h
 grind[oN]
def yP(g:Option (Nat×Bool))(st:St)(k:SV->St->Prop):SOp->Prop
 |.mkmap kk=>match fam1 st.hp with
  |none=>bif Nat.blt st.nx FB then k (.mref st.nx) ⟨st.fr,(st.nx,.map SV kk [] 0 id some)::st.hp,st.nx+1⟩else False
  |some h=>match get? st.hp h with
   |some (.fam f)=>∃j,f j=.gone/\k (.fmref h j) ⟨st.fr,jC st.hp (.fmref h j) (.map SV kk [] 0 id some),st.nx⟩
   |_=>False
 |.mlook z ok kk m key=>match keyOf (gx g st.fr key) with
  |some kv=>bif nY kv.kind kk then
    match gx g st.fr m with
    |.val (.map none)=>k (nZ ok z.sv false) st
    |ms=>Ad st.hp ms λo=>match o with
     |.map _ kk' l _ ev _=>bif nY kk' kk then
       mZ l kv (λv _t=>k (nZ ok (ev v) true) st) (k (nZ ok z.sv false) st)
      else False
     |_=>False
   else False
  |none=>False
 |.mupd kk m key v=>match keyOf (gx g st.fr key) with
  |some kv=>bif nY kv.kind kk then
    Ad st.hp (gx g st.fr m) λo=>match o with
    |.map _ kk' l clock ev iv=>bif nY kk' kk then
      fK st.hp ev iv l (gx g st.fr v) λW ev iv l v =>
       mZ l kv (λ_u _t=>k (.val undef) ⟨st.fr,jC st.hp (gx g st.fr m) (.map W kk' (mput l kv v) clock ev iv),st.nx⟩)
        (k (.val undef) ⟨st.fr,jC st.hp (gx g st.fr m) (.map W kk' (l++[(kv,v,clock)]) (clock+1) ev iv),st.nx⟩)
     else False
    |_=>False
   else False
  |none=>False
 |.ment z kk m key=>match keyOf (gx g st.fr key) with
  |some kv=>bif nY kv.kind kk then
    Ad st.hp (gx g st.fr m) λo=>match o with
    |.map _ kk' l clock ev iv=>bif nY kk' kk then
      mZ l kv (λv t=>k (.tup (.cons (ev v) (.cons (.int .i64 (t:Int)) .nil))) st)
       (fK st.hp ev iv l z.sv λW ev iv l v =>
       k (.tup (.cons z.sv (.cons (.int .i64 (clock:Int)) .nil))) ⟨st.fr,jC st.hp (gx g st.fr m) (.map W kk' (l++[(kv,v,clock)]) (clock+1) ev iv),st.nx⟩)
     else False
    |_=>False
   else False
  |none=>False
 |.mesto m t v=>match gx g st.fr t with
  |.int _ n=>Ad st.hp (gx g st.fr m) λo=>match o with
   |.map _ kk l clock ev iv=>fK st.hp ev iv l (gx g st.fr v) λW ev iv l v =>
     ∃t:Nat,n=(t:Int)/\(∃x∈l,x.2.2=t)/\k (.val undef) ⟨st.fr,jC st.hp (gx g st.fr m) (.map W kk (mset l t v) clock ev iv),st.nx⟩
   |_=>False
  |_=>False
 |.mdele kk m key=>match keyOf (gx g st.fr key) with
  |some kv=>bif nY kv.kind kk then
    match gx g st.fr m with
    |.val (.map none)=>k (.val (.tuple #[])) st
    |ms=>Ad st.hp ms λo=>match o with
     |.map V kk' l clock ev iv=>bif nY kk' kk then
       k (.val (.tuple #[])) ⟨st.fr,jC st.hp ms (.map V kk' (mdel l kv) clock ev iv),st.nx⟩
      else False
     |_=>False
   else False
  |none=>False
 |.mlen m=>match gx g st.fr m with
  |.val (.map none)=>k (.int .i64 0) st
  |ms=>Ad st.hp ms λo=>match o with
   |.map _ _ l _ _ _=>k (.int .i64 (l.length:Int)) st
   |_=>False
 |.mrange m=>bif Nat.blt st.nx FB then
   match gx g st.fr m with
   |.val (.map none)=>k (.own st.nx 0) ⟨st.fr,(st.nx,.iter (.val (.map none)) 0 [] 0)::st.hp,st.nx+1⟩
   |ms=>Ad st.hp ms λo=>match o with
    |.map _ _ _ clock _ _=>k (.own st.nx 0) ⟨st.fr,(st.nx,.iter ms clock [] clock)::st.hp,st.nx+1⟩
    |_=>False
  else False
 |.mnext it=>match gx g st.fr it with
  |.own id 0=>match get? st.hp id with
   |some (.iter (.val (.map none)) _ _ _)=>k (.tup (.cons (.bool false) .nil)) st
   |some (.iter src since seen last)=>Ad st.hp src λo=>match o with
    |.map _ _ l clock ev _ =>
     (∀x∈l,x.2.2<since)/\since<=last /\
     (∀x∈l,x.2.2∉seen->k (.tup (.cons (.bool true) (.cons x.1.sv (.cons (ev x.2.1) .nil)))) ⟨st.fr,fL st.hp id (.iter src since (seen++[x.2.2]) clock),st.nx⟩) /\
     ((∀x∈l,x.2.2∈seen)->k (.tup (.cons (.bool false) .nil)) st)
    |_=>False
   |_=>False
  |_=>False
 |.mentry it=>match gx g st.fr it with
  |.own id 0=>match get? st.hp id with
   |some (.iter src _ seen last)=>Ad st.hp src λo=>match o with
    |.map _ _ l clock ev _=>clock=last/\∃x∈l,(∀y∈l,y.2.2=x.2.2->y=x)/\(∃s0,seen=s0++[x.2.2])/\k (.tup (.cons x.1.sv (.cons (ev x.2.1) .nil))) st
    |_=>False
   |_=>False
  |_=>False
 |_=>False
theorem kR{g:Option (Nat×Bool)}{st:St}{k:SV->St->Prop}{so:SOp}(h:yP g st k so):evM g st k so:=by
 cases so<;>try exact h
 case mlook z ok kk m key =>
  simp only[yP,evM]at h ⊢;split at h
  .rename_i kv hkv;try rw[hkv]
   cases hb:nY kv.kind kk with
   |false=>grind
   |true =>
    rw[hb]at h;dsimp only[cond_true]at h ⊢
    grind[nW]
  omega
 case mupd kk m key v =>
  simp only[yP,evM]at h ⊢;split at h
  .rename_i kv hkv;try rw[hkv]
   cases hb:nY kv.kind kk with
   |false=>grind
   |true =>
    rw[hb]at h;dsimp only[cond_true]at h ⊢
    grind[nW]
  omega
 case ment z kk m key =>
  simp only[yP,evM]at h ⊢;split at h
  .rename_i kv hkv;try rw[hkv]
   cases hb:nY kv.kind kk with
   |false=>grind
   |true =>
    rw[hb]at h;dsimp only[cond_true]at h ⊢
    grind[nW]
  omega
 case mesto m t v =>
  grind[yP,evM,nW]
 case mdele kk m key =>
  simp only[yP,evM]at h ⊢;split at h
  .rename_i kv hkv;try rw[hkv]
   cases hb:nY kv.kind kk with
   |false=>grind
   |true =>
    rw[hb]at h;dsimp only[cond_true]at h ⊢
    grind[nW]
  omega
 case mlen m =>
  grind[yP,evM,nW]
 case mrange m =>
  simp only[yP,evM]at h ⊢;cases hb:Nat.blt st.nx FB with
  |false=>grind
  |true =>
   rw[hb]at h;dsimp only[cond_true]at h ⊢
   grind[nW]
 case mnext it =>
  simp only[yP,evM]at h ⊢;split at h
  .grind [nW]
  omega
 grind[yP,evM,nW]
section
variable {P:Program} {w:World}
theorem sZ{E:Env}{t:TypeId}{z:CV}(h:zeroV P t=some z):∃u,(zeroValue t).run P w=.ok u w/\R E z.sv [u]:=by
 simp only[zeroV,aE,aD]at h;obtain⟨i,h1,h2⟩:=h;split at h2
 .simp_all [jU,Qc]
 .cases h2
theorem xM{E:Env}{ok:Bool}{s:SV}{u:Value}{b:Bool}(h:R E s [u]):R E (nZ ok s b) [if ok=true then .tuple #[u,.bool b]else u]:=by
 cases ok with
 |true=>simp only[nZ,if_true,R]; simp[*]
 |false=>grind[nZ]
theorem Jz{t kt et:TypeId}{kk:KK}(ht:P.underlying t=some (.map kt et))(hk:qD P kt=some kk){z:CV}(hz:zeroV P et=some z){k:bQ}(hkd:k.kind=kk){b clock:Nat}{es:List MapEntry}(hb:w.heap[b]?=some (.map es.toArray clock))
  {E:Env} {V:Type} {ev:V->SV} {l:List (bQ×V×Nat)} (he:hZ E ev l es) (hkk:∀x∈l,x.1.kind=kk) (ok:Bool) :
  (∃v t' u,mget l k=some (v,t')/\R E (ev v) [u]/\(Instr.lookup t (.map (some b)) k.val ok).run P w=.ok (if ok=true then .tuple #[u,.bool true]else u) w) \/
  (mget l k=none/\∃u,R E z.sv [u]/\(Instr.lookup t (.map (some b)) k.val ok).run P w=.ok (if ok=true then .tuple #[u,.bool false]else u) w):=by
 have hf:=sA (w:=w) hk hkd he hkk;have hc:=λem=>oF (w:=w) hk hkd em;rcases vT l es 0 he with⟨h1,h2⟩|⟨v,t',j,e,h1,h2,h3,h4,h5,h6,h7,h8⟩
 .right;obtain⟨u,hu,hR⟩:=sZ (w:=w) (E:=E) hz;refine⟨h1,u,hR,?_⟩;unfold Instr.lookup;simp only[Sem.run_bind,aJ w ht,Result.andThen_ok,MapKept.run_getObj_map hb,Sem.run_pure,hc,hf,h2,hu]
 .left;refine⟨v,t',e.val,h1,h5,?_⟩;unfold Instr.lookup;simp only[Sem.run_bind,aJ w ht,Result.andThen_ok,MapKept.run_getObj_map hb,Sem.run_pure,hc,hf,h2]
theorem lookup_nil{t kt et:TypeId}{kk:KK}(ht:P.underlying t=some (.map kt et))(hk:qD P kt=some kk){z:CV}(hz:zeroV P et=some z){k:bQ}(hkd:k.kind=kk){E:Env}(ok:Bool) :
  ∃u,R E z.sv [u]/\(Instr.lookup t (.map none) k.val ok).run P w=.ok (if ok=true then .tuple #[u,.bool false]else u) w:=by
 obtain⟨u,hu,hR⟩:=sZ (w:=w) (E:=E) hz;have hc:=λem=>oF (w:=w) hk hkd em;have hf:=sA (P:=P) (w:=w) hk hkd (E:=E) (V:=Unit) (ev:=λ_=>.junk) (l:=[]) (es:=[]) rfl (by simp);simp only[fnd]at hf;refine⟨u,hR,?_⟩;unfold Instr.lookup;simp only[Sem.run_bind,aJ w ht,Result.andThen_ok,Sem.run_pure,hc,hf,hu]
def rR(w:World)(b:Nat)(o:Obj):World:={ w with heap:=w.heap.setIfInBounds b o }
theorem K5{t kt et:TypeId}{kk:KK}(ht:P.underlying t=some (.map kt et))(hk:qD P kt=some kk){k:bQ}(hkd:k.kind=kk){b clock:Nat}{es:List MapEntry}(hb:w.heap[b]?=some (.map es.toArray clock))
  {E:Env} {V:Type} {ev:V->SV} {l:List (bQ×V×Nat)} (he:hZ E ev l es) (hkk:∀x∈l,x.1.kind=kk) {v:V} {u:Value} (hu:R E (ev v) [u]) :
  (∃v' t' es',mget l k=some (v',t')/\hZ E ev (mput l k v) es'/\(Instr.mapUpdate t (.map (some b)) k.val u).run P w=.ok () (rR w b (.map es'.toArray clock))) \/
  (mget l k=none/\∃es',hZ E ev (l++[(k,v,clock)]) es'/\(Instr.mapUpdate t (.map (some b)) k.val u).run P w=.ok () (rR w b (.map es'.toArray (clock+1)))):=by
 have hf:=sA (w:=w) hk hkd he hkk;have hc:=λem=>oF (w:=w) hk hkd em;rcases vT l es 0 he with⟨h1,h2⟩|⟨v',t',j,e,h1,h2,h3,h4,h5,h6,h7,h8⟩
 .right;refine⟨h1,es++[⟨k.val,u,clock⟩],yB he ⟨_,[],rfl,rfl,hu,rfl,rfl⟩,?_⟩;unfold Instr.mapUpdate;simp only[Sem.run_bind,aJ w ht,Result.andThen_ok,MapKept.run_getObj_map hb,hc,hf,h2,MapKept.run_setObj_map _ hb];simp[rR]
 .left;refine⟨v',t',_,h1,h8 v u hu,?_⟩;rw[aP]at h2;have hkey:((es.toArray[j]?.map (·.key)).getD k.val)=k.val:=by simp[h3,h4]
  unfold Instr.mapUpdate;simp only[Sem.run_bind,aJ w ht,Result.andThen_ok,MapKept.run_getObj_map hb,hc,hf,h2,hkey,Cf,MapKept.run_setObj_map _ hb];simp[rR]
theorem Oe{t kt et:TypeId}{kk:KK}(ht:P.underlying t=some (.map kt et))(hk:qD P kt=some kk){z:CV}(hz:zeroV P et=some z){k:bQ}(hkd:k.kind=kk){b clock:Nat}{es:List MapEntry}(hb:w.heap[b]?=some (.map es.toArray clock))
  {E:Env} {V:Type} {ev:V->SV} {l:List (bQ×V×Nat)} (he:hZ E ev l es) (hkk:∀x∈l,x.1.kind=kk) :
  (∃v t' u,mget l k=some (v,t')/\R E (ev v) [u]/\(Instr.mapEntry t (.map (some b)) k.val).run P w=.ok (.tuple #[u,goInt (t':Int)]) (rR w b (.map es.toArray clock))) \/
  (mget l k=none/\∃u,R E z.sv [u]/\(Instr.mapEntry t (.map (some b)) k.val).run P w=.ok (.tuple #[u,goInt (clock:Int)]) (rR w b (.map (es++[({ key:=k.val,val:=u,born:=clock }:MapEntry)]).toArray (clock+1)))):=by
 have hf:=sA (w:=w) hk hkd he hkk;have hc:=λem=>oF (w:=w) hk hkd em;rcases vT l es 0 he with⟨h1,h2⟩|⟨v',t',j,e,h1,h2,h3,h4,h5,h6,h7,h8⟩
 .right;obtain⟨u,hu,hR⟩:=sZ (w:=w) (E:=E) hz;refine⟨h1,u,hR,?_⟩;unfold Instr.mapEntry;simp only[Sem.run_bind,aJ w ht,Result.andThen_ok,MapKept.run_getObj_map hb,hc,hf,h2,hu,MapKept.run_setObj_map _ hb];simp[rR]
 .left;refine⟨v',t',e.val,h1,h5,?_⟩;rw[aP]at h2;have hkey:((es.toArray[j]?.map (·.key)).getD k.val)=k.val:=by simp[h3,h4]
  have hmod:es.toArray.modify j (λe=>{ e with key:=k.val })=es.toArray:=by
   apply Array.ext';simp only[Array.toList_modify];apply iI;intro q;rw[List.getElem?_modify];by_cases hq:j=q
   .subst hq; simp[h3,<- h4]
   .simp [hq]
  unfold Instr.mapEntry;simp only[Sem.run_bind,aJ w ht,Result.andThen_ok,MapKept.run_getObj_map hb,hc,hf,h2,hkey,Cf,MapKept.run_setObj_map _ hb,hmod];simp_all[rR]
theorem I0{t kt et:TypeId}{kk:KK}(ht:P.underlying t=some (.map kt et))(hk:qD P kt=some kk){k:bQ}(hkd:k.kind=kk){b clock:Nat}{es:List MapEntry}(hb:w.heap[b]?=some (.map es.toArray clock))
  {E:Env} {V:Type} {ev:V->SV} {l:List (bQ×V×Nat)} (he:hZ E ev l es) (hkk:∀x∈l,x.1.kind=kk) (ts:Array TypeId) (hts:ts[0]?=some t) (ty:TypeId) :
  ∃es',hZ E ev (mdel l k) es'/\(Builtin.delete_ ts ty #[.map (some b),k.val]).run P w=.ok (.tuple #[]) (rR w b (.map es'.toArray clock)):=by
 have hf:=sA (w:=w) hk hkd he hkk;have hc:=λem=>oF (w:=w) hk hkd em;have none_same:∀l:List (bQ×V×Nat),mget l k=none->mdel l k=l:=by
  intro l;induction l with
  |nil=>intro _; rfl
  |cons x r ih =>
   intro h;simp only[mget]at h;split at h
   .cases h
   .rename_i hne;simp only[mdel,hne,if_false,ih h]
 rcases vT l es 0 he with⟨h1,h2⟩|⟨v',t',j,e,h1,h2,h3,h4,h5,h6,h7,h8⟩
 .refine ⟨es,by rw[none_same l h1]; exact he,?_⟩;unfold Builtin.delete_;simp only[hts];simp[aJ w ht,MapKept.run_getObj_map hb,hc,hf,h2,MapKept.run_setObj_map _ hb,rR]
 .refine ⟨_,h7,?_⟩;rw[aP]at h2;have hlt:j<es.length:=(bZ.1 h3).1;unfold Builtin.delete_;simp only[hts];simp[aJ w ht,MapKept.run_getObj_map hb,hc,hf,h2,MapKept.run_setObj_map _ hb,rR,Array.eraseIdxIfInBounds,hlt]
section
variable {C:Ctx} {μ:Nat->Option (Nat×Nat)} {hp:List (Nat×aL)} {nx:Nat}
theorem U6(hH:HpR (aG C μ hp w) hp){s t:SV}{vs:List Value}(h:sub (Keep.same hp) hp 200 s t)(hr:R (aG C μ hp w) s vs):R (aG C μ hp w) t vs :=
 lF (E:=aG C μ hp w) (E':=aG C μ hp w) (keep:=Keep.same hp) ⟨λ_=>⟨λ_ h=>h,λ_ _=>rfl⟩,(λ_ _ _ h=>by cases get?_idn h; simp),(λ_ _ _ _ h=>by cases get?_idn h; simp),rfl,(by grind[kept,Keep.same])⟩ hH 200 s t vs h hr
theorem xN(hH:HpR (aG C μ hp w) hp){V:Type}{ev:V->SV}{iv:SV->Option V}{l:List (bQ×V×Nat)}{es:List MapEntry}{kk:KK}{s:SV}{u:Value}(hs:R (aG C μ hp w) s [u])(he:hZ (aG C μ hp w) ev l es)(hkk:∀x∈l,x.1.kind=kk)
  {k:(W:Type)->(W->SV)->(SV->Option W)->List (bQ×W×Nat)->W->Prop} (h:fK hp ev iv l s k) :
  ∃(W:Type) (ev':W->SV) (iv':SV->Option W) (l':List (bQ×W×Nat)) (v':W),k W ev' iv' l' v'/\hZ (aG C μ hp w) ev' l' es/\(∀x∈l',x.1.kind=kk)/\R (aG C μ hp w) (ev' v') [u]:=by
 unfold fK at h;split at h
 .grind [U6]
 .refine ⟨SV,id,some,_,s,h,Vr (g:=ev) (λ_=>rfl) he,?_,hs⟩
  grind
theorem mV(h:bD C μ hp nx w){hp':List (Nat×aL)}{id b c:Nat}{o x:aL}{y:Obj}(hh:∀n,hget hp' n=if id=n then some x else hget hp n)(hk:∀n o',get? hp' n=some o'->∃o'',get? hp n=some o'')
  (hg:hget hp id=some o) (hm:μ id=some (b,c)) (hx:HR (aG C μ hp w) x c y) (hn:∀l p,o≠.hid l p:=by intro _ _ e; cases e) (hxo:FB<=id->∀q,x≠.obj q:=by intro _ _ e; cases e) (hnx:∀l p,x≠.hid l p:=by intro _ _ e; cases e):(aG C μ hp w).Le (aG C μ hp' (rR w b y))/\bD C μ hp' nx (rR w b y):=by
 have hlt:=h.lt hg hm;refine h.write hh hk hg hm (by simp[rR]) (λk hk=>?_) ?_ rfl rfl rfl hx hn (DLe.of_le (aN _)) hxo hnx
 .simp [rR,Ne.symm hk]
 simp_all[rR]
theorem Gs{E:Env}(k:bQ):R E k.sv [k.val]:=by
 cases k with
 |s b=>rfl
 |i k n=>rfl
 |a x y=>exact⟨[.int .i64 x,.int .i64 y],rfl,.int .i64 x,[.int .i64 y],rfl,rfl,.int .i64 y,[],rfl,rfl,rfl⟩
 |t l =>
  refine⟨_,rfl,?_⟩;induction l with
  |nil=>rfl
  |cons x l ih=>exact⟨x.val,l.map KP.val,rfl,by cases x<;>rfl,ih⟩
theorem zR{E:Env}{V:Type}{ev:V->SV}:∀{l:List (bQ×V×Nat)} {es:List MapEntry},hZ E ev l es->∀e∈es,∃x∈l,e.key=x.1.val/\R E (ev x.2.1) [e.val]/\e.born=x.2.2:=by
 intro l;induction l with
 |nil=>grind[hZ]
 |cons x r ih =>
  intro es h e he;obtain⟨e0,t,rfl,h2,h3,h4,h5⟩:=h
  grind
theorem By{E:Env}{V:Type}{ev:V->SV}:∀{l:List (bQ×V×Nat)} {es:List MapEntry},hZ E ev l es->∀x∈l,∃e∈es,e.key=x.1.val/\R E (ev x.2.1) [e.val]/\e.born=x.2.2:=by
 intro l;induction l with
 |nil=>simp
 |cons y r ih =>
  intro es h x hx;obtain⟨e0,t,rfl,h2,h3,h4,h5⟩:=h
  grind
end
end
end Go.Eng
end
