/- A part of the proof. -/
import Derived.Test.YtpiolkcdfgiefaaGreatDoorEngF
import Derived.Laws.Cover3
import Derived.Laws.StructEq
import Derived.MapKept
set_option maxHeartbeats 10000000
namespace Go.Eng
open Go Go.RowKit
theorem PR.qH{o:Option SV}{Q:SV->Prop}(h:(PR.of o).holds Q):∃v,o=some v/\Q v:=by
 cases o with
 |none=>exact h.elim
 |some v=>exact⟨v,rfl,h⟩
section
variable {P:Program} {C:Ctx} {μ:Nat->Option (Nat×Nat)} {hp:List (Nat×aL)} {w:World}
theorem mC{t:TypeId}{i:TypeInfo}{d:TypeDesc}{b off:Nat}{cs:List Value}{l s:SV}(hi:P.info? t=some i)(hd:P.underlying t=some d)
  (hk:(mN d || i.size == 1)=true) (hc:Holds w b off cs) (hR:R (aG C μ hp w) l cs) (hrd:rd i.size (mN d) l=some s) :
  ∃v,(loadVar t ⟨b,off,none⟩).run P w=.ok v w/\R (aG C μ hp w) s [v]:=by
 unfold rd at hrd;cases ha:mN d with
 |true =>
  simp only[ha]at hrd;split at hrd
  .rename_i r hr;cases hrd;obtain⟨t1,t2⟩:=oZ hr hR;have:=pH (P:=P) (w:=w) hi hd (hc.take i.size) (by simp; omega) (by simp[ha]);rw[ha]at this;exact⟨_,this,by simp only[R]; simp[*]⟩
  .cases hrd
 |false =>
  simp only[ha,gV,beq_iff_eq]at hk;simp only[ha]at hrd;obtain⟨v,r,rfl,hv⟩:=vE hrd hR;have:=pH (P:=P) (w:=w) hi hd (hc.take 1) (by simp[hk]) (by simp[hk]);simp[*]
theorem vR(hH:HpR (aG C μ hp w) hp){t:TypeId}{i:TypeInfo}{d:TypeDesc}(hi:P.info? t=some i)(hd:P.underlying t=some d)
  (hk:(mN d || i.size == 1)=true) {s:SV} {v:Value} (hx:R (aG C μ hp w) s [v]) {Q:SV->Prop} (he:(zZ hp i.size (mN d) s).holds Q) :
  ∃s',Q s'/\∃u,(Instr.loadAt t v).run P w=.ok u w/\R (aG C μ hp w) s' [u]:=by
 have key:∀b off,v=.pointer (some ⟨b,off,none⟩)->(Instr.loadAt t v).run P w=(loadVar t ⟨b,off,none⟩).run P w:=by
  rintro b off rfl;rfl
 unfold zZ at he;split at he
 .rename_i id off;simp only[R]at hx;obtain⟨b,c,m1,hv⟩:=hx;split at he
  .rename_i T l hg;obtain⟨s',hs,hq⟩:=PR.qH he;obtain⟨cs,c1,c2⟩:=hH.cells hg m1;obtain⟨u,h1,h2⟩:=mC hi hd hk (Holds.row c1 off) (hP c2) hs;exact⟨s',hq,u,by rw[key b off (by simpa using hv)]; exact h1,h2⟩
  .exact he.elim
 .rename_i id sz j off;simp only[R]at hx;obtain⟨b,c,m1,hv⟩:=hx;split at he
  .rename_i T sz' len enc hg;cases hb:Nat.beq sz sz' with
   |false=>simp only[hb,cond_false]at he; exact he.elim
   |true =>
    have:=nbeq hb;subst this;simp only[hb,cond_true]at he;split at he
    .rename_i s' hs;obtain⟨hlt,hq⟩:=he;obtain⟨cs,c1,c2,c3,c4⟩:=hH.arr hg (by omega) m1;obtain⟨xs,x1,x2,x3⟩:=c4 j hlt;have hH':Holds w b (j*sz+off) (xs.drop off):=by
      intro k u hk';rw[cell_of_row w b _ cs.toArray T (0,0) c1]
      grind
     obtain⟨u,h1,h2⟩:=mC hi hd hk hH' (hP x1) hs
     grind
    .exact he.elim
  .rename_i T l hg;cases hb:(Nat.beq sz 1 && !mN d) with
   |false=>simp only[hb,cond_false]at he; exact he.elim
   |true =>
    simp only[hb,cond_true]at he;simp only[aI,bL]at hb;obtain⟨hb1,hb2⟩:=hb;have:=nbeq hb1;subst this;split at he
    .rename_i k m f r hdr;obtain⟨hlt,hq⟩:=he;obtain⟨cs,c1,c2⟩:=hH.cells hg m1;have c3:=hP (n:=off) c2;rw[hdr]at c3;simp only[R]at c3;obtain⟨xs,x1,_⟩:=c3;have hH':Holds w b (j+off) [.int k (f j)]:=by
      intro q u hu;cases q with
      |zero =>
       obtain rfl:Value.int k (f j)=u:=by grind
       rw[cell_of_row w b _ cs.toArray T (0,0) c1];have:(cs.drop off)[j]?=some (.int k (f j)):=by
        grind[cG,lD]
       grind
      |succ q=>simp at hu
     obtain⟨u,h1,h2⟩:=mC (l:=.cons (.int k (f j)) .nil) (s:=.int k (f j)) (C:=C) (μ:=μ) (hp:=hp) hi hd hk hH' (by simp[R]) (by simp[rd,hb2,cA])
     grind
    .exact he.elim
  .exact he.elim
 .rename_i cells;simp only[R]at hx;obtain⟨b,off,cs,hv,hu,c2,c1⟩:=hx;obtain⟨s',hs,hq⟩:=PR.qH he;obtain⟨u,h1,h2⟩:=mC hi hd hk c1 c2 hs;exact⟨s',hq,u,by rw[key b off (by simpa using hv)]; exact h1,h2⟩
 .exact he.elim
theorem aAa{E:Env}{a:Option Addr}{sz:Nat}:∀{els:SV} {i:Nat},RE E els a sz i->∀k,k<els.len->pM E a sz (i+k) (R E (mO els k)):=by
 intro els;induction els with
 |cons h t _ iht =>
  intro i hr k hk;simp only[RE]at hr;cases k with
  |zero=>exact hr.1
  |succ k =>
   have:=iht hr.2 k (by grind[SV.len]);have e:i+1+k=i+(k+1):=by omega
   rw[e]at this;exact this
 |ints=>grind[RE]
 |_=>intro i _ k hk; simp[SV.len]at hk
theorem lN{E:Env}{s:SV}{sz n:Nat}{enc:Nat->SV}{v:Value}(h:asSlice s=some (sz,n,enc))(hr:R E s [v]):R E (.slice sz n enc) [v]:=by
 unfold asSlice at h;split at h
 .grind
 .rename_i sz' els;cases h;simp only[R]at hr ⊢;obtain⟨a,e1,e2⟩:=hr;exact⟨a,_,e1,aN _,λi hi=>by have:=aAa e2 i hi; grind⟩
 .cases h
theorem Fb{e:TypeId}{i:TypeInfo}(h:P.info? e=some i)(w:World):(sizeOf e).run P w=.ok i.size w:=bR w h
theorem Gd{t e:TypeId}{i:TypeInfo}(ht:P.underlying t=some (.slice e))(hi:P.info? e=some i){x ix:SV}{vx vi:Value}(hx:R (aG C μ hp w) x [vx])(hi':R (aG C μ hp w) ix [vi])
  {Q:SV->Prop} (he:(Rp i.size x ix).holds Q):∃s,Q s/\∃u,(Instr.indexAt t vx vi).run P w=.ok u w/\R (aG C μ hp w) s [u]:=by
 have run:∀(k:IntKind) (m:Int) (b off n cap:Nat),0<=m->m<n->vi=.int k m->vx=.slice (some ⟨b,off,none⟩) n cap ->
   (Instr.indexAt t vx vi).run P w=.ok (.pointer (some ⟨b,off+m.toNat*i.size,none⟩)) w:=by
  rintro k m b off n cap h0 h1 rfl rfl;unfold Instr.indexAt;simp only[asIntOf,Sem.run_bind,Sem.run_pure,Result.andThen_ok,aJ w ht];simp_all[Fb,Addr.mE]
 replace hx:=qN hx;unfold Rp at he;generalize pB x=x at he hx;split at he
 .rename_i k m;simp only[R]at hi';have hvi:vi=.int k m:=by grind
  split at he
  .rename_i id sz' lo n;cases hb:Nat.beq i.size sz' with
   |false=>simp only[hb,cond_false]at he; exact he.elim
   |true =>
    have hsz:=nbeq hb;simp only[hb,cond_true]at he;obtain⟨⟨h0,h1⟩,hq⟩:=he
    grind[R]
  .rename_i d0 j sz' n;cases hb:Nat.beq i.size sz' with
   |false=>simp only[hb,cond_false]at he; exact he.elim
   |true =>
    have hsz:=nbeq hb;simp only[hb,cond_true]at he;obtain⟨⟨h0,h1⟩,hq⟩:=he
    grind[R]
  .split at he
   .rename_i sz' n enc hs;cases hb:Nat.beq i.size sz' with
    |false=>simp only[hb,cond_false]at he; exact he.elim
    |true =>
     have hsz:=nbeq hb;simp only[hb,cond_true]at he;obtain⟨⟨h0,h1⟩,hq⟩:=he;have hx':=lN hs hx;simp only[R]at hx';obtain⟨a,cap,hv,m2,m3⟩:=hx';obtain⟨b,off,cs,rfl,hu,hr,hl,hh⟩:=m3 m.toNat (by omega);have hv':vx=.slice (some ⟨b,off,none⟩) n cap:=by grind
     refine⟨_,hq,_,run k m b off n cap h0 h1 hvi hv',?_⟩;simp only[R]
     grind
   .exact he.elim
 .exact he.elim
theorem vS{tab:List (Nat×fV)}{t:TypeId}{op:BinOp}{x y:SV}{vx vy:Value}{ox oy:Operand}(hop:Ic tab op=true)
  (hx:R (aG C μ hp w) x [vx]) (hy:R (aG C μ hp w) y [vy]) {Q:SV->Prop} (he:(I7 op x y).holds Q) :
  ∃s,Q s/\∃u,(do eqGuard op t ox oy vx vy; binOp op t vx vy:Sem Value).run P w=.ok u w/\R (aG C μ hp w) s [u]:=by
 unfold I7 at he;split at he
 .rename_i k a k' b;simp only[R]at hx hy;obtain rfl:vx=.int k a:=by grind
  obtain rfl:vy=.int k' b:=by grind
  have hgd:∀w,(eqGuard op t ox oy (.int k a) (.int k' b)).run P w=.ok () w:=by
   simp_all[eqGuard]
  cases hk:kEq k k' with
  |false=>simp only[hk,cond_false]at he; exact he.elim
  |true =>
   obtain rfl:=sJ hk;simp only[hk,cond_true]at he;refine⟨_,he,.int k (wrI op k a b),?_,by rfl⟩;unfold Ic at hop;cases op<;>first
    | (simp[hgd,binOp,Op.intArith,wrI]; done)
    | (exfalso; split at hop<;>simp at hop)
 .exact he.elim
theorem yI{t:TypeId}{op:BinOp}{x y:SV}{vx vy:Value}{ox oy:Operand}
  (hx:R (aG C μ hp w) x [vx]) (hy:R (aG C μ hp w) y [vy]) {Q:SV->Prop} (he:(Ro op x y).holds Q) :
  ∃s,Q s/\∃u,(do eqGuard op t ox oy vx vy; binOp op t vx vy:Sem Value).run P w=.ok u w/\R (aG C μ hp w) s [u]:=by
 unfold Ro at he;split at he
 .rename_i k a k' b;simp only[R]at hx hy;obtain rfl:vx=.int k a:=by grind
  obtain rfl:vy=.int k' b:=by grind
  have hgd:∀w,(eqGuard op t ox oy (.int k a) (.int k' b)).run P w=.ok () w:=by
   simp_all[eqGuard]
  cases hs:Mf op with
  |true =>
   simp only[hs,cond_true]at he;cases op<;>simp only[Lq]at he<;>first
    |exact he.elim
    | (obtain⟨h1,hq⟩:=he
       refine⟨_,hq,?_,?_,?_⟩;rotate_left 2
       .exact rfl
       .have h2:¬b<0:=by omega
        simp[*,binOp,Op.shift,shI])
  |false =>
  simp only[hs,cond_false]at he;cases hk:kEq k k' with
  |false=>simp only[hk,cond_false]at he; exact he.elim
  |true =>
   obtain rfl:=sJ hk;simp only[hk,cond_true]at he;cases op<;>simp only[Y9]at he<;>(try split at he)<;>first
    |exact he.elim
    | (obtain⟨h1,hq⟩:=he
       refine⟨_,hq,?_,?_,?_⟩;rotate_left 2
       .exact rfl
       .first
        | (simp[hgd,binOp,Op.intArith,InR.wrap h1]; done)
        |simp_all[binOp,Op.intDiv,InR.wrap]
        |simp_all[binOp,Op.intDiv])
    | (refine⟨_,he,?_,?_,?_⟩
       rotate_left 2
       .exact rfl
       .first
        | (simp[hgd,binOp,Op.intBits,gI]; done)
        | (simp[hgd,binOp,Op.intArith]; done)
        | (simp[hgd,binOp,Op.intCmp,bne]
           try (first|rfl|(congr 1))))
 .rename_i a b;simp only[R]at hx hy;obtain rfl:vx=.string ⟨a.toArray⟩:=by grind
  obtain rfl:vy=.string ⟨b.toArray⟩:=by grind
  have hgd:∀w,(eqGuard op t ox oy (.string ⟨a.toArray⟩) (.string ⟨b.toArray⟩)).run P w=.ok () w:=by
   simp_all[eqGuard]
  have hab:(a == b)=decide (a=b):=by grind
  cases op<;>simp only at he<;>first
   |exact he.elim
   | (obtain⟨h1,hq⟩:=he
      refine⟨_,hq,?_,?_,?_⟩;rotate_left 2
      .exact rfl
      .have h2:(Op.stringOp .add (⟨a.toArray⟩:ByteArray) ⟨b.toArray⟩).run P w=.ok (.string (⟨a.toArray⟩++⟨b.toArray⟩)) w :=
        run_string_add_sum w _ _ (by show a.toArray.size+b.toArray.size<=_; omega)
       grind[Sem.run_bind,Result.andThen_ok,binOp_string_add,ByteArray.mk_append_mk])
   | (refine⟨_,he,?_,?_,?_⟩
      rotate_left 2
      .exact rfl
      .simp [hgd,binOp,Op.stringOp,hab])
 .exact he.elim
theorem tW{t e:TypeId}(ht:P.underlying t=some (.pointer e)){neg:Bool}{x y:SV}{vx vy:Value}{ox oy:Operand}
  (hx:R (aG C μ hp w) x [vx]) (hy:R (aG C μ hp w) y [vy]) {Q:SV->Prop} (he:(Dx neg x y).holds Q) :
  ∃s,Q s/\∃u,(do eqGuard (if neg then .neq else .eql) t ox oy vx vy; binOp (if neg then .neq else .eql) t vx vy:Sem Value).run P w=.ok u w/\R (aG C μ hp w) s [u]:=by
 have run:∀p:Option Addr,vx=.pointer p->vy=.pointer none->(do eqGuard (if neg then .neq else .eql) t ox oy vx vy; binOp (if neg then .neq else .eql) t vx vy:Sem Value).run P w=.ok (.bool (if neg then p.isSome else p.isNone)) w:=by
  rintro p rfl rfl
  grind[eqGuard,Program.pointee,run_neq_pointer_nil,run_eql_pointer_nil]
 unfold Dx at he;split at he
 .simp only [R]at hx hy;refine⟨_,he,_,run none (by simpa using hx) (by simpa using hy),?_⟩
  grind[R]
 .simp only [R]at hx hy;obtain⟨b,c,_,hv⟩:=hx;refine⟨_,he,_,run _ (by simpa using hv) (by simpa using hy),?_⟩
  grind[R]
 .simp only [R]at hx hy;obtain⟨b,c,_,hv⟩:=hx;refine⟨_,he,_,run _ (by simpa using hv) (by simpa using hy),?_⟩
  grind[R]
 .simp only [R]at hx hy;obtain⟨b,off,cs,hv,_⟩:=hx;refine⟨_,he,_,run _ (by simpa using hv) (by simpa using hy),?_⟩
  grind[R]
 .simp only [R]at hx hy;obtain⟨b,c,_,hv⟩:=hx;refine⟨_,he,_,run _ (by simpa using hv) (by simpa using hy),?_⟩
  grind[R]
 .simp only [R]at hx hy;refine⟨_,he,_,run _ (by simpa using hx) (by simpa using hy),?_⟩
  grind[R]
 .exact he.elim
theorem Tv{t:TypeId}{d:TypeDesc}(h:P.underlying t=some d)(hd:mN d=false){vs:List Value}{off:Nat}{v:Value}(hv:vs[off]?=some v):(part t vs.toArray off).run P w=.ok v w:=by
 simp_all[part,mB]
theorem Rm{a b:SV}:∀{l m:List (Nat×Nat)} {q:Bool},xD (l++m) a b=some q->∃p r,xD l a b=some p/\xD m a b=some r/\q=(p && r):=by
 intro l;induction l with
 |nil=>intro m q h; exact⟨true,q,rfl,h,rfl⟩
 |cons x l ih =>
  intro m q h;obtain⟨off,k⟩:=x;simp only[gK,xD]at h ⊢
  grind
theorem Rn{a b:SV}{xs ys:List Value}(ha:R (aG C μ hp w) a xs)(hb:R (aG C μ hp w) b ys){d:Nat}{t:TypeId}{off k:Nat}{q:Bool}(he:xD [(off,k)] a b=some q)
  (ht:(k=0/\P.underlying t=some .bool)\/(k=1/\∃j,P.underlying t=some (.int j))\/(k=2/\P.underlying t=some .string)) :
  ∃u v,xs[off]?=some u/\ys[off]?=some v/\(Op.equalIn (d+1) t u v).run P w=.ok q w:=by
 have pt:∀{s:SV} {l:SV} {vs:List Value},R (aG C μ hp w) l vs->cA (iA off l)=some s->∃v,vs[off]?=some v/\R (aG C μ hp w) s [v]:=by
  intro s l vs hl hs;obtain⟨v,r,e1,e2⟩:=vE hs (hP (n:=off) hl);refine⟨v,?_,e2⟩;have:(vs.drop off)[0]?=some v:=by rw[e1]; rfl
  grind
 simp only[xD]at he;split at he
 .rename_i q1 m q2 n h1 h2;cases hb1:Nat.beq k 1 with
  |false=>grind
  |true =>
   obtain rfl:=nbeq hb1;simp only[hb1,cond_true]at he;rcases ht with⟨e,_⟩|⟨_,j,ht⟩|⟨e,_⟩
   .cases e
   .cases hk:kEq q1 q2 with
    |false=>grind
    |true =>
     simp only[hk,cond_true,lE,aH]at he;subst he;obtain⟨u,u1,u2⟩:=pt ha h1;obtain⟨v,v1,v2⟩:=pt hb h2;simp only[R]at u2 v2;rw[aC.1 u2]at u1;rw[aC.1 v2]at v1;refine⟨_,_,u1,v1,?_⟩;have:(m == n)=decide (m=n):=by rfl
     have hq:=sJ hk;simp[*,Op.equalIn,aJ]
   .cases e
 .rename_i p p' h1 h2;cases hb1:Nat.beq k 0 with
  |false=>grind
  |true =>
   obtain rfl:=nbeq hb1;simp only[hb1,cond_true,lE,aH]at he;subst he;rcases ht with⟨_,ht⟩|⟨e,_⟩|⟨e,_⟩
   .obtain ⟨u,u1,u2⟩:=pt ha h1;obtain⟨v,v1,v2⟩:=pt hb h2;simp only[R]at u2 v2;rw[aC.1 u2]at u1;rw[aC.1 v2]at v1;simp[*,Op.equalIn,aJ]
   .cases e
   .cases e
 .rename_i s s' h1 h2;cases hb1:Nat.beq k 2 with
  |false=>grind
  |true =>
   obtain rfl:=nbeq hb1;simp only[hb1,cond_true,lE,aH]at he;subst he;rcases ht with⟨e,_⟩|⟨e,_⟩|⟨_,ht⟩
   .cases e
   .cases e
   .obtain ⟨u,u1,u2⟩:=pt ha h1;obtain⟨v,v1,v2⟩:=pt hb h2;simp only[R]at u2 v2;rw[aC.1 u2]at u1;rw[aC.1 v2]at v1;refine⟨_,_,u1,v1,?_⟩;have:((⟨s.toArray⟩:ByteArray) == ⟨s'.toArray⟩)=decide (s=s'):=by
     rw[bH,MapKept.bytes_beq]; simp
    simp_all[Op.equalIn,aJ]
 .cases he
def Vv(xs' xs:List Value)(base sz:Nat):Prop:=∀i,i<sz->xs'[i]?=xs[base+i]?
theorem I3{a b:SV}{xs ys:List Value}(ha:R (aG C μ hp w) a xs)(hb:R (aG C μ hp w) b ys):∀(n base sz d:Nat) (xs' ys':List Value) (fs:List Field) (offs:List (Nat×Nat)) (q:Bool),
  Vv xs' xs base sz->Vv ys' ys base sz->nU P n base sz fs=some offs->xD offs a b=some q->(Op.eqFields (d+n) xs'.toArray ys'.toArray fs).run P w=Result.ok q w:=by
 intro n;induction n with
 |zero=>grind[nU]
 |succ n ihn =>
  intro base sz d xs' ys' fs;simp only[nU];induction fs with
  |nil=>simp_all[vN,Option.some.injEq,xD,Op.eqFields]
  |cons f fs ih =>
   intro offs q hx hy hc h;simp only[vN]at hc;split at hc
   ·rename_i o1 o2 ho1 ho2;cases hc;obtain ⟨p, r, h1, h2, rfl⟩ := Rm h;have rest := ih o2 r hx hy ho2 h2;simp only [Dl] at ho1;cases hn : (f.name != "_" && Nat.blt f.offset sz) with
    |false=>grind
    |true =>
     simp only [hn] at ho1;obtain ⟨hn1, hn2⟩ := Bool.and_eq_true_iff.1 hn;have hn' : ¬ f.name = "_" := by grind
     have hlt:f.offset<sz:=aQ hn2;have fin:∀{u v:Value},(part f.type xs'.toArray f.offset).run P w=.ok u w->(part f.type ys'.toArray f.offset).run P w=.ok v w->(Op.equalIn (d+(n+1)) f.type u v).run P w=.ok p w ->
       (Op.eqFields (d+(n+1)) xs'.toArray ys'.toArray (f::fs)).run P w=Result.ok (p && r) w:=by
      intro u v hu hv he;simp only[Op.eqFields,hn',ne_eq,not_false_eq_true,if_true,Sem.run_bind,hu,hv,Result.andThen_ok,he];cases p with
      |true=>simp[*]
      |false=>simp
     have prim:∀{k:Nat} {t:TypeDesc},o1=[(base+f.offset,k)]->P.underlying f.type=some t->mN t=false->((k=0/\P.underlying f.type=some .bool)\/(k=1/\∃j,P.underlying f.type=some (.int j))\/(k=2/\P.underlying f.type=some .string)) ->
       (Op.eqFields (d+(n+1)) xs'.toArray ys'.toArray (f::fs)).run P w=Result.ok (p && r) w:=by
      intro k t e ht hg hk;subst e;obtain⟨u,v,hu,hv,he⟩:=Rn (P:=P) (d:=d+n) ha hb h1 hk;rw[<- hx _ hlt]at hu;rw[<- hy _ hlt]at hv
      grind[Tv]
     split at ho1
     .rename_i ht; exact prim (eG ho1).symm ht rfl (.inl ⟨rfl,ht⟩)
     .rename_i j ht; exact prim (eG ho1).symm ht rfl (by grind)
     .rename_i ht; exact prim (eG ho1).symm ht rfl (by grind)
     .rename_i gs ht;split at ho1
      .rename_i i hst hi;cases hle:Nat.ble (f.offset+i.size) sz with
       |false=>grind
       |true =>
        simp only[hle]at ho1;have hle':f.offset+i.size<=sz:=aQ hle;have prt:∀l:List Value,(part f.type l.toArray f.offset).run P w=.ok (.agg ((l.drop f.offset).take i.size).toArray) w:=by
         simp_all[part,mB,mN,bR]
        have sb:∀{l' l:List Value},Vv l' l base sz->Vv ((l'.drop f.offset).take i.size) l (base+f.offset) i.size:=by
         intro l' l hl k hk;rw[List.getElem?_take_of_lt hk,cY,hl _ (by omega),Nat.add_assoc]
        have hfo:P.fieldsOf f.type=gs:=by simp[Program.fieldsOf,ht]
        refine fin (prt xs') (prt ys') ?_;rw[show d+(n+1)=(d+n)+1 from rfl,run_equalIn_struct w (d+n) f.type _ _ (by rw[hfo]; exact ht) hst,hfo]
        grind
      .cases ho1
     .cases ho1
   .cases hc
theorem aBl : ∀ (n base sz d : Nat) (fs : List Field) (offs : List (Nat × Nat)), nU P n base sz fs = some offs -> fs.any (fun f => f.name != "_" && P.eqGuardType (d + n) f.type) = false := by
 intro n;induction n with
 |zero=>grind[nU]
 |succ n ihn =>
  intro base sz d fs;simp only[nU];induction fs with
  |nil=>simp
  |cons f fs ih =>
   intro offs hc;simp only[vN]at hc;split at hc
   .rename_i o1 o2 ho1 ho2;rw[List.any_cons,ih o2 ho2,Bool.or_false];have:P.eqGuardType (d+(n+1)) f.type=false:=by
     simp only[Dl]at ho1;rw[show d+(n+1)=(d+n)+1 from rfl];unfold Program.eqGuardType;split at ho1
     .split at ho1
      .simp [*]
      .simp [*]
      .simp [*]
      .rename_i gs ht;rw[ht];split at ho1
       .split at ho1
        .have:=ihn _ _ d gs.toList o1 ho1
         grind
        .cases ho1
       .cases ho1
      .cases ho1
     .cases ho1
    simp[*]
   .cases hc
theorem Bp{t:TypeId}{fs:Array Field}(ht:P.underlying t=some (.struct fs))(hh:P.stoodInHeld t=false){offs:List (Nat×Nat)}(hf:nU P 4 0 1000000 fs.toList=some offs){neg:Bool}{a b:SV}{xs ys:List Value}{ox oy:Operand}
  (hx:R (aG C μ hp w) a xs) (hy:R (aG C μ hp w) b ys) {q:Bool} (he:xD offs a b=some q) :
  (do eqGuard (if neg then .neq else .eql) t ox oy (.agg xs.toArray) (.agg ys.toArray); binOp (if neg then .neq else .eql) t (.agg xs.toArray) (.agg ys.toArray):Sem Value).run P w=.ok (.bool (if neg then !q else q)) w:=by
 have hfo:P.fieldsOf t=fs:=by simp[Program.fieldsOf,ht]
 have hg:P.eqGuardType P.depth t=false:=by
  have hd:P.depth=((2*(P.types.size+Made.depth)+1-4)+4)+1:=by rfl
  rw[hd];unfold Program.eqGuardType;rw[ht];have:=aBl 4 0 1000000 (2*(P.types.size+Made.depth)+1-4) fs.toList offs hf
  grind
 have heq:(Op.equalIn 10000 t (.agg xs.toArray) (.agg ys.toArray)).run P w=.ok q w:=by
  rw[run_equalIn_struct w 9999 t _ _ (by rw[hfo]; exact ht) hh,hfo];exact I3 hx hy 4 0 1000000 9995 xs ys fs.toList offs q (λi _=>by rw[aP]) (λi _=>by rw[aP]) hf he
 cases neg with
 |true=>simp[run_eqGuard_agg w .neq t ox oy _ _ hg,run_neq_struct,heq]
 |false=>simp[run_eqGuard_agg w .eql t ox oy _ _ hg,run_eql_struct,heq]
theorem tV{t kt et:TypeId}(ht:P.underlying t=some (.map kt et)){neg:Bool}{x y:SV}{vx vy:Value}{ox oy:Operand}
  (hx:R (aG C μ hp w) x [vx]) (hy:R (aG C μ hp w) y [vy]) {Q:SV->Prop} (he:(Du neg x y).holds Q) :
  ∃s,Q s/\∃u,(do eqGuard (if neg then .neq else .eql) t ox oy vx vy; binOp (if neg then .neq else .eql) t vx vy:Sem Value).run P w=.ok u w/\R (aG C μ hp w) s [u]:=by
 have run:∀p:Option Nat,vx=.map p->vy=.map none->(do eqGuard (if neg then .neq else .eql) t ox oy vx vy; binOp (if neg then .neq else .eql) t vx vy:Sem Value).run P w=.ok (.bool (if neg then p.isSome else p.isNone)) w:=by
  rintro p rfl rfl;have hgd:∀op,(eqGuard op t ox oy (.map p) (.map none)).run P w=.ok () w:=by
   simp_all[eqGuard]
  have heq:=run_equal_map_nil w t kt et p ht;cases neg with
  |true =>
   simp_all[binOp]
  |false =>
   simp_all[binOp]
 unfold Du at he;split at he
 .simp only [R]at hx hy;refine⟨_,he,_,run none (by simpa using hx) (by simpa using hy),?_⟩
  grind[R]
 .simp only [R]at hx hy;obtain⟨b,c,_,hv⟩:=hx;refine⟨_,he,_,run _ (by simpa using hv) (by simpa using hy),?_⟩
  grind[R]
 .simp only [R]at hx hy;obtain⟨b,c,_,hv⟩:=hx;refine⟨_,he,_,run _ (by simpa using hv) (by simpa using hy),?_⟩
  grind[R]
 .exact he.elim
theorem tA{E:Env}{a:Act}{fr:List (Nat×SV)}{g:Option (Nat×Bool)}(hg:GOk g a.tmps)(hf:∀s,fJ E a.tmps (look fr s) (a.tmps.getD s undef))
  {oc o:Operand} {c x:SX} (hoc:cX oc=some c) (hx:cX o=some x) {want:Bool} (hw:a.eval oc=.bool want):R E (pG g fr c want x) [a.eval o]:=by
 cases x with
 |c v =>
  have:=oW hg hf hx;exact this
 |s n =>
  have ho:o=.tmp n:=by
   cases o with
   |tmp t=>grind[cX]
   |const v=>grind[cX,Option.map_eq_some_iff]
   |func f=>grind[cX]
   |global n=>cases hx
  subst ho;have h:=hf n;simp only[pG];split
  .rename_i d w v hl;rw[hl]at h;cases hb:wB g d w with
   |true=>simp only[cond_true]; exact h.1 (hg d w (Ap hb))
   |false =>
    simp only[cond_false];cases c with
    |s d' =>
     simp only;cases hb2:wB (some (d',want)) d w with
     |true =>
      have:=Ap hb2;cases this;have hoc':oc=.tmp d:=by
       cases oc with
       |tmp t=>grind[cX]
       |const v=>grind[cX,Option.map_eq_some_iff]
       |func f=>grind[cX]
       |global n=>cases hoc
      subst hoc';simp only[cond_true];exact h.1 hw
     |false=>simp only[cond_false]; exact⟨_,rfl⟩
    |c _=>exact⟨_,rfl⟩
  .rename_i hne;have:fJ E a.tmps (look fr n) (a.tmps.getD n undef):=h;cases hl:look fr n with
   |gd d w v=>grind
   |_=>rw[hl]at h; exact h
theorem Dw{a:Act}{fr:List (Nat×SV)}{g:Option (Nat×Bool)}(hg:GOk g a.tmps)(hf:∀s,fJ (aG C μ hp w) a.tmps (look fr s) (a.tmps.getD s undef))
  {oc oa ob:Operand} {c x y:SX} (hc:cX oc=some c) (ha:cX oa=some x) (hb:cX ob=some y) {Q:SV->Prop} (he:(Dv g fr c x y).holds Q) :
  ∃s,Q s/\∃u,(do pure (Next.value (if <- asBool (a.eval oc)then a.eval oa else a.eval ob)):Sem Next).run P w=.ok (.value u) w/\R (aG C μ hp w) s [u]:=by
 unfold Dv at he;split at he
 .rename_i p hp1;have h1:=oW hg hf hc;rw[hp1]at h1;simp only[R]at h1;have hv:a.eval oc=.bool p:=by grind
  split at he
  .rename_i bx hx1;split at he
   .rename_i bY hy1;refine⟨_,he,if p then a.eval oa else a.eval ob,by simp_all[asBool],?_⟩;have constB:∀(o:Operand) (b:Bool),cX o=some (.c (.bool b))->a.eval o=.bool b:=by
     intro o b ho;have:=oW (E:=aG C μ hp w) hg hf ho;simpa[gx,CV.sv,R]using this
    have hX:p=true->a.eval oa=.bool bx:=by
     intro e;have:=tA hg hf hc ha (want:=true) (e▸hv);rw[hx1]at this;simpa[R]using this
    have hY:p=false->a.eval ob=.bool bY:=by
     intro e;have:=tA hg hf hc hb (want:=false) (e▸hv);rw[hy1]at this;simpa[R]using this
    simp only[R];cases p with
    |true =>
     simp only[if_true,hX rfl];unfold bN
     grind
    |false =>
     simp only[eR,if_false,hY rfl];unfold bN
     grind
   .obtain ⟨rfl,he⟩:=he;have:=tA hg hf hc ha (want:=true) hv;rw[hx1]at this;exact⟨_,he,a.eval oa,by simp_all[asBool],this⟩
  .split at he
   .rename_i bY hy1;obtain⟨rfl,he⟩:=he;have:=tA hg hf hc hb (want:=false) hv;rw[hy1]at this;exact⟨_,he,a.eval ob,by simp_all[asBool],this⟩
   .exact he.elim
 .exact he.elim
theorem Gp{E:Env}{s:SV}{v:Value}(h:Ak s=true)(hr:R E s [v]):v.cells=#[v]:=by
 cases s<;>simp only[Ak,eR]at h<;>simp only[R]at hr
 case val u =>
  obtain rfl:=aC.1 hr;cases v<;>first|rfl|simp_all[Value.oneCell']
 case fn=>obtain⟨_,hv,_⟩:=hr; obtain rfl:=aC.1 hv; unfold fnV; generalize Nat.blt _ FM=b; cases b<;>rfl
 case osl=>rcases hr with⟨_,_,_,hv⟩|⟨_,_,_,_,hv,_⟩<;>(obtain rfl:=aC.1 hv; rfl)
 case lsl=>rcases hr with⟨_,_,hv⟩|⟨_,_,_,_,hv,_⟩<;>(obtain rfl:=aC.1 hv; rfl)
 case flsl=>rcases hr with⟨_,_,hv⟩|⟨_,_,_,hv,_⟩<;>(obtain rfl:=aC.1 hv; rfl)
 all_goals first
  | (obtain rfl:=aC.1 hr; rfl)
  | (obtain⟨_,_,_,hv⟩:=hr; obtain rfl:=aC.1 hv; rfl)
  | (obtain⟨_,_,_,_,hv,_⟩:=hr; obtain rfl:=aC.1 hv; rfl)
  | (obtain⟨_,_,hv,_⟩:=hr; obtain rfl:=aC.1 hv; rfl)
  | (obtain⟨_,hv,_⟩:=hr; obtain rfl:=aC.1 hv; rfl)
  | (obtain⟨_,_,_,hv,_⟩:=hr; obtain rfl:=aC.1 hv; rfl)
theorem wT{E:Env}{s l:SV}{v:Value}(h:cellsOf s=some l)(hr:R E s [v]):R E l v.cells.toList:=by
 unfold cellsOf at h;split at h
 .rename_i l';cases h;simp only[R]at hr;obtain⟨cs,e1,e2⟩:=hr;obtain rfl:=aC.1 e1
  grind[Value.cells]
 .cases hb:Ak s with
  |false=>grind
  |true =>
   simp only[hb,cond_true,aH]at h;subst h;rw[Gp hb hr];simp only[R];simp[*]
def fB:List Value->Nat->List Value->List Value
 |_::t,0,x::r=>x::fB t 0 r
 |l,0,[]=>l
 |h::t,n+1,r=>h::fB t n r
 |l,_,_=>l
theorem Hm:∀(l:List Value) (n:Nat),fB l n []=l:=by
 intro l;induction l with
 |nil=>intro n; cases n<;>rfl
 |cons y t ih=>intro n; cases n with
  |zero=>rfl
  |succ n=>simp[fB,ih]
theorem A3:∀(as xs rs:List Value) (n:Nat),as.length<=n->fB (as++xs) n rs=as++fB xs (n-as.length) rs:=by
 intro as;induction as with
 |nil=>simp
 |cons a as ih =>
  intro xs rs n h;cases n with
  |zero=>simp at h
  |succ n =>
   grind[fB]
theorem Pk:∀(as bs xs rs:List Value),as.length=bs.length->fB (as++xs) 0 (bs++rs)=bs++fB xs 0 rs:=by
 intro as;induction as with
 |nil=>grind
 |cons a as ih=>intro bs xs rs h; cases bs with
  |nil=>simp at h
  |cons b bs=>grind[fB]
theorem Hn:∀(l:List Value) (n:Nat) (v:Value),n<l.length->fB l n [v]=l.set n v:=by
 intro l;induction l with
 |nil=>simp
 |cons a l ih=>intro n v h; cases n with
  |zero=>simp[fB,Hm]
  |succ n=>grind[fB]
theorem Ty:∀(l:List Value) (n:Nat) (rs:List Value),(fB l n rs).length=l.length:=by
 intro l;induction l with
 |nil=>intro n rs; cases n<;>cases rs<;>rfl
 |cons a l ih=>intro n rs; cases n with
  |zero=>cases rs with
   |nil=>rfl
   |cons r rs=>simp[fB,ih]
  |succ n=>simp[fB,ih]
theorem Ce(k:IntKind)(m:Nat)(f:Nat->Int)(n:Nat)(y:Int):(iN k m f).set n (.int k y)=iN k m λi=>bif Nat.beq i n then y else f i:=by
 apply iI;intro i;rw[kW,cG];cases Nat.lt_or_ge i m with
 |inr h =>
  simp_all[iN,if_neg]
 |inl h =>
  grind[lD,Nat.beq_refl,nbeq]
theorem C9{E:Env}:∀{l:SV} {n:Nat} {r l':SV} {cs rs:List Value},nD l n r=some l'->R E l cs->R E r rs->R E l' (fB cs n rs)/\(fB cs n rs).length=cs.length/\n+rs.length<=cs.length:=by
 intro l;induction l with
 |cons h t _ iht =>
  intro n r l' cs rs hp hl hr;simp only[R]at hl;obtain⟨y,ys,rfl,h1,h2⟩:=hl;cases n with
  |zero =>
   cases r with
   |cons x r' =>
    simp only[nD]at hp;split at hp
    .rename_i t' ht';cases hp;simp only[R]at hr;obtain⟨z,zs,rfl,k1,k2⟩:=hr;obtain⟨m1,m2,m3⟩:=iht ht' h2 k2;simp only[fB,R,bA]
     grind
    .cases hp
   |nil =>
    simp only[nD]at hp;cases hp;simp only[R]at hr;subst hr;simp only[fB,R,eZ,bA]
    grind
   |_=>simp[nD]at hp
  |succ n =>
   simp only[nD]at hp;split at hp
   .rename_i t' ht';cases hp;obtain⟨m1,m2,m3⟩:=iht ht' h2 hr;simp only[fB,R,bA]
    grind
   .cases hp
 |ints k m f t iht =>
  intro n r l' cs rs hp hl hr;simp only[R]at hl;obtain⟨ys,rfl,h2⟩:=hl;simp only[nD]at hp;refine⟨?_,Ty _ _ _,?_⟩
  .cases hb:Nat.blt n m with
   |false =>
    have hge:m<=n:=(by grind[Nat.blt,Nat.ble_eq_true_of_le]);simp only[hb,cond_false]at hp;split at hp
    .rename_i t' ht';cases hp;obtain⟨m1,_,_⟩:=iht ht' h2 hr;rw[A3 _ _ _ _ (by rw[cG]; exact hge),cG];simp only[R];simp[*]
    .cases hp
   |true =>
    have hlt:n<m:=aQ hb;simp only[hb,cond_true]at hp;split at hp
    .cases hp;simp only[R]at hr;subst hr;rw[Hm];simp only[R];simp[*]
    .split at hp
     .rename_i k' y;cases hk:kEq k k' with
      |false=>grind
      |true =>
       obtain rfl:=sJ hk;simp only[hk,cond_true,aH]at hp;subst hp;simp only[R]at hr;obtain⟨z,zs,rfl,k1,rfl⟩:=hr;obtain rfl:=aC.1 k1;rw[Hn _ _ _ (by rw[bF,cG]; omega),List.set_append_left _ _ (by rw[cG]; exact hlt),Ce];simp only[R];simp[*]
     .cases hp
    .rename_i k' m' f' r';cases hk:(Nat.beq n 0 && Nat.beq m m' && kEq k k') with
     |false=>grind
     |true =>
      simp only[hk,cond_true]at hp;simp only[aI]at hk;obtain⟨⟨e1,e2⟩,e3⟩:=hk;have e1:=nbeq e1;have e2:=nbeq e2;obtain rfl:=sJ e3;subst e1 e2;split at hp
      .rename_i t' ht';cases hp;simp only[R]at hr;obtain⟨zs,rfl,k2⟩:=hr;obtain⟨m1,_,_⟩:=iht ht' h2 k2;rw[Pk _ _ _ _ (by rw[cG,cG])];simp only[R];simp[*]
      .cases hp
    .cases hp
  .cases hb:Nat.blt n m with
   |false =>
    have hge:m<=n:=(by grind[Nat.blt,Nat.ble_eq_true_of_le]);simp only[hb,cond_false]at hp
    grind[cG]
   |true =>
    have hlt:n<m:=aQ hb;simp only[hb,cond_true]at hp;rw[bF,cG];split at hp
    .grind [R]
    .split at hp
     .simp only [R]at hr
      grind
     .cases hp
    .rename_i k' m' f' r';cases hk:(Nat.beq n 0 && Nat.beq m m' && kEq k k') with
     |false=>grind
     |true =>
      simp only[hk,cond_true]at hp;simp only[aI]at hk;obtain⟨⟨e1,e2⟩,e3⟩:=hk;have e1:=nbeq e1;have e2:=nbeq e2;subst e1 e2;split at hp
      .rename_i t' ht';simp only[R]at hr;obtain⟨zs,rfl,k2⟩:=hr
       grind[cG]
      .cases hp
    .cases hp
 |nil =>
  intro n r l' cs rs hp hl hr;simp only[R]at hl;subst hl;cases n with
  |zero =>
   grind[nD,R,fB]
  |succ n=>grind[nD]
 |_ =>
  intro n r l' cs rs hp hl hr;cases n with
  |zero =>
   cases r<;>simp only[nD]at hp<;>first|(cases hp; done)|skip
   cases hp;have hr':rs=[]:=by simpa only[R]using hr
   subst hr';cases cs with
   |nil=>simp[fB]; exact hl
   |cons c cs=>simp only[fB,eZ]; exact⟨hl,trivial,by omega⟩
  |succ n=>cases r<;>simp[nD]at hp
theorem Tx:∀{m:SV} {n:Nat} {l o:SV},nD m n l=some o->isL l=true:=by
 intro m;induction m with
 |cons h t _ iht =>
  intro n l o hp;cases n with
  |zero =>
   cases l<;>simp only[nD]at hp<;>first|(cases hp; done)|skip
   .rfl
   grind[isL]
  |succ n =>
   grind[nD]
 |ints k m f t iht =>
  intro n l o hp;simp only[nD]at hp;cases hb:Nat.blt n m with
  |false =>
   grind
  |true =>
   simp only[hb,cond_true]at hp;split at hp
   .rfl
   .rfl
   .rename_i k' m' f' r';cases hk:(Nat.beq n 0 && Nat.beq m m' && kEq k k') with
    |false=>grind
    |true =>
     simp only[hk,cond_true]at hp
     grind[isL]
   .cases hp
 |_ =>
  intro n l o hp;cases n with
  |zero=>cases l<;>simp only[nD]at hp<;>first|(cases hp; done)|rfl
  |succ n=>cases l<;>simp[nD]at hp
theorem Np{E:Env}:∀{l:SV} {cs:List Value},isL l=true->R E l cs->cs.length=l.len:=by
 intro l;induction l with
 |cons h t _ iht =>
  intro cs hl hr;simp only[R]at hr;obtain⟨z,zs,rfl,_,k2⟩:=hr;simp only[bA,SV.len];rw[iht hl k2]
 |ints k n f t iht =>
  intro cs hl hr;simp only[R]at hr;obtain⟨zs,rfl,k2⟩:=hr;rw[bF,cG,SV.len,iht hl k2]
 |nil=>intro cs _ hr; simp only[R]at hr; subst hr; rfl
 |_=>intro cs hl; simp[isL]at hl
theorem I8:∀(rs:List Value) (cs:Array Value) (off k:Nat),off+k+rs.length<=cs.size ->
  ((rs.zipIdx k).foldl (λcs (p:Value×Nat)=>cs.setIfInBounds (off+p.2) p.1) cs).toList=fB cs.toList (off+k) rs:=by
 have put1:∀(l:List Value) (n:Nat) (x:Value) (r:List Value),n<l.length->fB l n (x::r)=fB (l.set n x) (n+1) r:=by
  intro l;induction l with
  |nil=>simp
  |cons y t ih =>
   intro n x r h;cases n with
   |zero=>simp[fB]
   |succ n=>grind[fB]
 have put0:∀(l:List Value) (n:Nat),fB l n []=l:=by
  intro l;induction l with
  |nil=>intro n; cases n<;>rfl
  |cons y t ih=>intro n; cases n with
   |zero=>rfl
   |succ n=>simp[fB,ih]
 intro rs;induction rs with
 |nil=>simp[*]
 |cons x r ih =>
  intro cs off k h;simp only[List.zipIdx_cons,fO,bA]at h ⊢;rw[put1 _ _ _ _ (by simp; omega),Nat.add_assoc off k 1];have:=ih (cs.setIfInBounds (off+k) x) off (k+1) (by simp; omega);simp[*]
theorem yX{E:Env}{a:Act}{fr:List (Nat×SV)}{g:Option (Nat×Bool)}(hg:GOk g a.tmps)(hf:∀s,fJ E a.tmps (look fr s) (a.tmps.getD s undef)){place:Nat->Option (Nat×Nat)} :
  ∀{parts:List (Nat×Operand)} {ps:List (Nat×Nat×SX)} {l l':SV} {cs:Array Value},uL P place parts=some ps->rJ g fr ps l=some l'->R E l cs.toList ->
   ∃cs',Instr.fill place cs (parts.map λp=>(p.1,a.eval p.2))=some cs'/\R E l' cs'.toList/\cs'.size=cs.size:=by
 intro parts;induction parts with
 |nil =>
  intro ps l l' cs hp hl hr;simp only[uL,aH]at hp;subst hp;simp only[rJ,aH]at hl;subst hl;exact⟨cs,rfl,hr,rfl⟩
 |cons p r ih =>
  intro ps l l' cs hp hl hr;obtain⟨i,x⟩:=p;simp only[uL,aE,aD]at hp;obtain⟨⟨off,size⟩,h1,y,h2,t,h3,h4⟩:=hp;cases h4;simp only[rJ]at hl;split at hl
  .rename_i xs hxs;cases hb:Nat.beq xs.len size with
   |false=>grind
   |true =>
    simp only[hb,cond_true]at hl;split at hl
    .rename_i l1 hl1;have hv:=wT hxs (oW hg hf h2);obtain⟨m1,m2,m3⟩:=C9 hl1 hr hv;have hlen:(a.eval x).cells.size=size:=by
      grind[nbeq,Np,Tx]
     have hsz:off+(a.eval x).cells.size<=cs.size:=by omega
     have hrun:Instr.fill place cs (((i,x)::r).map λp=>(p.1,a.eval p.2)) =
       Instr.fill place ((a.eval x).cells.zipIdx.foldl (λcs (c,j)=>cs.setIfInBounds (off+j) c) cs) (r.map λp=>(p.1,a.eval p.2)):=by
      simp_all[List.map_cons,Instr.fill,if_neg]
     have hfold:((a.eval x).cells.zipIdx.foldl (λcs (c,j)=>cs.setIfInBounds (off+j) c) cs).toList=fB cs.toList off (a.eval x).cells.toList:=by
      have:=I8 (a.eval x).cells.toList cs off 0 (by omega);rw[<- Array.foldl_toList];simp[*]
     grind
    .cases hl
  .cases hl
end
end Go.Eng
