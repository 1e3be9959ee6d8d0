/- A part of the proof. -/
import Derived.Test.YtpiolkcdfgiefaaGreatDoorEngG
namespace Go.Eng
open Go Go.RowKit
section
variable {P:Program} {C:Ctx} {μ:Nat->Option (Nat×Nat)} {hp:List (Nat×aL)} {w:World}
theorem C8{E:Env}:∀{l m:SV} {xs ys:List Value},isL l=true->R E l xs->R E m ys->R E (vH l m) (xs++ys):=by
 intro l;induction l with
 |cons h t _ iht =>
  intro m xs ys hl hx hy;simp only[R]at hx;obtain⟨v,r,rfl,h1,h2⟩:=hx;simp only[vH,R,gK];exact⟨v,_,rfl,h1,iht hl h2 hy⟩
 |ints k n f t iht =>
  intro m xs ys hl hx hy;simp only[R]at hx;obtain⟨r,rfl,h2⟩:=hx;simp only[vH,R,gB];exact⟨_,rfl,iht hl h2 hy⟩
 |nil =>
  grind[R,vH]
 |_=>intro m xs ys hl; simp[isL]at hl
theorem Eo(g:Option (Nat×Bool))(fr:List (Nat×SV)):∀xs:List SX,isL (gxs g fr xs)=true:=by
 intro xs;induction xs with
 |nil=>rfl
 |cons x r ih=>grind[gxs,isL]
theorem W8:∀{vs:List Value} {c:CV},cvL vs=some c->isL c.sv=true/\c.len=vs.length:=by
 intro vs;induction vs with
 |nil=>grind[cvL,CV.sv,isL,CV.len]
 |cons v r ih =>
  intro c h;simp only[cvL,aE,aD]at h
  grind[CV.sv,isL,CV.len]
theorem P5{h t:CV}:isL (CV.zcons h t).sv=isL t.sv/\(CV.zcons h t).len=t.len+1:=by
 unfold CV.zcons;split
 .rename_i k;split
  .rename_i k' n t';cases hk:kEq k k' with
   |false=>rw[cond_false]; grind[CV.sv,isL,CV.len]
   |true=>rw[cond_true]; grind[CV.sv,isL,CV.len]
  grind[CV.sv,isL,CV.len]
 grind[CV.sv,isL,CV.len]
theorem Us:∀{c:CV},isL c.runs.sv=isL c.sv/\c.runs.len=c.len:=by
 intro c;induction c with
 |cons h t _ ih =>
  grind[CV.runs,P5,CV.sv,isL,CV.len]
 |_=>exact⟨rfl,rfl⟩
theorem Wd{n:Nat}{c:CV}:isL (cvT n c).sv=isL c.sv/\(cvT n c).len=c.len:=by
 unfold cvT;cases Nat.ble RUN n with
 |true=>exact Us
 |false=>simp
theorem lG{E:Env}{i:TypeInfo}{z:CV}(h:mM i=some z):∃v,i.zero=some v/\R E z.sv v.cells.toList/\isL z.sv=true/\z.len=v.cells.size:=by
 unfold mM at h;split at h
 .rename_i cs hz;rw[aF]at h;obtain⟨c,h,rfl⟩:=h;obtain⟨k1,k2⟩:=W8 h
  grind[Value.cells,Y2,Y1,Wd]
 .rename_i v hne hz;simp only[aE,aD]at h;obtain⟨c,h1,h2⟩:=h;cases h2;have hc:v.cells=#[v]:=by
   cases v<;>first|rfl|grind
  refine⟨v,hz,?_,by rfl,by simp[CV.len,hc]⟩;rw[hc];simp only[CV.sv,R];exact⟨v,[],rfl,Qb h1,rfl⟩
 .cases h
theorem Qe{E:Env}{z:SV}{zs:List Value}(hl:isL z=true)(hz:R E z zs):∀n,R E (Ui z n) ((List.range (n*zs.length)).map λi=>zs[i%zs.length]!):=by
 intro n;induction n with
 |zero=>simp[Ui,R]
 |succ n ih =>
  have e:((List.range ((n+1)*zs.length)).map λi=>zs[i%zs.length]!)=zs++(List.range (n*zs.length)).map λi=>zs[i%zs.length]! := by
   have:(n+1)*zs.length=zs.length+n*zs.length:=by grind
   rw[this,List.range_add,eD];congr 1
   .apply iR
    .simp
    grind[Nat.mod_eq_of_lt]
   simp
  rw[e];exact C8 hl hz ih
theorem F6{E:Env}{b sz:Nat}(hU:E.U b):∀{n:Nat} {l els:SV} {cs:List Value} {i:Nat},mT sz n l=some els->R E l cs->Holds E.w b (i*sz) cs ->
  RE E els (some ⟨b,0,none⟩) sz i/\els.len=n:=by
 intro n;induction n with
 |zero =>
  grind[mT,RE,SV.len]
 |succ n ih =>
  intro l els cs i h hr hh;simp only[mT]at h;split at h
  .rename_i e he;split at h
   .rename_i r hr';cases h;obtain⟨t1,t2⟩:=oZ he hr;have hd:=hh.drop sz;obtain⟨k1,k2⟩:=ih (i:=i+1) hr' (hP (n:=sz) hr) (by grind);simp only[RE,SV.len];refine⟨⟨⟨b,0,cs.take sz,rfl,hU,t1,by simp; omega,?_⟩,k1⟩,by omega⟩;rw[aP];exact hh.take sz
   .cases h
  .cases h
theorem zW{E:Env}{b sz off:Nat}(hU:E.U b):∀{n:Nat} {l els:SV} {cs:List Value} {i:Nat},mT sz n l=some els->R E l cs->Holds E.w b (off+i*sz) cs ->
  RE E els (some ⟨b,off,none⟩) sz i/\els.len=n:=by
 intro n;induction n with
 |zero =>
  grind[mT,RE,SV.len]
 |succ n ih =>
  intro l els cs i h hr hh;simp only[mT]at h;split at h
  .rename_i e he;split at h
   .rename_i r hr';cases h;obtain⟨t1,t2⟩:=oZ he hr;have hd:=hh.drop sz;obtain⟨k1,k2⟩:=ih (i:=i+1) hr' (hP (n:=sz) hr) (by grind);simp only[RE,SV.len];refine⟨⟨⟨b,off,cs.take sz,rfl,hU,t1,by simp; omega,?_⟩,k1⟩,by omega⟩;exact hh.take sz
   .cases h
  .cases h
theorem Ja(hH:HpR (aG C μ hp w) hp)(hw:C.w0.heap.size<=w.heap.size)(o:Obj)(ho:Jl o=false:=by rfl):(aG C μ hp (w.alloc o)).U w.heap.size:=by
 refine⟨by simp,.inr (.inr hw),?_,λy e=>by rw[heap_alloc_new]at e; cases e; exact ho⟩;intro id x c hg hm;obtain⟨b,c',y,h1,h2,_⟩:=hH.obj id x hg;have h1':μ id=some (b,c'):=h1;rw[hm]at h1';cases h1';have h2':w.heap[w.heap.size]?=some y:=h2;simp at h2'
theorem uZ{E:Env}{sz n l h:Nat}{enc:Nat->SV}{a:Option Addr}{cap:Nat}(hr:R E (.slice sz n enc) [.slice a n cap])(h1:l<=h)(h2:h<=n) :
  R E (.slice sz (h-l) (λi=>enc (l+i))) [sliced a l h cap sz]:=by
 simp only[R]at hr ⊢;obtain⟨a',cap',e1,e2,e3⟩:=hr;simp only[dZ,Value.slice.injEq,and_true]at e1;obtain⟨rfl,_,rfl⟩:=e1;refine⟨_,_,rfl,by omega,λi hi=>?_⟩;obtain⟨b,off,cs,ea,hu,hr',hl,hh⟩:=e3 (l+i) (by omega);subst ea;have hne:¬cap=l:=by omega
 refine⟨b,off+l*sz,cs,?_,hu,hr',hl,?_⟩
 .simp [hne,Addr.mE]
 grind
theorem Ax{E:Env}{id sz lo n l h:Nat}{a:Option Addr}{cap:Nat}(hr:R E (.osl id sz lo n) [.slice a n cap])(h1:l<=h)(h2:h<=n) :
  R E (.osl id sz (lo+l) (h-l)) [sliced a l h cap sz]:=by
 simp only[R]at hr ⊢;by_cases hz:h-l=0
 .refine .inl ⟨hz,?_⟩;unfold sliced;simp[*]
 rcases hr with⟨e,_⟩|⟨h0,b,c,m1,e1,m2⟩
 .omega
 simp only[dZ,Value.slice.injEq,and_true]at e1;obtain⟨rfl,_,rfl⟩:=e1
 grind[sliced,Addr.mE]
theorem xO{E:Env}{id sz lo n:Nat}{v:Value}(hr:R E (.osl id sz lo n) [v]):∃a cap,v=.slice a n cap/\n<=cap:=by
 simp only[R]at hr
 grind
theorem pN{E:Env}{s:SV}{v:Value}{r:Nat×Nat×(Nat->SV)}(h:asSlice s=some r)(hr:R E s [v]):∃a cap,v=.slice a r.2.1 cap/\r.2.1<=cap:=by
 obtain⟨sz,n,enc⟩:=r;have:=lN h hr
 grind[R]
theorem yQ{a:Act}{fr:List (Nat×SV)}{g:Option (Nat×Bool)}(hg:GOk g a.tmps)(hf:∀s,fJ (aG C μ hp w) a.tmps (look fr s) (a.tmps.getD s undef))
  {t e:TypeId} {i:TypeInfo} (ht:P.underlying t=some (.slice e)) (hi:P.info? e=some i) {ox':Operand} {x:SX} (hx:cX ox'=some x) {olo ohi:Option Operand} {lo hi':Option SX} (hlo:rP olo=some lo) (hhi:rP ohi=some hi')
  {Q:SV->Prop} (he:(xF i.size (gx g fr x) (ox g fr lo) (ox g fr hi')).holds Q) :
  ∃s,Q s/\∃u,(Instr.sliceAt t (a.eval ox') (olo.map a.eval) (ohi.map a.eval) none).run P w=.ok u w/\R (aG C μ hp w) s [u]:=by
 have ht':P.underlying t=some (.slice (P.elem t)):=by simp[Program.elem,ht]
 have hel:P.elem t=e:=by grind
 have hX:=qN (oW hg hf hx);unfold xF at he;generalize pB (gx g fr x)=X at hX he;generalize a.eval ox'=vx at hX
 -- the bounds
 have B:∀{oo:Option Operand} {xx:Option SX} {k:IntKind} {m:Int},rP oo=some xx->ox g fr xx=some (.int k m)->∃o',oo=some o'/\a.eval o'=.int k m:=by
  intro oo xx k m h1 h2;cases oo with
  |none=>grind[rP,ox]
  |some o' =>
   simp only[rP,aF]at h1;obtain⟨y,h3,rfl⟩:=h1;simp only[ox,aH]at h2;have:=oW hg hf h3;rw[h2]at this;simp only[R]at this
   grind
 have N:∀{oo:Option Operand} {xx:Option SX},rP oo=some xx->ox g fr xx=none->oo=none:=by
  intro oo xx h1 h2;cases oo with
  |none=>rfl
  |some o' =>
   simp only[rP,aF]at h1;obtain⟨y,h3,rfl⟩:=h1;simp[ox]at h2
 rw[run_sliceAt_slice (P:=P) w t vx _ _ _ ht'];generalize hlo':ox g fr lo=LO at he;generalize hhi':ox g fr hi'=HI at he;split at he
 · -- no low bound
  have e1:=N hlo hlo';subst e1;split at he
  .exact he.elim
  .rename_i k h;obtain⟨o',rfl,e2⟩:=B hhi hhi';simp only[eF,cU,e2];split at he
   .rename_i id sz' l0 n;cases hb:Nat.beq i.size sz' with
    |false=>simp only[hb,cond_false]at he; exact he.elim
    |true =>
     have hsz:=nbeq hb;simp only[hb,cond_true]at he;obtain⟨⟨h0,h1⟩,hq⟩:=he;have hX0:=hX;obtain⟨aX,capX,rfl,hcX⟩:=xO hX;refine⟨_,hq,_,(run_slice_h (P:=P) w t _ _ _ ht' k h h0 (by omega)).trans (by rw[hel,bR w hi]; rfl),?_⟩;have:=Ax (l:=0) (h:=h.toNat) hX0 (aS _) (by omega)
     grind
   .obtain ⟨⟨h0,h1⟩,hq⟩:=he;simp only[R]at hX;obtain rfl:=aC.1 hX;have hz:h=0:=by omega
    subst hz;refine⟨_,hq,_,(run_slice_h (P:=P) w t _ _ _ ht' k 0 (by omega) (by omega)).trans (by rw[hel,bR w hi]; rfl),?_⟩;rfl
   .split at he
    .rename_i sz' n enc hs;cases hb:Nat.beq i.size sz' with
     |false=>simp only[hb,cond_false]at he; exact he.elim
     |true =>
      have hsz:=nbeq hb;simp only[hb,cond_true]at he;obtain⟨⟨h0,h1⟩,hq⟩:=he;obtain⟨a',cap,rfl,hcap⟩:=pN hs hX;have hX':=lN hs hX;refine⟨_,hq,_,(run_slice_h (P:=P) w t _ _ _ ht' k h h0 (by simp at hcap; omega)).trans (by rw[hel,bR w hi]; rfl),?_⟩;have:=uZ (l:=0) (h:=h.toNat) hX' (aS _) (by omega)
      grind
    .exact he.elim
  .exact he.elim
 .rename_i k l;obtain⟨o1,rfl,e1⟩:=B hlo hlo';split at he
  .have e2:=N hhi hhi';subst e2;simp only[eF,cU,e1];split at he
   .rename_i id sz' l0 n;cases hb:Nat.beq i.size sz' with
    |false=>simp only[hb,cond_false]at he; exact he.elim
    |true =>
     have hsz:=nbeq hb;simp only[hb,cond_true]at he;obtain⟨⟨h0,h1⟩,hq⟩:=he;have hX0:=hX;obtain⟨aX,capX,rfl,hcX⟩:=xO hX;refine⟨_,hq,_,(run_slice_l (P:=P) w t _ _ _ ht' k l h0 h1).trans (by rw[hel,bR w hi]; rfl),?_⟩;have:=Ax (l:=l.toNat) (h:=n) hX0 (by omega) (aN _);simp[*]
   .split at he
    .rename_i sz' n enc hs;cases hb:Nat.beq i.size sz' with
     |false=>simp only[hb,cond_false]at he; exact he.elim
     |true =>
      have hsz:=nbeq hb;simp only[hb,cond_true]at he;obtain⟨⟨h0,h1⟩,hq⟩:=he;obtain⟨a',cap,rfl,hcap⟩:=pN hs hX;have hX':=lN hs hX;refine⟨_,hq,_,(run_slice_l (P:=P) w t _ _ _ ht' k l h0 h1).trans (by rw[hel,bR w hi]; rfl),?_⟩;have:=uZ (l:=l.toNat) (h:=n) hX' (by omega) (aN _);simp[*]
    .exact he.elim
  .rename_i k2 h;obtain⟨o2,rfl,e2⟩:=B hhi hhi';simp only[cU,e1,e2];split at he
   .rename_i id sz' l0 n;cases hb:Nat.beq i.size sz' with
    |false=>simp only[hb,cond_false]at he; exact he.elim
    |true =>
     have hsz:=nbeq hb;simp only[hb,cond_true]at he;obtain⟨⟨h0,h1,h2⟩,hq⟩:=he;have hX0:=hX;obtain⟨aX,capX,rfl,hcX⟩:=xO hX;refine⟨_,hq,_,(run_slice_lh (P:=P) w t _ _ _ ht' k k2 l h h0 h1 (by omega)).trans (by rw[hel,bR w hi]; rfl),?_⟩
     grind[Ax]
   .split at he
    .rename_i sz' n enc hs;cases hb:Nat.beq i.size sz' with
     |false=>simp only[hb,cond_false]at he; exact he.elim
     |true =>
      have hsz:=nbeq hb;simp only[hb,cond_true]at he;obtain⟨⟨h0,h1,h2⟩,hq⟩:=he;obtain⟨a',cap,rfl,hcap⟩:=pN hs hX;have hX':=lN hs hX;refine⟨_,hq,_,(run_slice_lh (P:=P) w t _ _ _ ht' k k2 l h h0 h1 (by simp at hcap; omega)).trans (by rw[hel,bR w hi]; rfl),?_⟩
      grind[uZ]
    .exact he.elim
  .exact he.elim
 .exact he.elim
end
end Go.Eng
