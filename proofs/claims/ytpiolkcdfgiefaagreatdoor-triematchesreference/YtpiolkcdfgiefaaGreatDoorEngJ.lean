/- A part of the proof. -/
import Derived.Test.YtpiolkcdfgiefaaGreatDoorEngO
import Derived.Laws.CopyRow
set_option maxHeartbeats 10000000
namespace Go.Eng
open Go Go.RowKit
theorem wK:∀(cs:List Value) (n:Nat) (rs:List Value),n+rs.length<=cs.length->fB cs n rs=cs.take n++rs++cs.drop (n+rs.length):=by
 intro cs;induction cs with
 |nil=>intro n rs h; simp at h; obtain⟨rfl,rfl⟩:=h; simp[fB]
 |cons y t ih =>
  intro n rs h;cases n with
  |zero =>
   cases rs with
   |nil=>simp[fB]
   |cons x r =>
    grind[fB]
  |succ n =>
   grind[fB]
theorem wL{cs:List Value}{n:Nat}{rs:List Value}(h:n+rs.length<=cs.length)(k:Nat):(fB cs n rs)[k]?=if n<=k/\k<n+rs.length then rs[k-n]? else cs[k]?:=by
 rw[wK cs n rs h];by_cases h1:k<n
 .grind
 grind
theorem Hk{cs:List Value}{n:Nat}{rs:List Value}(h:n+rs.length<=cs.length):(fB cs n rs).length=cs.length:=by
 grind[wK]
def eT:List (Nat×aL)->List Nat
 | []=>[]
 | (h,.fam _)::r=>h::eT r
 |_::r=>eT r
def FMT:Nat:=3145728
def Wk(tab:List (Nat×fV))(t:Nat):Bool :=
 match get? tab (FMT+t) with
 |some .own=>true
 |_=>false
def evE(T:Tb)(g:Option (Nat×Bool))(st:St)(k:SV->St->Prop):SOp->Prop
 |.alloc ty z=>bif Wk T.fs ty then match fam1 st.hp with
   |some h=>match get? st.hp h with
    |some (.fam f)=>∃j,f j=.gone/\dJ z.sv λl=>match st with
     | ⟨fr,hp,nx⟩=>oP hp h (.fam λq=>bif Nat.beq q j then .cells ty l else f q) λhp=>k (.fown h j 0) ⟨fr,hp,nx⟩
    |_=>False
   |none=>False
  else dJ z.sv λl=>match st with
  | ⟨fr,hp,nx⟩=>bif Nat.blt nx FB then k (.own nx 0) ⟨fr,(nx,.cells ty l)::hp,nx+1⟩else False
 |.load n agg x=>match gx g st.fr x with
  |.fown h i off=>match get? st.hp h with
   |some (.fam f)=>∃o,f i=o/\match o with
    |.cells _ l=>match rd n agg (iA off l) with
     |some v=>k v st
     |none=>False
    |_=>False
   |_=>False
  |.foel h i sz q off=>match get? st.hp h with
   |some (.fam f)=>∃o,f i=o/\match o with
    |.arr _ sz' len enc=>bif Nat.beq sz sz' then match rd n agg (iA off (enc q)) with
      |some v=>q<len/\k v st
      |none=>False
     else False
    |_=>False
   |_=>False
  |_=>False
 |.box ty x=>match cellsOf (gx g st.fr x) with
  |some l=>bif Wk T.fs ty then match fam1 st.hp with
   |some h=>match get? st.hp h with
    |some (.fam f)=>∃j,f j=.gone/\dJ l λl=>match st with
     | ⟨fr,hp,nx⟩=>oP hp h (.fam λq=>bif Nat.beq q j then .cells ty l else f q) λhp=>k (.fown h j 0) ⟨fr,hp,nx⟩
    |_=>False
   |none=>False
  else dJ l λl=>match st with
   | ⟨fr,hp,nx⟩=>bif Nat.blt nx FB then k (.own nx 0) ⟨fr,(nx,.cells ty l)::hp,nx+1⟩else False
  |none=>False
 |.store n x v=>match cellsOf (gx g st.fr v) with
  |some cs=>bif lU cs then bif Nat.beq cs.len n then
    match gx g st.fr x with
    |.own id off=>match get? st.hp id with
     |some (.cells T l)=>match nD l off cs with
      |some l'=>dJ l' λl'=>match st with
       | ⟨fr,hp,nx⟩=>oP hp id (.cells T l') λhp=>k (.val undef) ⟨fr,hp,nx⟩
      |none=>False
     |_=>False
    |.oel id sz i off=>match get? st.hp id with
     |some (.arr T sz' len enc)=>bif Nat.beq sz sz' then
       match nD (enc i) off cs with
       |some e'=>i<len/\dJ e' λe'=>match st with
        | ⟨fr,hp,nx⟩=>oP hp id (.arr T sz' len (λj=>bif Nat.beq j i then e' else enc j)) λhp=>k (.val undef) ⟨fr,hp,nx⟩
       |none=>False
      else False
     |some (.cells T l)=>bif Nat.beq sz 1 then match cs with
       |.cons x r=>match r with
        |.nil=>match x with
         |.int ik y=>match Ht l off i ik y with
          |some (q,l')=>i<q/\dJ l' λl'=>match st with
           | ⟨fr,hp,nx⟩=>oP hp id (.cells T l') λhp=>k (.val undef) ⟨fr,hp,nx⟩
          |none=>False
         |_=>False
        |_=>False
       |_=>False
      else False
     |_=>False
    |.fown h i off=>match get? st.hp h with
     |some (.fam f)=>∃o,f i=o/\match o with
      |.cells T l=>match nD l off cs with
       |some l'=>dJ l' λl'=>match st with
        | ⟨fr,hp,nx⟩=>oP hp h (.fam λj=>bif Nat.beq j i then .cells T l' else f j) λhp=>k (.val undef) ⟨fr,hp,nx⟩
       |none=>False
      |_=>False
     |_=>False
    |.foel h i sz q off=>match get? st.hp h with
     |some (.fam f)=>∃o,f i=o/\match o with
      |.arr T sz' len enc=>bif Nat.beq sz sz' then match nD (enc q) off cs with
        |some e'=>q<len/\dJ e' λe'=>match st with
         | ⟨fr,hp,nx⟩=>oP hp h (.fam λj=>bif Nat.beq j i then .arr T sz' len (λp=>bif Nat.beq p q then e' else enc p)else f j) λhp=>k (.val undef) ⟨fr,hp,nx⟩
        |none=>False
       else False
      |_=>False
     |_=>False
    |_=>False
   else False else False
  |none=>False
 |.call f args=>match gx g st.fr f with
  |.fn kf caps=>match zV kf (gxs g st.fr args) caps with
   |some (k',l)=>zB T.fs st k' l k
   |none=>False
  |.yield id=>match st with
   | ⟨fr,hp,nx⟩=>match get? hp id with
    |some (.hid lab 0)=>match get? T.ys lab with
     |some h=>h id (eT hp) nx T.dep (gxs g fr args) hp nx λb hp' nx'=>k (.bool b) ⟨fr,hp',nx'⟩
     |none=>False
    |_=>False
  |_=>False
 |.clr sz x=>match pB (gx g st.fr x) with
  |.osl id sz' lo _=>match get? st.hp id with
   |some (.arr T sz'' len enc)=>bif Nat.beq sz sz' then bif Nat.beq sz sz'' then
     (0<lo/\lo<=len)/\match st with
      | ⟨fr,hp,nx⟩=>oP hp id (.arr T sz lo enc) λhp=>k (.tup .nil) ⟨fr,hp,nx⟩
    else False else False
   |_=>False
  |_=>False
 |.buildSl T sz n z parts=>match rJ g st.fr parts (Ui z.sv n) with
  |some l=>match mT sz n l with
   |some els=>match st with
    | ⟨fr,hp,nx⟩=>bif Nat.blt nx FB then bif Nat.blt 0 n then dJ els λels=>k (.lsl nx sz n) ⟨fr,(nx,.arr T sz n (mO els))::hp,nx+1⟩else False else False
   |none=>False
  |none=>False
 |.app e sz bytes x y=>Ln st e sz bytes (gx g st.fr x) (gx g st.fr y) k
 |.cpyS x y=>match gx g st.fr x with
  |.csl id n=>match gx g st.fr y with
   |.str s=>match get? st.hp id with
    |some (.cells ty (.ints q0 q f t))=>bif kEq q0 .u8 && Nat.ble n q then match st with
      | ⟨fr,hp,nx⟩=>oP hp id (.cells ty (.ints q0 q (λi=>bif Nat.blt i (min s.length n)then ((s.getD i 0).toNat:Int)else f i) t)) λhp=>k (.int .i64 ((min s.length n:Nat):Int)) ⟨fr,hp,nx⟩
     else False
    |_=>False
   |_=>False
  |_=>False
 |.arrSl n sz lo x=>match gx g st.fr x with
  |.own id 0=>bif Wk T.fs 1000000 then (bif Nat.beq lo 0 && Nat.blt 0 n then k (.csl id n) st else False)else match get? st.hp id with
   |some (.cells _ l)=>match mT sz (n-lo) (iA (lo*sz) l) with
    |some els=>bif Nat.blt lo n then dJ els λels=>match st with
     | ⟨fr,hp,nx⟩=>k (.slit sz els) ⟨fr,drop? hp id,nx⟩
     else False
    |none=>False
   |_=>False
  |_=>False
 |.arrCut n x h=>match gx g st.fr x with
  |.own id 0=>match get? st.hp id with
   |some (.cells _ (.ints q0 q f _))=>match gx g st.fr h with
    |.int _ m=>(0<=m/\m<=n/\n<=q)/\(match st with
     | ⟨fr,hp,nx⟩=>k (.slice 1 m.toNat λi=>.cons (.int q0 (f i)) .nil) ⟨fr,drop? hp id,nx⟩)
    |_=>False
   |_=>False
  |_=>False
 |.slNil neg x y=>match gx g st.fr y with
  |.nilsl=>match gx g st.fr x with
   |.nilsl=>k (.bool (!neg)) st
   |.slice _ n _=>∀b,(0<n->b=neg)->k (.bool b) st
   |.slit _ els=>∀b,(0<els.len->b=neg)->k (.bool b) st
   |.osl _ _ _ n=>∀b,(0<n->b=neg)->k (.bool b) st
   |.lsl _ _ n=>∀b,(0<n->b=neg)->k (.bool b) st
   |.flsl _ _ _ n=>∀b,(0<n->b=neg)->k (.bool b) st
   |_=>False
  |_=>False
 |o=>yP g st k o
def Wh:SOp->Bool
 |.alloc ..|.box ..|.store ..|.call ..|.app ..|.clr ..|.arrSl ..|.arrCut ..|.slNil ..|.cpyS ..=>true
 |o=>aE7 o
def aEi:SOp->Bool
 |.buildSl ..=>true
 |.load ..=>true
 |o=>Wh o
def aEh:Op->Bool
 |.load ..|.alloc ..|.box ..|.store ..|.call ..|.buildSlice ..|.makeMap ..|.lookup ..|.mapUpdate ..|.insert ..|.mapEntry ..|.entryStore ..|.range ..|.next ..|.entry ..|.slice ..|.binOp ..=>true
 |_=>false
theorem V6{P:Program}{op:Op}{so:SOp}(h:cOp P op=some so)(ho:aEh op=false):aEi so=false:=by
 unfold cOp at h
 (repeat' split at h)<;>(try simp only[aF,aE,aD,reduceCtorEq]at h)
 all_goals first
  | (simp[aEh]at ho; done)
  | (cases h; rfl)
  | (obtain⟨_,_,rfl⟩:=h; rfl)
  | (obtain⟨_,_,_,_,h⟩:=h; cases h; rfl)
  | (obtain⟨_,_,_,_,_,_,h⟩:=h; cases h; rfl)
  | (obtain⟨_,_,_,_,_,_,_,_,h⟩:=h; cases h; rfl)
  |skip
 all_goals first
  | (obtain⟨_,_,h⟩:=h; exact h.elim)
  | (obtain⟨_,_,_,_,h⟩:=h; exact h.elim)
  | (obtain⟨_,_,_,_,h⟩:=h
     split at h
     .simp only [aD]at h; obtain⟨_,_,h⟩:=h; cases h; rfl
     .cases h)
  | (obtain⟨_,_,_,_,h⟩:=h
     split at h
     .simp only [aD]at h; obtain⟨_,_,_,_,h⟩:=h; cases h; rfl
     .cases h)
  | (obtain⟨_,_,h⟩:=h
     split at h
     .simp only [aD]at h; obtain⟨_,_,_,_,h⟩:=h; cases h; rfl
     .cases h)
  | (obtain⟨_,_,_,_,_,_,h⟩:=h
     split at h
     .simp only [aD]at h; obtain⟨_,_,h⟩:=h; cases h; rfl
     .cases h)
theorem N8{E:Env}{sz:Nat}:∀{n:Nat} {l els:SV} {cs:List Value},mT sz n l=some els->R E l cs->Els E sz n (mO els) cs/\els.len=n:=by
 intro n;induction n with
 |zero =>
  intro l els cs h hr;cases l<;>simp[mT]at h;subst h;simp only[R]at hr;subst hr;exact⟨⟨by simp,(by grind)⟩,rfl⟩
 |succ n ih =>
  intro l els cs h hr;simp only[mT]at h;split at h
  .rename_i e he;split at h
   .rename_i r hr';cases h;obtain⟨t1,t2⟩:=oZ he hr;obtain⟨⟨k0,k1⟩,k2⟩:=ih hr' (hP (n:=sz) hr);rw[gM]at k0;refine⟨⟨by grind,λj hj=>?_⟩,by grind[SV.len]⟩;cases j with
    |zero =>
     refine⟨cs.take sz,t1,by simp; omega,λq v e=>?_⟩
     grind
    |succ j =>
     obtain⟨xs,x1,x2,x3⟩:=k1 j (by omega);refine⟨xs,x1,x2,λq v e=>?_⟩
     grind
   .cases h
  .cases h
section
variable {P:Program} {C:Ctx} {μ:Nat->Option (Nat×Nat)} {w:World}
theorem Nq{E:Env}:∀{l:SV} {cs:List Value},lU l=true->R E l cs->cs.length=l.len:=by
 intro l;induction l with
 |cons h t _ iht =>
  intro cs h1 hr;simp only[lU,aI]at h1;simp only[R]at hr;obtain⟨x,xs,rfl,k1,k2⟩:=hr
  grind[SV.len]
 |ints k n f t iht =>
  intro cs h1 hr;simp only[R]at hr;obtain⟨xs,rfl,k2⟩:=hr;simp[SV.len,cG,iht h1 k2]
 |nil=>intro cs _ hr; simp only[R]at hr; subst hr; rfl
 |_=>intro cs h1; simp[lU]at h1
structure Ctx.Ext(C C2:Ctx):Prop where
 w0:Frm C.T C.w0 C2.w0
 T:∀b,C2.T b->C.T b\/C.w0.heap.size<=b
 dep:C.dep<=C2.dep
 H:∀l p o,l<C.dep->(C2.H l p o↔C.H l p o)
 R0:C.R0.LeU C2.R0
 kd:Kd C.R0.w C2.R0.w
 pin:∀id p,C.pin id=some p->C2.pin id=some p
theorem Ctx.Ext.refl(C:Ctx):C.Ext C:=⟨Frm.refl _ _,λ_ h=>.inl h,aN _,λ_ _ _ _=>dF,Env.LeU.refl _,Kd.refl _,λ_ _ h=>h⟩
theorem Ctx.Ext.trans{A B C:Ctx}(h:A.Ext B)(k:B.Ext C):A.Ext C :=
 ⟨h.w0.trans' k.w0 h.T,λb hb=>(k.T b hb).elim (h.T b) λe=>.inr (aV h.w0.size e),aV h.dep k.dep,λl p o hl=>(k.H l p o (bM hl h.dep)).trans (h.H l p o hl),h.R0.trans k.R0,h.kd.trans k.kd,λid p e=>k.pin id p (h.pin id p e)⟩
theorem uG.ext{C C2:Ctx}(g:uG C)(e:C.Ext C2):uG C2 :=
 ⟨g.at e.w0,λb hb ht=>(e.T b ht).elim (g.gT b hb) λh=>absurd (g.gok.lt hb) (bJ.2 h)⟩
def lA(P:Program)(C:Ctx)(lab:Nat)(h:Handler):Prop :=
 ∀(C2:Ctx),C.Ext C2->∀(μ:Nat->Option (Nat×Nat)) (hp:List (Nat×aL)) (nx:Nat) (w:World) (id b c:Nat) (args:SV) (vs:List Value) (K:Bool->List (Nat×aL)->Nat->Prop),
  bD C2 μ hp nx w->C2.R0.LeU (aG C2 μ hp w)->Kd C2.R0.w w->get? hp id=some (.hid lab 0)->μ id=some (b,c)->R (aG C2 μ hp w) args vs->isL args=true->h id (eT hp) nx C2.dep args hp nx K ->
  ∃f tmps assign body,(Instr.yield b vs.toArray).run P w=.ok (.round b f tmps assign body) w /\
   RoundIn Fence.wide 0 P b f tmps assign body w fun
    |.returned v,w'=>∃bb hp' nx' μ',v=.bool bb/\K bb hp' nx'/\(aG C2 μ hp w).Le (aG C2 μ' hp' w')/\bD C2 μ' hp' nx' w'
    |_,_=>False
theorem lA.ext{P:Program}{C C2:Ctx}{lab:Nat}{h:Handler}(hc:C.Ext C2)(hh:lA P C lab h):lA P C2 lab h :=
 λC3 h3=>hh C3 (hc.trans h3)
structure wU(P:Program)(C:Ctx)(T:Tb):Prop where
 fs:aO P T.fs
 ys:∀lab h,get? T.ys lab=some h->lA P C lab h
 np:T.np=C.np
 bnd:T.bnd=C.bnd
 dep:T.dep=C.dep
 g:uG C
theorem Li{v:Value}{c:CV}(h:cv1 v=some c):v.oneCell'=true:=by
 unfold cv1 at h;split at h<;>first|rfl|grind
theorem Wb:∀{vs:List Value} {c:CV},cvL vs=some c->∀v∈vs,v.oneCell'=true:=by
 intro vs;induction vs with
 |nil=>simp
 |cons u r ih =>
  intro c h v hv;simp only[cvL,aE,aD]at h;obtain⟨x,h1,y,h2,_⟩:=h;rcases aR.1 hv with rfl|hv
  .exact Li h1
  simp[*]
theorem K9{i:TypeInfo}{z:CV}(h:mM i=some z){v:Value}(hv:i.zero=some v):∀u∈v.cells,u.oneCell'=true:=by
 unfold mM at h;split at h
 .grind [Option.map_eq_some_iff,Wb,Value.cells]
 .rename_i v' hne hz;rw[hz]at hv;cases hv;simp only[aE,aD]at h;obtain⟨c,h1,_⟩:=h;have hc:v.cells=#[v]:=by
   cases v<;>first|rfl|grind
  grind[Li]
 .cases h
theorem aAc{E:Env}{i:Nat}{k:IntKind}{x:Int}:∀{l l':SV} {n q:Nat} {cs:List Value},Ht l n i k x=some (q,l')->i<q->R E l cs->R E l' (fB cs (i+n) [.int k x])/\i+n+1<=cs.length:=by
 intro l;induction l with
 |cons h t _ iht =>
  intro l' n q cs hs hi hr;cases n with
  |zero=>simp[Ht]at hs
  |succ n =>
   simp only[Ht]at hs;split at hs
   .rename_i q' t' ht;cases hs;simp only[R]at hr;obtain⟨y,ys,rfl,h1,h2⟩:=hr;obtain⟨m1,m2⟩:=iht ht hi h2;rw[show i+(n+1)=(i+n)+1 by omega];simp only[fB,R,bA]
    grind
   .cases hs
 |ints k' m f t iht =>
  intro l' n q cs hs hi hr;simp only[R]at hr;obtain⟨ys,rfl,h2⟩:=hr;simp only[Ht]at hs;rw[bF,cG];cases hb:Nat.blt n m with
  |false =>
   have hge:m<=n:=(by grind[Nat.blt,Nat.ble_eq_true_of_le]);simp only[hb,cond_false]at hs;split at hs
   .rename_i q' t' ht;cases hs;obtain⟨m1,m2⟩:=iht ht hi h2;rw[A3 _ _ _ _ (by rw[cG]; omega),cG];rw[show i+n-m=i+(n-m) by omega];simp only[R]
    grind
   .cases hs
  |true =>
   have hlt:n<m:=aQ hb;simp only[hb,cond_true]at hs;cases hk:kEq k' k with
   |false=>grind
   |true =>
    obtain rfl:=sJ hk;simp only[hk,cond_true,aH,bX]at hs;obtain⟨rfl,rfl⟩:=hs;rw[Hn _ _ _ (by rw[bF,cG]; omega),List.set_append_left _ _ (by rw[cG]; omega),Ce];simp only[R]
    grind
 |_=>intro l' n q cs hs; simp[Ht]at hs
theorem aAr{hp:List (Nat×aL)}{nx:Nat}(h:bD C μ hp nx w){t ty e:TypeId}{i:TypeInfo}{z:CV}(ht:P.underlying t=some (.slice e))(hi:P.info? e=some i)(hz:mM i=some z)(hzl:z.len=i.size){id lo n T len:Nat}{enc:Nat->SV}{v:Value}
  (hx:R (aG C μ hp w) (.osl id i.size lo n) [v]) (hg:get? hp id=some (.arr T i.size len enc)) (h0:0<lo) (hle:lo<=len) :
  ∃w',(Builtin.clear_ #[t] ty #[v]).run P w=.ok (.tuple #[]) w'/\(aG C μ hp w).Le (aG C μ (fL hp id (.arr T i.size lo enc)) w')/\bD C μ (fL hp id (.arr T i.size lo enc)) nx w':=by
 have hl0:0<len:=by omega
 have hsol:=cL (T:=T) (sz:=i.size) (enc:=enc) hl0;have hsol2:=cL (T:=T) (sz:=i.size) (enc:=enc) h0;obtain⟨b0,c0,y0,m0,_,_⟩:=h.obj.obj id _ (h.get hg hsol);have m0':μ id=some (b0,c0):=m0;have less:∀(E:Env) (c:Nat) (y:Obj),HR E (.arr T i.size len enc) c y->HR E (.arr T i.size lo enc) c y:=by
  rintro E c y ⟨cs,a1,a2,a3,a4⟩;exact⟨cs,a1,a2,by omega,λq hq=>a4 q (by omega)⟩
 simp only[R]at hx;rcases hx with⟨rfl,a,cap,hv⟩|⟨hn,b,c,m1,hv,hlc⟩
 .rw [aC.1 hv];obtain⟨k1,k2⟩:=h.yA (x:=.arr T i.size lo enc) hg hsol hsol2 m0' (by grind) (by grind) (by grind);refine⟨w,?_,k1,k2⟩;cases a<;>simp[Builtin.clear_,aJ w ht]
 .rw [aC.1 hv];have m1':μ id=some (b,c):=m1;obtain⟨cur,c1,c2,c3,c4⟩:=h.obj.arr hg hl0 m1;obtain⟨zv,hzv,_,_,hzn⟩:=lG (E:=iV (λ_=>False) w) hz;have hone:=K9 hz hzv;have hzs:zv.cells.size=i.size:=by omega
  have hvl:(Builtin.zeroCells zv.cells n).toList.length=n*i.size:=by simp[Builtin.zeroCells,hzs]
  have hlec:lo*i.size+n*i.size<=cur.length:=by
   rw[c2,<- jG];exact bP _ hlc
  have hall:∀u∈(Builtin.zeroCells zv.cells n).toList,u.oneCell'=true:=by
   intro u hu;simp only[Builtin.zeroCells,Array.toList_map,cD]at hu;obtain⟨q,hq,rfl⟩:=hu
   grind[Nat.mod_lt]
  have hst:=run_storeCells_at P b (lo*i.size) T (Builtin.zeroCells zv.cells n).toList 0 cur.toArray w c1 (by grind) hall;have hle2:lo*i.size+(Builtin.zeroCells zv.cells n).toList.length<=cur.length:=by omega
  have e1:(cur.toArray.toList.take (lo*i.size+0)++(Builtin.zeroCells zv.cells n).toList++cur.toArray.toList.drop (lo*i.size+0+(Builtin.zeroCells zv.cells n).toList.length))=fB cur (lo*i.size) (Builtin.zeroCells zv.cells n).toList:=by
   grind[wK]
  rw[e1]at hst;refine⟨_,?_,h.write (hp':=fL hp id (.arr T i.size lo enc)) (x:=.arr T i.size lo enc) (id:=id) (b:=b) (c:=c) (o:=.arr T i.size len enc)
   (y:=.cells (fB cur (lo*i.size) (Builtin.zeroCells zv.cells n).toList).toArray T (0,0))
   (w':=w.setRow b (fB cur (lo*i.size) (Builtin.zeroCells zv.cells n).toList).toArray) (λn=>by rw[fH]; exact gU (h.obj.keys _ _ hg) hsol2 (by grind) n) (fI hg) (h.get hg hsol) m1 (by simp) (λk hk=>setRow_other w b k _ hk) (setRow_heap w b cur.toArray _ T (0,0) c1) rfl rfl rfl ?_⟩
  .obtain ⟨m,rfl⟩:∃m,n=m+1:=⟨n-1,by omega⟩;simp_all[Builtin.clear_,aJ,jU]
  .refine ⟨_,rfl,by grind,by omega,λq hq=>?_⟩;obtain⟨xs,x1,x2,x3⟩:=c4 q (by omega);refine⟨xs,x1,x2,λr u hr=>?_⟩;have hrl:r<i.size:=by
    grind
   have hqm:(q+1)*i.size<=lo*i.size:=bP _ hq
   grind
theorem D0{hp:List (Nat×aL)}{nx:Nat}(h:bD C μ hp nx w){d i b c:Nat}{f:Nat->aL}{o:aL}(hf:get? hp d=some (.fam f))(ho:f i=o)(hs:dX? o=some o)(hm:μ (fid d i)=some (b,c)) :
  ∃x,w.heap[b]?=some x/\HR (aG C μ hp w) o c x:=by
 have hg:hget hp (fid d i)=some o:=by rw[iZ (h.obj.keys _ _ hf) hf,ho,hs]
 obtain⟨b',c',x,e1,e2,e3⟩:=h.obj.obj _ _ hg;have e1':μ (fid d i)=some (b',c'):=e1;rw[hm]at e1';cases e1';exact⟨x,e2,e3⟩
theorem Ld{E:Env}{T sz len c j off:Nat}{enc:Nat->SV}{e' cs:SV}{cur vs:List Value}(c2:cur.length=c*sz)(c3:len<=c/\c<=9223372036854775807)
  (c4:∀i,i<len->∃xs,R E (enc i) xs/\xs.length=sz/\∀j v,xs[j]?=some v->cur[i*sz+j]?=some v)
  (he':nD (enc j) off cs=some e') (hcv:R E cs vs) (hlt:j<len) :
  j*sz+off+vs.length<=cur.length/\HR E (.arr T sz len (λq=>bif Nat.beq q j then e' else enc q)) c (.cells (fB cur (j*sz+off) vs).toArray T (0,0)):=by
 obtain⟨xs,x1,x2,x3⟩:=c4 j hlt;obtain⟨p1,p2,p3⟩:=C9 he' x1 hcv;have hjc:j*sz+sz<=cur.length:=by
  rw[c2];have:(j+1)*sz<=c*sz:=bP _ (by omega)
  grind
 have hle:j*sz+off+vs.length<=cur.length:=by omega
 refine⟨hle,_,rfl,by grind[Hk],c3,?_⟩;intro q hq;by_cases hqj:q=j
 .subst hqj;refine⟨fB xs off vs,by simp[*],by omega,?_⟩;intro r u hr;rw[wL p3]at hr;rw[wL hle]
  grind
 .have hbq:Nat.beq q j=false:=by
   grind[nbeq]
  obtain⟨ys,y1,y2,y3⟩:=c4 q hq;refine⟨ys,by simp[*],y2,?_⟩;intro r u hr;have:=y3 r u hr;have hrl:r<sz:=by
   grind
  rw[wL hle,if_neg]
  .exact this
  .rcases Nat.lt_or_gt_of_ne hqj with h'|h'
   .have:(q+1)*sz<=j*sz:=bP _ h'
    grind
   .have:(j+1)*sz<=q*sz:=bP _ h'
    grind
theorem tC{T:Tb}(htab:wU P C T){st:St}{a:Act}(h:cR C μ st a w){g:Option (Nat×Bool)}(hg:GOk g a.tmps){o:Oper}{so:SOp}(hc:cOp P o.op=some so){K:SV->St->Prop}
  (he:evE T g st K so):Acts P C μ st.hp w st.fr K ((execOp a.eval o).run P w):=by
 obtain⟨fr0,hp0,nx0⟩:=st;have hf:=h.fr;have gX:∀{o:Operand} {x:SX},cX o=some x->R (aG C μ hp0 w) (gx g fr0 x) [a.eval o]:=λhx=>oW hg hf hx;have mem:∀(T:TypeId) (l:SV) (cs:List Value),R (aG C μ hp0 w) l cs->(bif Nat.blt nx0 FB then K (.own nx0 0) { fr:=fr0,hp:=(nx0,.cells T l)::hp0,nx:=nx0+1 }else False) ->
   Acts P C μ hp0 w fr0 K (.ok (.value (.pointer (some ⟨w.heap.size,0,none⟩))) (w.alloc (.cells cs.toArray T (0,0)))):=by
  intro T l cs hr hk;cases hlt:Nat.blt nx0 FB with
  |false=>grind
  |true =>
  simp only[hlt,cond_true]at hk;obtain⟨k1,k2⟩:=h.hep.alloc (aQ hlt) (.cells cs.toArray T (0,0)) (.cells T l) rfl 0 ⟨cs,rfl,hr⟩;refine⟨_,_,upd μ nx0 (w.heap.size,0),hk,rfl,k1,k2,?_⟩;simp only[R];exact⟨w.heap.size,0,by simp[aG,upd],rfl⟩
 have memF:∀(T:TypeId) (l:SV) (cs:List Value),R (aG C μ hp0 w) l cs->(match fam1 hp0 with
   |some d=>match get? hp0 d with
    |some (.fam f)=>∃j,f j=.gone/\K (.fown d j 0) ⟨fr0,fL hp0 d (.fam λq=>bif Nat.beq q j then .cells T l else f q),nx0⟩
    |_=>False
   |none=>False) ->
   Acts P C μ hp0 w fr0 K (.ok (.value (.pointer (some ⟨w.heap.size,0,none⟩))) (w.alloc (.cells cs.toArray T (0,0)))):=by
  intro T l cs hr hk;split at hk
  .rename_i d _;split at hk
   .rename_i f hf0;obtain⟨j,hj,hk⟩:=hk;have hd:=h.hep.obj.keys _ _ hf0;have hm:μ (fid d j)=none:=by
     cases e:μ (fid d j) with
     |none=>rfl
     |some p =>
      obtain⟨o,ho⟩:=h.hep.fam _ p e (cQ d j);rw[iZ hd hf0,hj]at ho;cases ho
    obtain⟨k1,k2⟩:=h.hep.Db (hp':=fL hp0 d (.fam λq=>bif Nat.beq q j then .cells T l else f q)) hm (cQ d j) (.cells cs.toArray T (0,0)) (.cells T l) 0
     (λn=>by rw[fH]; exact lZ hd hf0 rfl n) (fI hf0) ⟨_,rfl,hr⟩
    refine⟨_,_,_,hk,rfl,k1,k2,?_⟩;simp only[R];exact⟨w.heap.size,0,by simp[aG,upd],rfl⟩
   grind
  grind
 obtain⟨dst,op,ty,pos,after,guard⟩:=o;simp only at hc;cases op with
 |alloc t =>
  simp only[cOp,aE,aD]at hc;obtain⟨i,h1,z,h2,h3⟩:=hc;cases h3;obtain⟨zv,hz,hzr,_,_⟩:=lG (E:=aG C μ hp0 w) h2;have run:(execOp a.eval ⟨dst,.alloc t,ty,pos,after,guard⟩).run P w=.ok (.value (.pointer (some ⟨w.heap.size,0,none⟩))) (w.alloc (.cells zv.cells.toList.toArray t (0,0))):=by
   simp_all[execOp,Instr.alloc,jU,newVar,newRow]
  rw[run];simp only[evE,fA,rD]at he
  grind
 |load t x =>
  simp only[cOp,aE,aD]at hc;obtain⟨i,h1,d,h2,h3⟩:=hc;split at h3
  .rename_i hk;simp only[aD]at h3;obtain⟨x',h4,h5⟩:=h3;cases h5;simp only[evE]at he;have hx:=gX h4;have key:∀b off,a.eval x=.pointer (some ⟨b,off,none⟩)->(Instr.loadAt t (a.eval x)).run P w=(loadVar t ⟨b,off,none⟩).run P w:=by
    grind[Instr.loadAt,Instr.sureAddr]
   split at he
   .rename_i d0 j off hxe;rw[hxe]at hx;simp only[R]at hx;obtain⟨b,c,m1,hv⟩:=hx;have hv':=aC.1 hv;split at he
    .rename_i f hf0;obtain⟨o,ho,he⟩:=he;split at he
     .rename_i T' l;split at he
      .rename_i s' hs;obtain⟨y,e2,e3⟩:=D0 h.hep hf0 ho rfl m1;obtain⟨cs,rfl,c2⟩:=e3;obtain⟨u,u1,u2⟩:=mC h1 h2 hk (Holds.row e2 off) (hP c2) hs;have run:(execOp a.eval ⟨dst,.load t x,ty,pos,after,guard⟩).run P w=.ok (.value u) w:=by
        grind[execOp,eH]
       rw[run];exact⟨_,_,μ,he,rfl,Env.Le.refl _,h.hep,u2⟩
      grind
     grind
    grind
   .rename_i d0 j sz q off hxe;rw[hxe]at hx;simp only[R]at hx;obtain⟨b,c,m1,hv⟩:=hx;have hv':=aC.1 hv;split at he
    .rename_i f hf0;obtain⟨o,ho,he⟩:=he;split at he
     .rename_i T' sz' len enc;cases hb:Nat.beq sz sz' with
      |false=>grind
      |true =>
       have:=nbeq hb;subst this;simp only[hb,cond_true]at he;split at he
       .rename_i s' hs;obtain⟨hlt,he⟩:=he;obtain⟨y,e2,e3⟩:=D0 h.hep hf0 ho (cL (by omega)) m1;obtain⟨cs,rfl,c2,c3,c4⟩:=e3;obtain⟨xs,x1,x2,x3⟩:=c4 q hlt;have hH':Holds w b (q*sz+off) (xs.drop off):=by
         intro k u hk';rw[cell_of_row w b _ cs.toArray T' (0,0) e2]
         grind
        obtain⟨u,u1,u2⟩:=mC h1 h2 hk hH' (hP x1) hs;have run:(execOp a.eval ⟨dst,.load t x,ty,pos,after,guard⟩).run P w=.ok (.value u) w:=by
         grind[execOp,eH]
        rw[run];exact⟨_,_,μ,he,rfl,Env.Le.refl _,h.hep,u2⟩
       grind
     grind
    grind
   grind
  .cases h3
 |box t x =>
  simp only[cOp,aF]at hc;obtain⟨x',h1,rfl⟩:=hc;simp only[evE,fA,rD]at he;split at he
  .rename_i l hl;have hr:=wT hl (gX h1);have run:(execOp a.eval ⟨dst,.box t x,ty,pos,after,guard⟩).run P w=.ok (.value (.pointer (some ⟨w.heap.size,0,none⟩))) (w.alloc (.cells (a.eval x).cells.toList.toArray t (0,0))):=by
    rfl
   grind
  grind
 |store t x v =>
  simp only[cOp,aE,aD]at hc;obtain⟨i,h1,x',h2,v',h3,h4⟩:=hc;cases h4;simp only[evE,fA,rD]at he;split at he
  .rename_i cs hcs;have hcv:=wT hcs (gX h3);cases ho:lU cs with
   |false=>grind
   |true =>
    cases hn:Nat.beq cs.len i.size with
    |false=>grind
    |true =>
     simp only[ho,hn,cond_true]at he;have hone:=pP ho hcv;have hlen:=Nq ho hcv;have hsz:(a.eval v).cells.size=i.size:=by simp_all
     -- a store into a row
     have run:∀(b off:Nat) (T:TypeId) (cur:List Value),w.heap[b]?=some (.cells cur.toArray T (0,0))->a.eval x=.pointer (some ⟨b,off,none⟩)->off+(a.eval v).cells.toList.length<=cur.length ->
       (execOp a.eval ⟨dst,.store t x v,ty,pos,after,guard⟩).run P w=.ok .skip (w.setRow b (fB cur off (a.eval v).cells.toList).toArray):=by
      intro b off T cur hb hv hle;have hst:=run_storeCells_at P b off T (a.eval v).cells.toList 0 cur.toArray w hb (by omega) hone;rw[wK cur off _ hle];simp only[execOp,Instr.storeAt,Instr.sureAddr,hv,storeVar,Sem.run_bind,Sem.run_pure,Result.andThen_ok,bR w h1];simp[*]
     have hx:=gX h2;split at he
     .rename_i id off hxe;rw[hxe]at hx;simp only[R]at hx;obtain⟨b,c,m1,hv⟩:=hx;have hv':=aC.1 hv;split at he
      .rename_i T l hgt;split at he
       .rename_i l' hl';obtain⟨cur,c1,c2⟩:=h.hep.obj.cells hgt m1;obtain⟨p1,p2,p3⟩:=C9 hl' c2 hcv;rw[run b off T cur c1 hv' p3];obtain⟨k1,k2⟩:=h.hep.write (hp':=fL hp0 id (.cells T l')) (x:=.cells T l') (id:=id) (b:=b) (c:=c) (o:=.cells T l) (y:=.cells (fB cur off (a.eval v).cells.toList).toArray T (0,0))
         (w':=w.setRow b (fB cur off (a.eval v).cells.toList).toArray) (λn=>by rw[fH]; exact gU (h.hep.obj.keys _ _ hgt) rfl (by grind) n) (fI hgt) (h.hep.get hgt rfl) m1 (by simp) (λk hk=>setRow_other w b k _ hk) (setRow_heap w b cur.toArray _ T (0,0) c1) rfl rfl rfl ⟨_,rfl,p1⟩
        exact⟨_,_,μ,he,rfl,k1,k2,rfl⟩
       grind
      grind
     .rename_i id sz j off hxe;rw[hxe]at hx;simp only[R]at hx;obtain⟨b,c,m1,hv⟩:=hx;have hv':=aC.1 hv;split at he
      .rename_i T sz' len enc hgt;cases hb:Nat.beq sz sz' with
       |false=>grind
       |true =>
        have:=nbeq hb;subst this;simp only[hb,cond_true]at he;split at he
        .rename_i e' he';obtain⟨hlt,hk⟩:=he;have hl0:0<len:=by omega
         obtain⟨cur,c1,c2,c3,c4⟩:=h.hep.obj.arr hgt hl0 m1;obtain⟨hle,hx⟩:=Ld (T:=T) (off:=off) c2 c3 c4 he' hcv hlt;rw[run b (j*sz+off) T cur c1 hv' hle];obtain⟨k1,k2⟩:=h.hep.write (hp':=fL hp0 id (.arr T sz len (λq=>bif Nat.beq q j then e' else enc q))) (x:=.arr T sz len (λq=>bif Nat.beq q j then e' else enc q)) (id:=id) (b:=b) (c:=c) (o:=.arr T sz len enc)
          (y:=.cells (fB cur (j*sz+off) (a.eval v).cells.toList).toArray T (0,0))
          (w':=w.setRow b (fB cur (j*sz+off) (a.eval v).cells.toList).toArray) (λn=>by rw[fH]; exact gU (h.hep.obj.keys _ _ hgt) (cL hl0) (by grind) n) (fI hgt) (h.hep.get hgt (cL hl0)) m1 (by simp) (λk hk=>setRow_other w b k _ hk) (setRow_heap w b cur.toArray _ T (0,0) c1) rfl rfl rfl hx
         exact⟨_,_,μ,hk,rfl,k1,k2,rfl⟩
        grind
      .rename_i T l hgt;cases hb:Nat.beq sz 1 with
       |false=>grind
       |true =>
        have:=nbeq hb;subst this;simp only[hb,cond_true]at he;split at he
        .split at he
         .split at he
          .rename_i ik y;split at he
           .rename_i q l' hl';obtain⟨hlt,hk⟩:=he;simp only[R]at hcv;obtain⟨z,zs,hcs,hz,rfl⟩:=hcv;obtain rfl:=aC.1 hz;obtain⟨cur,c1,c2⟩:=h.hep.obj.cells hgt m1;obtain⟨p1,p3⟩:=aAc hl' hlt c2;have hv2:a.eval x=.pointer (some ⟨b,j+off,none⟩):=by simp[*]
            have hrun:=run b (j+off) T cur c1 hv2 (by simp[*]);rw[hcs]at hrun;rw[hrun];obtain⟨k1,k2⟩:=h.hep.write (hp':=fL hp0 id (.cells T l')) (x:=.cells T l') (id:=id) (b:=b) (c:=c) (o:=.cells T l) (y:=.cells (fB cur (j+off) [.int ik y]).toArray T (0,0))
             (w':=w.setRow b (fB cur (j+off) [.int ik y]).toArray) (λn=>by rw[fH]; exact gU (h.hep.obj.keys _ _ hgt) rfl (by grind) n) (fI hgt) (h.hep.get hgt rfl) m1 (by simp) (λk hk=>setRow_other w b k _ hk) (setRow_heap w b cur.toArray _ T (0,0) c1) rfl rfl rfl ⟨_,rfl,p1⟩
            exact⟨_,_,μ,hk,rfl,k1,k2,rfl⟩
           grind
          grind
         grind
        grind
      grind
     .rename_i d0 j off hxe;rw[hxe]at hx;simp only[R]at hx;obtain⟨b,c,m1,hv⟩:=hx;have hv':=aC.1 hv;split at he
      .rename_i f hf0;have hd:=h.hep.obj.keys _ _ hf0;obtain⟨o,ho,he⟩:=he;split at he
       .rename_i T l;split at he
        .rename_i l' hl';obtain⟨y,e2,cur,rfl,c2⟩:=D0 h.hep hf0 ho rfl m1;obtain⟨p1,p2,p3⟩:=C9 hl' c2 hcv;rw[run b off T cur e2 hv' p3];obtain⟨k1,k2⟩:=h.hep.write (hp':=fL hp0 d0 (.fam λq=>bif Nat.beq q j then .cells T l' else f q)) (x:=.cells T l') (id:=fid d0 j) (b:=b) (c:=c) (o:=.cells T l) (y:=.cells (fB cur off (a.eval v).cells.toList).toArray T (0,0))
          (w':=w.setRow b (fB cur off (a.eval v).cells.toList).toArray) (λn=>by rw[fH]; exact lZ hd hf0 rfl n) (fI hf0) (by rw[iZ hd hf0,ho]; rfl) m1 (by simp) (λk hk=>setRow_other w b k _ hk) (by grind[setRow_heap]) rfl rfl rfl ⟨_,rfl,p1⟩
         exact⟨_,_,μ,he,rfl,k1,k2,rfl⟩
        grind
       grind
      grind
     .rename_i d0 j sz q off hxe;rw[hxe]at hx;simp only[R]at hx;obtain⟨b,c,m1,hv⟩:=hx;have hv':=aC.1 hv;split at he
      .rename_i f hf0;have hd:=h.hep.obj.keys _ _ hf0;obtain⟨o,ho,he⟩:=he;split at he
       .rename_i T sz' len enc;cases hb:Nat.beq sz sz' with
        |false=>grind
        |true =>
         have:=nbeq hb;subst this;simp only[hb,cond_true]at he;split at he
         .rename_i e' he';obtain⟨hlt,hk⟩:=he;have hl0:0<len:=by omega
          obtain⟨y,e2,cur,rfl,c2,c3,c4⟩:=D0 h.hep hf0 ho (cL hl0) m1;obtain⟨hle,hx⟩:=Ld (T:=T) (off:=off) c2 c3 c4 he' hcv hlt;rw[run b (q*sz+off) T cur e2 hv' hle];obtain⟨k1,k2⟩:=h.hep.write (hp':=fL hp0 d0 (.fam λp=>bif Nat.beq p j then .arr T sz len (λp=>bif Nat.beq p q then e' else enc p)else f p)) (x:=.arr T sz len (λp=>bif Nat.beq p q then e' else enc p)) (id:=fid d0 j) (b:=b) (c:=c) (o:=.arr T sz len enc)
           (y:=.cells (fB cur (q*sz+off) (a.eval v).cells.toList).toArray T (0,0))
           (w':=w.setRow b (fB cur (q*sz+off) (a.eval v).cells.toList).toArray) (λn=>by rw[fH]; exact lZ (x:=.arr T sz len (λp=>bif Nat.beq p q then e' else enc p)) hd hf0 (cL hl0) n) (fI hf0) (by rw[iZ hd hf0,ho]; exact cL hl0) m1 (by simp) (λk hk=>setRow_other w b k _ hk) (by grind[setRow_heap]) rfl rfl rfl hx
          exact⟨_,_,μ,hk,rfl,k1,k2,rfl⟩
         grind
       grind
      grind
     grind
  grind
 |call c =>
  obtain⟨callee,args,ts⟩:=c;cases callee with
  |value f =>
   simp only[cOp,aE,aD]at hc;obtain⟨f',h1,args',h2,h3⟩:=hc;cases h3;simp only[execOp,evE]at he ⊢;have hx:=gX h1;generalize gx g fr0 f'=X at hx he;cases X<;>simp only at he<;>try exact he.elim
   rotate_left
   .rename_i id;simp only[R]at hx;obtain⟨b,c',hm,hv⟩:=hx;split at he
    .rename_i lab hgt;split at he
     .rename_i hd hys;have hargs:=Fs (E:=aG C μ hp0 w) hg hf h2;rw[htab.dep]at he;obtain⟨fx,tmps,assign,body,hy,hR⟩:=htab.ys _ _ hys C (.refl C) μ hp0 nx0 w id b c' _ _ _ h.hep h.le h.kd hgt hm hargs (Eo g fr0 args') he;have e:(List.map a.eval args.toList).toArray=args.map a.eval:=by grind
      rw[e]at hy;have hrun:(do let d <- resolve a.eval ⟨.value f,args,ts⟩ ty; invoke d.target d.args:Sem Next).run P w=.ok (.round b fx tmps assign body) w:=by
       grind[resolve,Deferred.ofValue,invoke]
      rw[hrun];refine RoundIn.mono hR ?_;intro e w' he';cases e with
      |returned v =>
       obtain⟨bb,hp',nx',μ',rfl,hk,hE,hh⟩:=he';exact⟨_,_,μ',hk,rfl,hE,hh,rfl⟩
      |panicked c=>exact he'
      |outgrown=>exact he'
     grind
    grind
   rename_i k caps;simp only[R]at hx;obtain⟨cs,hv,hr⟩:=hx;split at he
   .rename_i k' l hcl;obtain⟨us,hargs,hrr⟩:=sU (P:=P) (w:=w) (ts:=ts) (ty:=ty) (aC.1 hv) (Eo g fr0 args') (Fs hg hf h2) hr hcl;rw[hrr];obtain⟨hrun,hcall⟩:=Bo htab.fs htab.g h.hep hargs he;rw[hrun];exact hcall
   grind
  |builtin b =>
   simp only[cOp]at hc;obtain⟨al⟩:=args;obtain⟨tl⟩:=ts;simp only at hc;cases b with
   |delete =>
    have hm:evM g ⟨fr0,hp0,nx0⟩ K so:=by
     have hc':=hc;simp only[lO]at hc';split at hc'
     .split at hc'
      .simp only [aE,aD]at hc';obtain⟨_,_,_,_,_,_,h3⟩:=hc';cases h3;exact kR he
      .cases hc'
     .cases hc'
    exact G5 h hg hc hm
   |len =>
    simp only[lO]at hc;split at hc
    .split at hc
     .simp only [aF]at hc;obtain⟨_,_,rfl⟩:=hc;exact he.elim
     .simp only [aF]at hc;obtain⟨_,_,rfl⟩:=hc;exact he.elim
     .rename_i kt et ht;simp only[aF]at hc;obtain⟨x',h1,rfl⟩:=hc;exact J4 h hg ht h1 (kR he)
     .cases hc
    .cases hc
   |clear =>
    simp only[lO]at hc;split at hc
    .rename_i x t;split at hc
     .rename_i e ht;split at hc
      .rename_i i hi;split at hc
       .rename_i z hz;split at hc
        .rename_i hzz;simp only[aI]at hzz;have hzl:=nbeq hzz.1;have hsz:0<i.size:=aQ (n:=0+1) hzz.2;simp only[aF]at hc;obtain⟨x',h1,rfl⟩:=hc;simp only[evE,rD]at he;have hx:=qN (gX h1);split at he
         .rename_i id sz' lo n hxe;rw[hxe]at hx;split at he
          .rename_i T' sz'' len enc hgt;cases hb1:Nat.beq i.size sz' with
           |false=>grind
           |true =>
           cases hb2:Nat.beq i.size sz'' with
           |false=>grind
           |true =>
           simp only[hb1,hb2,cond_true]at he;have e1:=nbeq hb1;have e2:=nbeq hb2;subst e1;subst e2;obtain⟨⟨q1,q2⟩,hk⟩:=he;obtain⟨w',hrun,k1,k2⟩:=aAr (ty:=ty) h.hep ht hi hz hzl hx hgt q1 q2;have hx2:(execOp a.eval ⟨dst,.call ⟨.builtin .clear,⟨[x]⟩,⟨[t]⟩⟩,ty,pos,after,guard⟩).run P w=.ok (.value (.tuple #[])) w':=by
            simp_all[execOp,resolve,invoke,builtin]
           rw[hx2];refine⟨_,_,μ,hk,rfl,k1,k2,?_⟩;simp only[R];simp
          grind
         grind
        .cases hc
       .cases hc
      .cases hc
     .cases hc
    .cases hc
   |copy =>
    simp only[lO]at hc;split at hc
    .rename_i x y t t';split at hc
     .rename_i e ht ht';split at hc
      .rename_i i hi;split at hc
       .rename_i hsz1;have hsz:=nbeq hsz1;simp only[aE,aD]at hc;obtain⟨x',h1,y',h2,h3⟩:=hc;cases h3;simp only[evE,rD]at he;have hx:=gX h1;have hy:=gX h2;split at he
        .rename_i id n hxe;rw[hxe]at hx;split at he
         .rename_i s hye;rw[hye]at hy;split at he
          .rename_i T' q0 q f tl hgt;cases hb:(kEq q0 .u8 && Nat.ble n q) with
           |false=>grind
           |true =>
            simp only[hb,cond_true]at he;simp only[aI]at hb;obtain rfl:=sJ hb.1;have hnq:=aQ hb.2;simp only[R]at hx hy;obtain⟨b,c,m1,hv⟩:=hx;obtain⟨cur,c1,c2⟩:=h.hep.obj.cells hgt m1;simp only[R]at c2;obtain⟨xs,rfl,c3⟩:=c2;generalize hm:min s.length n=m at he;obtain⟨vs,hvs⟩:∃vs:List Value,vs=(s.take m).map λb=>.int .u8 b.toNat:=⟨_,rfl⟩;have hvl:vs.length=m:=by grind
            have hle:0+vs.length<=(iN .u8 q f++xs).length:=by simp[cG]; omega
            have hone:∀v∈vs,v.oneCell'=true:=by
             intro v hv';rw[hvs]at hv';obtain⟨b',_,rfl⟩:=cD.1 hv';rfl
            have hst:=run_storeCells_at P b 0 T' vs 0 (iN .u8 q f++xs).toArray w c1 (by omega) hone;have hcells:((⟨s.toArray⟩:ByteArray).extract 0 m).data.map (λb=>Value.int .u8 b.toNat)=vs.toArray:=by
             simp[*]
            have hrun:(Builtin.copy_ #[t,t'] ty #[a.eval x,a.eval y]).run P w=.ok (goInt m) (w.setRow b (fB (iN .u8 q f++xs) 0 vs).toArray):=by
             rw[wK _ 0 _ hle];rw[aC.1 hv,aC.1 hy];have hmin:Nat.min s.length n=m:=hm;have hlen0:(⟨s.toArray⟩:ByteArray).size=s.length:=by simp[ByteArray.size]
             have hcells':=hcells;simp only[Builtin.copy_,Builtin.lenOf,Builtin.firstCells,Sem.run_bind,Sem.run_pure,Result.andThen_ok,aJ w ht,bR w hi,List.getElem?_toArray,eB,List.getElem?_cons_succ,hlen0,hmin,hcells];simp_all
            have hrun2:(execOp a.eval ⟨dst,.call ⟨.builtin .copy,⟨[x,y]⟩,⟨[t,t']⟩⟩,ty,pos,after,guard⟩).run P w=.ok (.value (goInt m)) (w.setRow b (fB (iN .u8 q f++xs) 0 vs).toArray):=by
             simp_all[execOp,resolve,invoke,builtin]
            rw[hrun2];obtain⟨f',hf'⟩:∃f':Nat->Int,f'=λi=>bif Nat.blt i m then ((s.getD i 0).toNat:Int)else f i:=⟨_,rfl⟩;rw[<- hf']at he;have hnew:fB (iN .u8 q f++xs) 0 vs=iN .u8 q f'++xs:=by
             apply iI;intro j;rw[wL hle];by_cases hj:j<m
             .rw [if_pos (by omega),cH (by rw[cG]; omega),lD (by omega),hvs,hf']
              grind[Nat.blt,Nat.ble_eq_true_of_le]
             .rw [if_neg (by omega)];by_cases hjq:j<q
              .rw [cH (by rw[cG]; omega),cH (by rw[cG]; omega),lD hjq,lD hjq,hf'];have hblt:Nat.blt j m=false:=by
                cases e:Nat.blt j m with
                |false=>rfl
                |true=>exact absurd (aQ (n:=j+1) e) (by omega)
               simp[hblt]
              grind[cG]
            obtain⟨k1,k2⟩:=h.hep.write (hp':=fL hp0 id (.cells T' (.ints .u8 q f' tl))) (x:=.cells T' (.ints .u8 q f' tl)) (id:=id) (b:=b) (c:=c) (o:=.cells T' (.ints .u8 q f tl)) (y:=.cells (fB (iN .u8 q f++xs) 0 vs).toArray T' (0,0))
             (w':=w.setRow b (fB (iN .u8 q f++xs) 0 vs).toArray) (λn=>by rw[fH]; exact gU (h.hep.obj.keys _ _ hgt) rfl (by grind) n) (fI hgt) (h.hep.get hgt rfl) m1 (by simp) (λk hk=>setRow_other w b k _ hk) (setRow_heap w b _ _ T' (0,0) c1) rfl rfl rfl ⟨_,rfl,by rw[hnew]; simp only[R]; simp[*]⟩
            exact⟨_,_,μ,he,rfl,k1,k2,rfl⟩
          grind
         grind
        grind
       .cases hc
      .cases hc
     .cases hc
    .cases hc
   |append =>
    simp only[lO]at hc;split at hc
    .rename_i x y t t';split at hc
     .rename_i htt;have htt:=eq_of_beq htt;subst htt;split at hc
      .rename_i e ht;split at hc
       .rename_i i hi;split at hc
        .rename_i z hz;split at hc
         .rename_i hzz;simp only[aI]at hzz;have hzl:=nbeq hzz.1;have hsz:0<i.size:=aQ (n:=0+1) hzz.2;simp only[aE,aD]at hc;obtain⟨x',h1,y',h2,h3⟩:=hc;cases h3;simp only[evE]at he;obtain⟨v',w',hrun,s,st',μ',k1,k2,k3,k4,k5⟩:=Gc (ty:=ty) h.hep ht hi hz hzl hsz (gX h1) (gX h2) he;have hx:(execOp a.eval ⟨dst,.call ⟨.builtin .append,⟨[x,y]⟩,⟨[t,t]⟩⟩,ty,pos,after,guard⟩).run P w=.ok (.value v') w':=by
           simp_all[execOp,resolve,invoke,builtin]
          rw[hx];exact⟨s,st',μ',k1,k2,k3,k4,k5⟩
         .cases hc
        .cases hc
       .cases hc
      .cases hc
     .cases hc
    .cases hc
   |_ =>
    simp only[lO]at hc
    (repeat' split at hc)<;>(try cases hc)
    all_goals
     simp only[aE,aD]at hc;first
      | (obtain⟨_,_,_,_,h3⟩:=hc; cases h3; exact he.elim)
      | (obtain⟨_,_,_,_,_,_,h3⟩:=hc; cases h3; exact he.elim)
  |invoke r m=>simp[cOp]at hc
 |buildSlice t n parts =>
  simp only[cOp]at hc;split at hc
  .rename_i e hs;simp only[aE,aD]at hc;obtain⟨j,h1,z,h2,ps,h3,h4⟩:=hc;split at h4
   .rename_i hb;cases h4;obtain⟨zv,hz,hzr,hzl,hzn⟩:=lG (E:=aG C μ hp0 w) h2;have hmap:(parts.map λ(i,x)=>(i,a.eval x)).toList=parts.toList.map λp=>(p.1,a.eval p.2):=by simp
    simp only[evE,fA]at he;split at he
    .rename_i l hl;split at he
     .rename_i els hels;cases hlt:Nat.blt nx0 FB with
      |false=>grind
      |true =>
      cases hn0:Nat.blt 0 n with
      |false=>grind
      |true =>
      simp only[hlt,hn0,cond_true]at he;have hn:0<n:=aQ (n:=0+1) hn0;have hlen:zv.cells.toList.length=j.size:=by simp; omega
      have hrep:=Qe hzl hzr n;have hinit:((Array.range (n*j.size)).map λi=>zv.cells[i%zv.cells.size]!).toList=(List.range (n*zv.cells.toList.length)).map λi=>zv.cells.toList[i%zv.cells.toList.length]! := by
       rw[hlen];have e1:zv.cells.size=j.size:=by omega
       generalize zv.cells=A at e1;obtain⟨A⟩:=A;simp[*]
      obtain⟨cs',c1,c2,c3⟩:=yX hg hf h3 hl (cs:=(Array.range (n*j.size)).map λi=>zv.cells[i%zv.cells.size]!) (by rw[hinit]; exact hrep);have run:(Instr.buildSlice t n (parts.map λ(i,x)=>(i,a.eval x))).run P w=.ok (.slice (some ⟨w.heap.size,0,none⟩) n n) (w.alloc (.cells cs' e)):=by
       unfold Instr.buildSlice;have h24:¬n*j.size>2^24:=by omega
       by_cases h0:n*j.size=0
       .have e0:∀f:Nat->Value,(Array.range 0).map f=#[]:=(by grind);rw[h0,e0]at c1;simp only[Sem.run_bind,aJ w hs,Result.andThen_ok,bR w h1,h0,cO,gt_iff_lt,if_false,if_true,Sem.run_pure,e0,hmap,c1];rfl
       .simp only [Sem.run_bind,aJ w hs,Result.andThen_ok,bR w h1,h24,if_false,h0,jU w h1 hz,Sem.run_pure,hmap,c1];rfl
      have run2:(execOp a.eval ⟨dst,.buildSlice t n parts,ty,pos,after,guard⟩).run P w=.ok (.value (.slice (some ⟨w.heap.size,0,none⟩) n n)) (w.alloc (.cells cs' e)):=by
       grind[execOp,eH]
      rw[run2];obtain⟨q1,q2⟩:=N8 hels c2;obtain⟨k1,k2⟩:=h.hep.alloc (aQ hlt) (.cells cs' e) (.arr e j.size n (mO els)) (cL hn) n ⟨cs'.toList,by simp,q1.1,⟨aN _,by have:=hb.1; have h2:n*1<=n*j.size:=Nat.mul_le_mul_left _ (by omega); omega⟩,λi hi=>by
       obtain⟨xs,x1,x2,x3⟩:=q1.2 i hi
       grind⟩
      refine⟨_,_,upd μ nx0 (w.heap.size,n),he,rfl,k1,k2,?_⟩;simp only[R];exact .inr ⟨hn,w.heap.size,n,by simp[aG,upd],rfl,aN _⟩
     grind
    grind
   .cases h4
  .cases hc
 |makeMap t r =>
  exact G8 (g:=g) h hc (by
   cases r with
   |some r=>simp[cOp]at hc
   |none =>
    simp only[cOp]at hc;split at hc
    .simp only [aF]at hc;obtain⟨_,_,rfl⟩:=hc;exact kR he
    .cases hc)
 |lookup t m k ok =>
  exact G9 h hg hc (by
   simp only[cOp]at hc;split at hc
   .simp only [aE,aD]at hc;obtain⟨_,_,_,_,_,_,_,_,h3⟩:=hc;cases h3;exact kR he
   .cases hc)
 |mapUpdate t m k v =>
  exact Av h hg hc (by
   simp only[cOp]at hc;split at hc
   .simp only [aE,aD]at hc;obtain⟨_,_,_,_,_,_,_,_,h3⟩:=hc;cases h3;exact kR he
   .cases hc)
 |insert t m k v =>
  show Acts P C μ hp0 w fr0 K ((execOp a.eval ⟨dst,.mapUpdate t m k v,ty,pos,after,guard⟩).run P w);have hc':cOp P (.mapUpdate t m k v)=some so:=hc;exact Av h hg hc' (by
   simp only[cOp]at hc;split at hc
   .simp only [aE,aD]at hc;obtain⟨_,_,_,_,_,_,_,_,h3⟩:=hc;cases h3;exact kR he
   .cases hc)
 |mapEntry t m k =>
  exact J3 h hg hc (by
   simp only[cOp]at hc;split at hc
   .simp only [aE,aD]at hc;obtain⟨_,_,_,_,_,_,_,_,h3⟩:=hc;cases h3;exact kR he
   .cases hc)
 |slice t x lo hi mx =>
  cases mx with
  |some _=>simp[cOp]at hc
  |none =>
   simp only[cOp]at hc;split at hc
   .simp only [aE,aD]at hc;obtain⟨j,h1,x',h2,lo',h3,hi',h4,h5⟩:=hc;cases h5;exact he.elim
   .simp only [aE,aD]at hc;obtain⟨x',h2,lo',h3,hi',h4,h5⟩:=hc;cases h5;exact he.elim
   .rename_i n e hs;split at hc
    .rename_i j l hj hlo;simp only[aF]at hc;obtain⟨x',h1,rfl⟩:=hc;simp only[execOp,evE,fA]at he ⊢;have hx:=gX h1;split at he
     .rename_i id hxe;rw[hxe]at hx;cases hla:Wk T.fs 1000000 with
      |true =>
       simp only[hla,cond_true]at he;cases hb:(Nat.beq l 0 && Nat.blt 0 n) with
       |false=>grind
       |true =>
        simp only[hb,cond_true]at he;simp only[aI]at hb;have hl0:=nbeq hb.1;subst hl0;have hn0:0<n:=aQ (n:=0+1) hb.2;simp only[R]at hx;obtain⟨b,c,m1,hv⟩:=hx;have hlow:lo.map a.eval=none\/∃q,lo.map a.eval=some (.int q 0):=by
         unfold loN at hlo;split at hlo
         .simp
         .cases hlo; exact .inr ⟨_,rfl⟩
         .cases hlo
        have hrun:(Instr.sliceAt t (a.eval x) (lo.map a.eval) none none).run P w=.ok (.slice (some ⟨b,0,none⟩) n n) w:=by
         have hne:¬n=0:=by omega
         have hb0:(Instr.sliceBounds false n n (lo.map a.eval) none none).run P w=.ok (0,n,n) w:=by
          rcases hlow with e|⟨q,e⟩
          .simp [Instr.sliceBounds,e]
          simp[*,Instr.sliceBounds,Instr.sliceBound,asIntOf]
         simp only[Instr.sliceAt,Sem.run_bind,aJ w hs,Result.andThen_ok,aC.1 hv,Instr.sureAddr,Sem.run_pure,hb0,bR w hj,hne,if_false,Addr.add,aP];simp
        have hr2:(do pure (Next.value (<- Instr.sliceAt t (a.eval x) (lo.map a.eval) none none)):Sem Next).run P w=.ok (.value (.slice (some ⟨b,0,none⟩) n n)) w:=eH hrun;simp only[eF];rw[hr2];exact⟨_,_,μ,he,rfl,Env.Le.refl _,h.hep,by simp only[R]; simp[*]⟩
      |false =>
      simp only[hla,cond_false]at he;split at he
      .rename_i T' cl hgt;split at he
       .rename_i els hels;cases hb:Nat.blt l n with
        |false=>grind
        |true =>
         simp only[hb,cond_true]at he;have hln:l<n:=aQ hb;have hgid:get? hp0 id=some (.cells T' cl):=hgt;have hid:=h.hep.obj.keys _ _ hgid;have hh:hget hp0 id=some (.cells T' cl):=jL hid hgid rfl;obtain⟨b,c,o,m1,m2,cs,rfl,hR⟩:=h.hep.obj.obj id _ hh;simp only[R]at hx;obtain⟨b2,c2,m3,hv⟩:=hx;rw[m1]at m3;obtain⟨rfl,rfl⟩:b=b2/\c=c2:=by grind
         obtain⟨hE,hd⟩:=h.hep.vP hgid rfl;have hU:(aG C μ (drop? hp0 id) w).U b:=by
          refine⟨h.hep.lt hh m1,?_,?_,h.hep.obj.plain hh m1⟩
          .rcases h.hep.mine _ _ _ _ hh m1 with h1|h1
           .exact .inr (.inl h1)
           .exact .inr (.inr h1)
          .intro i o' c' hg' hm';rw[oE hid (λf e=>by rw[hgid]at e; cases e)]at hg';split at hg'
           .cases hg'
           .rename_i hne;exact hne (h.hep.inj _ _ _ _ _ _ _ hg' hh hm' m1)
         have m2':w.heap[b]?=some (.cells cs.toArray T' (0,0)):=m2;have hlo2:(l:Nat)*j.size+0*j.size=l*j.size:=by omega
         obtain⟨k1,k2⟩:=zW (E:=aG C μ (drop? hp0 id) w) (b:=b) (off:=l*j.size) (i:=0) hU hels (kJ hE (hP (n:=l*j.size) hR)) (by
          rw[hlo2];intro q v hq;rw[cY]at hq;have:=Holds.row (w:=w) (b:=b) m2' 0 (l*j.size+q) v hq
          rwa [aP]at this)
         have hlow:lo.map a.eval=none/\l=0\/∃q,lo.map a.eval=some (.int q (l:Int)):=by
          unfold loN at hlo;split at hlo
          .grind
          .cases hlo; exact .inr ⟨_,rfl⟩
          .cases hlo
         have hrun:(Instr.sliceAt t (a.eval x) (lo.map a.eval) none none).run P w=.ok (.slice (some ⟨b,l*j.size,none⟩) (n-l) (n-l)) w:=by
          have hne:¬n=l:=by omega
          have hb0:(Instr.sliceBounds false n n (lo.map a.eval) none none).run P w=.ok (l,n,n) w:=by
           rcases hlow with⟨e,rfl⟩|⟨q,e⟩
           .simp [Instr.sliceBounds,e]
           .have:((l:Int)<=(n:Int)):=by omega
            have n2:¬n<l:=by omega
            simp[*,Instr.sliceBounds,Instr.sliceBound,asIntOf]
          simp only[Instr.sliceAt,Sem.run_bind,aJ w hs,Result.andThen_ok,aC.1 hv,Instr.sureAddr,Sem.run_pure,hb0,bR w hj,hne,if_false,Addr.add,aP]
          grind
         have hr2:(do pure (Next.value (<- Instr.sliceAt t (a.eval x) (lo.map a.eval) none none)):Sem Next).run P w=.ok (.value (.slice (some ⟨b,l*j.size,none⟩) (n-l) (n-l))) w:=eH hrun;simp only[eF];rw[hr2];refine⟨_,_,μ,he,rfl,hE,hd,?_⟩
         grind[R]
       grind
      grind
     grind
    .rename_i j hx0 hj hlo;split at hc
     .rename_i hb;simp only[aI]at hb;have hsz:=nbeq hb.1;have hn:0<n:=aQ hb.2;simp only[aE,aD]at hc;obtain⟨x',h1,h',h2,hc⟩:=hc;cases hc;simp only[execOp,evE]at he ⊢;have hx:=gX h1;have hhi:=gX h2;split at he
      .rename_i id hxe;rw[hxe]at hx;split at he
       .rename_i T' q0 q f r hgt;split at he
        .rename_i q1 m hme;rw[hme]at hhi;obtain⟨⟨m0,m1,m2⟩,he⟩:=he;have hgid:get? hp0 id=some (.cells T' (.ints q0 q f r)):=hgt;have hid:=h.hep.obj.keys _ _ hgid;have hh:hget hp0 id=some (.cells T' (.ints q0 q f r)):=jL hid hgid rfl;obtain⟨b,c,o,k1,k2,cs,rfl,hR⟩:=h.hep.obj.obj id _ hh;simp only[R]at hx hhi hR;obtain⟨b2,c2,k3,hv⟩:=hx;obtain⟨xs,rfl,_⟩:=hR;rw[k1]at k3;obtain⟨rfl,rfl⟩:b=b2/\c=c2:=by grind
         obtain⟨hE,hd⟩:=h.hep.vP hgid rfl;have hU:(aG C μ (drop? hp0 id) w).U b:=by
          refine⟨h.hep.lt hh k1,?_,?_,h.hep.obj.plain hh k1⟩
          .rcases h.hep.mine _ _ _ _ hh k1 with h1|h1
           .exact .inr (.inl h1)
           .exact .inr (.inr h1)
          .intro i o' c' hg' hm';rw[oE hid (λf e=>by rw[hgid]at e; cases e)]at hg';split at hg'
           .cases hg'
           .rename_i hne;exact hne (h.hep.inj _ _ _ _ _ _ _ hg' hh hm' k1)
         have k2':w.heap[b]?=some (.cells (iN q0 q f++xs).toArray T' (0,0)):=k2;have hlow:lo.map a.eval=none\/∃q,lo.map a.eval=some (.int q 0):=by
          unfold loN at hlo;split at hlo
          .simp
          .cases hlo; exact .inr ⟨_,rfl⟩
          .cases hlo
         have hmn:m.toNat<=n:=by omega
         have hrun:(Instr.sliceAt t (a.eval x) (lo.map a.eval) (some (a.eval hx0)) none).run P w=.ok (.slice (some ⟨b,0,none⟩) m.toNat n) w:=by
          have hb0:(Instr.sliceBounds false n n (lo.map a.eval) (some (a.eval hx0)) none).run P w=.ok (0,m.toNat,n) w:=by
           rw[aC.1 hhi];rcases hlow with e|⟨q,e⟩
           .simp_all [Instr.sliceBounds,Instr.sliceBound,asIntOf]
           simp[*,Instr.sliceBounds,Instr.sliceBound,asIntOf]
          simp only[Instr.sliceAt,Sem.run_bind,aJ w hs,Result.andThen_ok,aC.1 hv,Instr.sureAddr,Sem.run_pure,hb0,bR w hj];simp[Addr.add]
         have hr2:(do pure (Next.value (<- Instr.sliceAt t (a.eval x) (lo.map a.eval) (some (a.eval hx0)) none)):Sem Next).run P w=.ok (.value (.slice (some ⟨b,0,none⟩) m.toNat n)) w:=eH hrun;simp only[eF,cU];rw[hr2];refine⟨_,_,μ,he,rfl,hE,hd,?_⟩;simp only[R];refine⟨_,_,rfl,hmn,λi hi=>?_⟩;have hiq:i<q:=by omega
         refine⟨b,0,[.int q0 (f i)],rfl,hU,⟨_,_,rfl,rfl,rfl⟩,rfl,?_⟩;intro j' v hj';have hcell:(iN q0 q f++xs)[i]?=some (.int q0 (f i)):=by
          grind[cG,lD]
         have:=Holds.row (w:=w) (b:=b) k2' 0 i _ hcell;cases j' with
         |zero =>
          obtain rfl:Value.int q0 (f i)=v:=by grind
          rw[<- this];congr 2;omega
         |succ j'=>simp at hj'
        grind
       grind
      grind
     .cases hc
    .cases hc
   .cases hc
 |binOp op t x y ty' =>
  simp only[cOp]at hc;split at hc
  .simp only [aE,aD]at hc;obtain⟨x',h1,y',h2,h3⟩:=hc;cases h3;exact he.elim
  .simp only [aE,aD]at hc;obtain⟨x',h1,y',h2,h3⟩:=hc;cases h3;exact he.elim
  .split at hc
   .simp only [aE,aD]at hc;obtain⟨x',h1,y',h2,h3⟩:=hc;cases h3;exact he.elim
   .simp only [aE,aD]at hc;obtain⟨x',h1,y',h2,h3⟩:=hc;cases h3;exact he.elim
   .cases hc
  .split at hc
   .simp only [aE,aD]at hc;obtain⟨x',h1,y',h2,h3⟩:=hc;cases h3;exact he.elim
   .simp only [aE,aD]at hc;obtain⟨x',h1,y',h2,h3⟩:=hc;cases h3;exact he.elim
   .cases hc
  .split at hc
   .simp only [aE,aD]at hc;obtain⟨x',h1,y',h2,h3⟩:=hc;cases h3;exact he.elim
   .simp only [aE,aD]at hc;obtain⟨x',h1,y',h2,h3⟩:=hc;cases h3;exact he.elim
   .cases hc
  .rename_i e hsl;have key:∀neg,(∃x' y',cX x=some x'/\cX y=some y'/\so=.slNil neg x' y')->op=(if neg then .neq else .eql)->Acts P C μ hp0 w fr0 K ((execOp a.eval ⟨dst,.binOp op t x y ty',ty,pos,after,guard⟩).run P w):=by
    rintro neg ⟨x',y',h1,h2,rfl⟩ rfl;simp only[execOp,evE]at he ⊢;have hx:=gX h1;have hy:=gX h2;split at he
    .rename_i hye;rw[hye]at hy;simp only[R]at hy;have hy':=aC.1 hy;have run:∀(ad:Option Addr) (n c:Nat),a.eval x=.slice ad n c->(do eqGuard (if neg then .neq else .eql) t x y (a.eval x) (a.eval y); binOp (if neg then .neq else .eql) t (a.eval x) (a.eval y):Sem Value).run P w=.ok (.bool (if neg then !ad.isNone else ad.isNone)) w:=by
      intro ad n c e;rw[e,hy'];have hgd:∀op,(eqGuard op t x y (.slice ad n c) (.slice none 0 0)).run P w=.ok () w:=by
       simp_all[eqGuard]
      have heq:=run_equal_slice_nil w t _ ad n c hsl;cases neg with
      |true=>simp_all[binOp]
      |false=>simp_all[binOp]
     have fin:∀(ad:Option Addr) (n c m:Nat),a.eval x=.slice ad n c->(0<m->ad.isNone=false)->(∀b,(0<m->b=neg)->K (.bool b) ⟨fr0,hp0,nx0⟩) ->
       Acts P C μ hp0 w fr0 K ((do pure (Next.value (<- (do eqGuard (if neg then .neq else .eql) t x y (a.eval x) (a.eval y); binOp (if neg then .neq else .eql) t (a.eval x) (a.eval y):Sem Value))):Sem Next).run P w):=by
      intro ad n c m e hm hk;rw[eH (run ad n c e)];refine⟨_,_,μ,hk (if neg then !ad.isNone else ad.isNone) (λhpos=>by rw[hm hpos]; cases neg<;>rfl),rfl,Env.Le.refl _,h.hep,?_⟩;rfl
     split at he
     .rename_i hxe;rw[hxe]at hx;simp only[R]at hx;have hx':=aC.1 hx;rw[eH (run none 0 0 hx')];refine⟨_,_,μ,he,rfl,Env.Le.refl _,h.hep,?_⟩
      grind[R]
     .rename_i hxe;rw[hxe]at hx;simp only[R]at hx;obtain⟨ad,cap,hv,_,hel⟩:=hx;refine fin ad _ cap _ (aC.1 hv) (λhpos=>?_) he;obtain⟨b,off,cs,e,_⟩:=hel 0 hpos;rw[e]; rfl
     .rename_i els hxe;rw[hxe]at hx;simp only[R]at hx;obtain⟨ad,hv,hel⟩:=hx;refine fin ad _ _ _ (aC.1 hv) (λhpos=>?_) he;cases els<;>simp only[SV.len,Nat.lt_irrefl]at hpos<;>simp only[RE]at hel;obtain⟨⟨b,off,cs,e,_⟩,_⟩:=hel;rw[e]; rfl
     .rename_i hxe;rw[hxe]at hx;simp only[R]at hx;rcases hx with⟨rfl,ad,cap,hv⟩|⟨hp1,b,c,_,hv,_⟩
      .exact fin ad _ cap 0 (aC.1 hv) (by grind) he
      grind
     .rename_i hxe;rw[hxe]at hx;simp only[R]at hx;rcases hx with⟨rfl,ad,hv⟩|⟨hp1,b,c,_,hv,_⟩
      .exact fin ad _ _ 0 (aC.1 hv) (by grind) he
      grind
     .rename_i hxe;rw[hxe]at hx;simp only[R]at hx;rcases hx with⟨rfl,ad,hv⟩|⟨b,c,_,hv,_⟩
      .exact fin ad _ _ 0 (aC.1 hv) (by grind) he
      .exact fin _ _ _ _ (aC.1 hv) (λ_=>rfl) he
     grind
    grind
   split at hc
   .simp only [aE,aD]at hc;obtain⟨x',h1,y',h2,h3⟩:=hc;simp_all
   .simp only [aE,aD]at hc;obtain⟨x',h1,y',h2,h3⟩:=hc;simp_all
   .cases hc
  .split at hc
   .split at hc
    .simp only [aE,aD]at hc;obtain⟨x',h1,y',h2,h3⟩:=hc;cases h3;exact he.elim
    .simp only [aE,aD]at hc;obtain⟨x',h1,y',h2,h3⟩:=hc;cases h3;exact he.elim
    .cases hc
   .cases hc
  .cases hc
 |entryStore t m k v =>
  exact G6 h hg hc (by
   simp only[cOp,aE,aD]at hc;obtain⟨_,_,_,_,_,_,h3⟩:=hc;cases h3;exact kR he)
 |range t m =>
  exact E0 h hg hc (by
   simp only[cOp]at hc;split at hc
   .simp only [aF]at hc;obtain⟨_,_,rfl⟩:=hc;exact kR he
   .cases hc)
 |next it b =>
  cases b with
  |true=>simp[cOp]at hc
  |false =>
   exact Ha h hg hc (by
    simp only[cOp,aF]at hc;obtain⟨_,_,rfl⟩:=hc;exact kR he)
 |entry it =>
  exact Ez h hg hc (by
   simp only[cOp,aF]at hc;obtain⟨_,_,rfl⟩:=hc;exact kR he)
 |_ =>
  have:=V6 hc rfl;cases so<;>first|exact he.elim|(simp[aEi,Wh,aE7]at this)
end
end Go.Eng
