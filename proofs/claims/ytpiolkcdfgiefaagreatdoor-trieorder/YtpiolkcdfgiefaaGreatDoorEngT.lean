/- A part of the proof. -/
import Derived.Test.YtpiolkcdfgiefaaGreatDoorEngR
import Derived.Maps.RangeRun
section
namespace Go.Eng
open Go Go.RowKit
def eC:SV->(SV->Prop)->Prop
 | .junk,k=>k .junk
 | .val v,k=>k (.val v)
 | .int q n,k=>k (.int q n)
 | .bool b,k=>k (.bool b)
 | .str s,k=>k (.str s)
 | .own a b,k=>iP a fun a=>k (.own a b)
 | .osl a b c d,k=>iP a fun a=>k (.osl a b c d)
 | .lsl a b c,k=>iP a fun a=>k (.lsl a b c)
 | .oel a b c d,k=>iP a fun a=>k (.oel a b c d)
 | .mref a,k=>iP a fun a=>k (.mref a)
 | .fown a b c,k=>iP a fun a=>k (.fown a b c)
 | .fmref a b,k=>iP a fun a=>k (.fmref a b)
 | .flsl a b c d,k=>iP a fun a=>k (.flsl a b c d)
 | .foel a b c d e,k=>iP a fun a=>k (.foel a b c d e)
 | .csl a b,k=>iP a fun a=>k (.csl a b)
 | .nilsl,k=>k .nilsl
 | .slice a b c,k=>k (.slice a b c)
 | .slit a b,k=>eC b fun b=>k (.slit a b)
 | .cptr a,k=>eC a fun a=>k (.cptr a)
 | .nil,k=>k .nil
 | .cons a b,k=>eC a fun a=>eC b fun b=>k (.cons a b)
 | .ints q n f a,k=>iP n fun n=>eC a fun a=>k (.ints q n f a)
 | .agg a,k=>eC a fun a=>k (.agg a)
 | .tup a,k=>eC a fun a=>k (.tup a)
 | .fn f a,k=>eC a fun a=>k (.fn f a)
 | .yield a,k=>iP a fun a=>k (.yield a)
 | .gd a b c,k=>k (.gd a b c)
theorem gA:∀ (s:SV) (k:SV->Prop),eC s k=k s:=by
 intro s;induction s with
 | cons a b iha ihb=>intro k; simp only [eC,iha,ihb]
 | ints q n f a ih=>intro k; simp only [eC,kF,ih]
 | agg a ih=>intro k; simp only [eC,ih]
 | tup a ih=>intro k; simp only [eC,ih]
 | fn f a ih=>intro k; simp only [eC,ih]
 | slit n a ih=>intro k; simp only [eC,ih]
 | cptr a ih=>intro k; simp only [eC,ih]
 | _=>intro k; first|rfl|simp only [eC,kF]
def I9 (o:aT) (k:aT->Prop):Prop :=
 match o with
 | .cells T l=>eC l fun l=>k (.cells T l)
 | .arr T sz len enc=>k (.arr T sz len enc)
 | .obj o=>k (.obj o)
 | .snap o=>k (.snap o)
 | .map V kk l c ev iv=>k (.map V kk l c ev iv)
 | .iter a b c d=>eC a fun a=>k (.iter a b c d)
 | .fam f=>k (.fam f)
 | .hid a b=>k (.hid a b)
 | .gone=>k .gone
theorem Nw (o:aT) (k:aT->Prop):I9 o k=k o:=by cases o <;> simp only [I9,gA]
def jQ:List (Nat×aT)->(List (Nat×aT)->Prop)->Prop
 | [],k=>k []
 | (n,o)::r,k=>iP n fun n=>I9 o fun o=>jQ r fun r=>k ((n,o)::r)
theorem pJ:∀ (l:List (Nat×aT)) (k:List (Nat×aT)->Prop),jQ l k=k l:=by
 intro l;induction l with
 | nil=>intro k; rfl
 | cons p r ih=>intro k; simp only [jQ,kF,Nw,ih]
def stK (st:St) (k:List (Nat×aT)->Nat->Prop):Prop :=
 match st with
 | ⟨_,hp,nx⟩=>iP nx fun nx=>jQ hp fun hp=>k hp nx
theorem Zn (st:St) (k:List (Nat×aT)->Nat->Prop):stK st k=k st.hp st.nx:=by
 cases st;simp only [stK,kF,pJ]
def stP (st:St) (k:List (Nat×SV)->List (Nat×aT)->Nat->Prop):Prop :=
 match st with
 | ⟨fr,hp,nx⟩=>k fr hp nx
theorem Zo (st:St) (k:List (Nat×SV)->List (Nat×aT)->Nat->Prop):stP st k=k st.fr st.hp st.nx:=by
 cases st;rfl
def stF (st:St) (k:St->Prop):Prop :=
 match st with
 | ⟨fr,hp,nx⟩=>iP nx fun nx=>jQ hp fun hp=>k ⟨fr,hp,nx⟩
theorem Fc (st:St) (k:St->Prop):stF st k=k st:=by
 cases st;simp only [stF,kF,pJ]
def gQ (l:List (Nat×aT)) (id:Nat) (x:aT):List (Nat×aT) :=
 match l with
 | []=>[(id,x)]
 | (k,v)::r=>bif Nat.beq k id then (id,x)::r else (k,v)::gQ r id x
theorem get?_putH (l:List (Nat×aT)) (id:Nat) (x:aT) (n:Nat):get? (gQ l id x) n=get? ((id,x)::l) n:=by
 induction l with
 | nil=>rfl
 | cons p r ih =>
  obtain ⟨k,v⟩:=p;simp only [gQ];cases hb:Nat.beq k id with
  | true =>
   have:=nbeq hb;subst this;simp only [cond_true,get?_cons];split <;> rfl
  | false =>
   have hne:¬ k=id:=fun e=>by subst e; simp [Nat.beq_refl] at hb
   simp only [cond_false,get?_cons,ih];by_cases h1:k=n
   ·subst h1;have:¬ id=k:=fun e=>hne e.symm;simp [this]
   ·simp [h1]
theorem gK (l:List (Nat×aT)) (id:Nat) (x:aT) (n:Nat):hget (gQ l id x) n=hget ((id,x)::l) n:=by
 unfold hget;simp only [get?_putH]
theorem gL {l:List (Nat×aT)} {id:Nat} {x o:aT} (hg:get? l id=some o):∀ n o',get? (gQ l id x) n=some o'->∃ o'',get? l n=some o'':=by
 intro n o' h;rw [get?_putH,get?_cons] at h;by_cases e:id=n
 ·subst e; exact ⟨_,hg⟩
 ·simp [e] at h; exact ⟨_,h⟩
def pU (l:List (Nat×aT)) (id:Nat) (x:aT) (k:List (Nat×aT)->Prop):Prop :=
 match l with
 | []=>k [(id,x)]
 | (a,v)::r=>bif Nat.beq a id then k ((id,x)::r) else pU r id x fun l=>k ((a,v)::l)
theorem rY (id:Nat) (x:aT):∀ (l:List (Nat×aT)) (k:List (Nat×aT)->Prop),pU l id x k=k (gQ l id x):=by
 intro l;induction l with
 | nil=>intro k; rfl
 | cons p r ih =>
  obtain ⟨a,v⟩:=p;intro k;simp only [pU,gQ];cases Nat.beq a id <;> simp [ih]
def Acts (P:Program) (C:Ctx) (μ:Nat->Option (Nat×Nat)) (hp:List (Nat×aT)) (w:World) (fr:List (Nat×SV)) (K:SV->St->Prop) (r:Result Next):Prop :=
 Does P (fun v w'=>∃ s st' μ',K s st'/\st'.fr=fr/\(aN C μ hp w).Le (aN C μ' st'.hp w')/\bO C μ' st'.hp st'.nx w'/\R (aN C μ' st'.hp w') s [v]) r
def Ck:SV->Option (List KP)
 | .nil=>some []
 | .cons (.str b) r=>match Ck r with
  | some l=>some (.s b::l)
  | none=>none
 | .cons (.int k i) r=>match Ck r with
  | some l=>some (.n k i::l)
  | none=>none
 | _=>none
theorem Th {E:Env}:∀ {s:SV} {l:List KP} {vs:List Value},R E s vs->Ck s=some l->vs=l.map KP.val:=by
 intro s;induction s with
 | nil=>intro l vs h e; cases e; exact h
 | cons a r _ ih =>
  intro l vs h e;simp only [R] at h;obtain ⟨x,xs,rfl,h1,h2⟩:=h;cases a <;> simp only [Ck] at e <;> first
   | (cases e; done)
   | (split at e
      ·rename_i l' hl;cases e;rw [aC.1 h1,ih h2 hl];rfl
      ·cases e)
 | _=>intro l vs h e; simp [Ck] at e
def keyOf:SV->Option cC
 | .str b=>some (.s b)
 | .int k n=>some (.i k n)
 | .agg (.cons (.int .i64 x) (.cons (.int .i64 y) .nil))=>some (.a x y)
 | .agg l=>match Ck l with
  | some l=>some (.t l)
  | none=>none
 | _=>none
theorem zM {E:Env} {s:SV} {v:Value} {k:cC} (h:R E s [v]) (hk:keyOf s=some k):v=k.val:=by
 unfold keyOf at hk;split at hk
 ·cases hk; exact aC.1 h
 ·cases hk; exact aC.1 h
 ·cases hk;simp only [R] at h;obtain ⟨cs,h1,x,xs,rfl,h2,y,ys,rfl,h3,rfl⟩:=h;rw [aC.1 h1,aC.1 h2,aC.1 h3];rfl
 ·split at hk
  ·rename_i l' hl;cases hk;simp only [R] at h;obtain ⟨cs,h1,h2⟩:=h;rw [aC.1 h1,Th h2 hl];rfl
  ·cases hk
 ·cases hk
def Q1:IntKind->IntKind->Bool
 | .i8,.i8|.i16,.i16|.i32,.i32|.i64,.i64|.u8,.u8|.u16,.u16|.u32,.u32|.u64,.u64=>true
 | _,_=>false
def Jv:List KPK->List KPK->Bool
 | [],[]=>true
 | .s::r,.s::r'=>Jv r r'
 | .n a::r,.n b::r'=>bif Q1 a b then Jv r r' else false
 | _,_=>false
theorem Mb {x y:IntKind} (h:Q1 x y=true):x=y:=by cases x <;> cases y <;> simp [Q1] at h <;> rfl
theorem Ut:∀ {l m:List KPK},Jv l m=true->l=m:=by
 intro l;induction l with
 | nil=>intro m h; cases m <;> simp [Jv] at h; rfl
 | cons a l ih =>
  intro m h;cases m with
  | nil=>cases a <;> simp [Jv] at h
  | cons b m =>
   cases a <;> cases b <;> simp only [Jv] at h <;> first
    | (rw [ih h]; done)
    | (cases h; done)
    | (rename_i x y
       cases hb:Q1 x y with
       | false=>simp [hb] at h
       | true=>simp only [hb,cond_true] at h; rw [Mb hb,ih h])
def oW:KK->KK->Bool
 | .s,.s=>true
 | .i a,.i b=>Q1 a b
 | .a,.a=>true
 | .t l,.t m=>Jv l m
 | _,_=>false
theorem Ur {k k':KK} (h:oW k k'=true):k=k':=by
 cases k <;> cases k' <;> simp [oW] at h <;> first
  | rfl
  | (rename_i x y; rw [Mb h]; done)
  | (rename_i x y; rw [Ut h]; done)
def pQ (hp:List (Nat×aT)):SV->Option aT
 | .mref id=>get? hp id
 | .fmref h i=>match get? hp h with
  | some (.fam f)=>some (f i)
  | _=>none
 | _=>none
def kK (hp:List (Nat×aT)) (m:SV) (o:aT):List (Nat×aT) :=
 match m with
 | .mref id=>gQ hp id o
 | .fmref h i=>match get? hp h with
  | some (.fam f)=>gQ hp h (.fam fun j=>bif Nat.beq j i then o else f j)
  | _=>hp
 | _=>hp
theorem kU {C:Ctx} {μ:Nat->Option (Nat×Nat)} {hp:List (Nat×aT)} {nx:Nat} {w:World} (h:bO C μ hp nx w) {m:SV} {v:Value} (hr:R (aN C μ hp w) m [v])
  {V:Type} {kk:KK} {l:List (cC×V×Nat)} {clock:Nat} {ev:V->SV} {iv:SV->Option V} (ha:pQ hp m=some (.map V kk l clock ev iv)) :
  ∃ id b c es,hget hp id=some (.map V kk l clock ev iv)/\μ id=some (b,c)/\v=.map (some b)/\w.heap[b]?=some (.map es.toArray clock)/\jH (aN C μ hp w) ev l es/\(∀ x∈l,x.1.kind=kk) /\
   ∀ o,eT? o=some o->(∀ n,hget (kK hp m o) n=if id=n then some o else hget hp n)/\(∀ n o',get? (kK hp m o) n=some o'->∃ o'',get? hp n=some o''):=by
 have fin:∀ id b c,hget hp id=some (.map V kk l clock ev iv)->μ id=some (b,c)->∃ es:List MapEntry,w.heap[b]?=some (.map es.toArray clock)/\jH (aN C μ hp w) ev l es/\(∀ x∈l,x.1.kind=kk):=by
  intro id b c hg hm;obtain ⟨b',c',y,e1,e2,h0,es,e3,e4⟩:=h.obj.obj id _ hg;have e1':μ id=some (b',c'):=e1;rw [hm] at e1';cases e1';exact ⟨es,e3 ▸ e2,e4,h0⟩
 cases m with
 | mref id =>
  simp only [pQ] at ha;simp only [R] at hr;obtain ⟨b,c,m1,hv⟩:=hr;have hg:=h.get ha rfl;obtain ⟨es,f1,f2,f3⟩:=fin id b c hg m1;refine ⟨id,b,c,es,hg,m1,aC.1 hv,f1,f2,f3,fun o ho=>⟨fun n=>?_,gL ha⟩⟩;simp only [kK];rw [gK];exact iW (h.obj.keys _ _ ha) (eT?_solid ho) (fun f e=>by rw [ha] at e; cases e) n
 | fmref d i =>
  simp only [pQ] at ha;split at ha
  ·rename_i f hf;simp only [R] at hr;obtain ⟨b,c,m1,hv⟩:=hr;have hd:=h.obj.keys _ _ hf;have hfi:f i=.map V kk l clock ev iv:=by simpa using ha
   have hg:hget hp (fid d i)=some (.map V kk l clock ev iv):=by rw [kH hd hf,hfi]; rfl
   obtain ⟨es,f1,f2,f3⟩:=fin _ b c hg m1;refine ⟨fid d i,b,c,es,hg,m1,aC.1 hv,f1,f2,f3,fun o ho=>⟨fun n=>?_,?_⟩⟩
   ·simp only [kK,hf];rw [gK];exact nC hd hf ho n
   ·simp only [kK,hf];exact gL hf
  ·cases ha
 | _=>simp [pQ] at ha
def oX (ok:Bool) (x:SV) (b:Bool):SV :=
 match ok with
 | true=>.tup (.cons x (.cons (.bool b) .nil))
 | false=>x
def idn:List (Nat×aT)->List (Nat×Nat)
 | []=>[]
 | (k,_)::r=>(k,k)::idn r
theorem get?_idn {n x:Nat}:∀ {l:List (Nat×aT)},get? (idn l) n=some x->x=n:=by
 intro l;induction l with
 | nil=>intro h; cases h
 | cons p r ih =>
  intro h;simp only [idn,get?_cons] at h;split at h
  ·rename_i e; cases h; exact e
  ·exact ih h
def Keep.same (hp:List (Nat×aT)):Keep:=⟨idn hp,true,true,false⟩
def iJ {V:Type} (hp:List (Nat×aT)) (ev:V->SV) (iv:SV->Option V) (l:List (cC×V×Nat)) (s:SV) (k:(W:Type)->(W->SV)->(SV->Option W)->List (cC×W×Nat)->W->Prop):Prop :=
 match iv s with
 | some v=>sub (Keep.same hp) hp 200 s (ev v)/\k V ev iv l v
 | none=>k SV id some (l.map fun x=>(x.1,ev x.2.1,x.2.2)) s
def fam1:List (Nat×aT)->Option Nat
 | []=>none
 | (h,.fam _)::_=>some h
 | _::r=>fam1 r
structure nY {V:Type} (l:List (cC×V×Nat)) (k:cC) (Q:V->Nat->Prop) (R:Prop):Prop where
 hit:∀ v t,mget l k=some (v,t)->Q v t
 miss:mget l k=none->R
theorem nY.zT {V:Type} {l:List (cC×V×Nat)} {k:cC} {v:V} {t:Nat} {Q:V->Nat->Prop} {R:Prop} (h:mget l k=some (v,t)) (hq:Q v t):nY l k Q R :=
 ⟨(fun v' t' h'=>by cases h.symm.trans h'; exact hq),(fun h'=>by cases h.symm.trans h')⟩
theorem nY.E0 {V:Type} {l:List (cC×V×Nat)} {k:cC} {Q:V->Nat->Prop} {R:Prop} (h:mget l k=none) (hr:R):nY l k Q R :=
 ⟨(fun v' t' h'=>by cases h.symm.trans h'),(fun _=>hr)⟩
def evM (g:Option (Nat×Bool)) (st:St) (k:SV->St->Prop):SOp->Prop
 | .mkmap kk=>match fam1 st.hp with
  | none=>bif Nat.blt st.nx FB then k (.mref st.nx) ⟨st.fr,(st.nx,.map SV kk [] 0 id some)::st.hp,st.nx+1⟩ else False
  | some h=>match get? st.hp h with
   | some (.fam f)=>∃ j,f j=.gone/\k (.fmref h j) ⟨st.fr,kK st.hp (.fmref h j) (.map SV kk [] 0 id some),st.nx⟩
   | _=>False
 | .mlook z ok kk m key=>match keyOf (gx g st.fr key) with
  | some kv=>bif oW kv.kind kk then
    match gx g st.fr m with
    | .val (.map none)=>k (oX ok z.sv false) st
    | ms=>match pQ st.hp ms with
     | some (.map _ kk' l _ ev _)=>bif oW kk' kk then
       nY l kv (fun v _t=>k (oX ok (ev v) true) st) (k (oX ok z.sv false) st)
      else False
     | _=>False
   else False
  | none=>False
 | .mupd kk m key v=>match keyOf (gx g st.fr key) with
  | some kv=>bif oW kv.kind kk then
    match pQ st.hp (gx g st.fr m) with
    | some (.map _ kk' l clock ev iv)=>bif oW kk' kk then
      iJ st.hp ev iv l (gx g st.fr v) fun W ev iv l v =>
       nY l kv (fun _u _t=>k (.val undef) ⟨st.fr,kK st.hp (gx g st.fr m) (.map W kk' (mput l kv v) clock ev iv),st.nx⟩)
        (k (.val undef) ⟨st.fr,kK st.hp (gx g st.fr m) (.map W kk' (l++[(kv,v,clock)]) (clock+1) ev iv),st.nx⟩)
     else False
    | _=>False
   else False
  | none=>False
 | .ment z kk m key=>match keyOf (gx g st.fr key) with
  | some kv=>bif oW kv.kind kk then
    match pQ st.hp (gx g st.fr m) with
    | some (.map _ kk' l clock ev iv)=>bif oW kk' kk then
      nY l kv (fun v t=>k (.tup (.cons (ev v) (.cons (.int .i64 (t:Int)) .nil))) st)
       (iJ st.hp ev iv l z.sv fun W ev iv l v =>
       k (.tup (.cons z.sv (.cons (.int .i64 (clock:Int)) .nil))) ⟨st.fr,kK st.hp (gx g st.fr m) (.map W kk' (l++[(kv,v,clock)]) (clock+1) ev iv),st.nx⟩)
     else False
    | _=>False
   else False
  | none=>False
 | .mesto m t v=>match gx g st.fr t with
  | .int _ n=>match pQ st.hp (gx g st.fr m) with
   | some (.map _ kk l clock ev iv)=>iJ st.hp ev iv l (gx g st.fr v) fun W ev iv l v =>
     ∃ t:Nat,n=(t:Int)/\(∃ x∈l,x.2.2=t)/\k (.val undef) ⟨st.fr,kK st.hp (gx g st.fr m) (.map W kk (mset l t v) clock ev iv),st.nx⟩
   | _=>False
  | _=>False
 | .mdele kk m key=>match keyOf (gx g st.fr key) with
  | some kv=>bif oW kv.kind kk then
    match gx g st.fr m with
    | .val (.map none)=>k (.val (.tuple #[])) st
    | ms=>match pQ st.hp ms with
     | some (.map V kk' l clock ev iv)=>bif oW kk' kk then
       k (.val (.tuple #[])) ⟨st.fr,kK st.hp ms (.map V kk' (mdel l kv) clock ev iv),st.nx⟩
      else False
     | _=>False
   else False
  | none=>False
 | .mlen m=>match gx g st.fr m with
  | .val (.map none)=>k (.int .i64 0) st
  | ms=>match pQ st.hp ms with
   | some (.map _ _ l _ _ _)=>k (.int .i64 (l.length:Int)) st
   | _=>False
 | .mrange m=>bif Nat.blt st.nx FB then
   match gx g st.fr m with
   | .val (.map none)=>k (.own st.nx 0) ⟨st.fr,(st.nx,.iter (.val (.map none)) 0 [] 0)::st.hp,st.nx+1⟩
   | ms=>match pQ st.hp ms with
    | some (.map _ _ _ clock _ _)=>k (.own st.nx 0) ⟨st.fr,(st.nx,.iter ms clock [] clock)::st.hp,st.nx+1⟩
    | _=>False
  else False
 | .mnext it=>match gx g st.fr it with
  | .own id 0=>match get? st.hp id with
   | some (.iter (.val (.map none)) _ _ _)=>k (.tup (.cons (.bool false) .nil)) st
   | some (.iter src since seen last)=>match pQ st.hp src with
    | some (.map _ _ l clock ev _) =>
     (∀ x∈l,x.2.2 < since)/\since<=last /\
     (∀ x∈l,x.2.2 ∉ seen->k (.tup (.cons (.bool true) (.cons x.1.sv (.cons (ev x.2.1) .nil)))) ⟨st.fr,gQ st.hp id (.iter src since (seen++[x.2.2]) clock),st.nx⟩) /\
     ((∀ x∈l,x.2.2∈seen)->k (.tup (.cons (.bool false) .nil)) st)
    | _=>False
   | _=>False
  | _=>False
 | .mentry it=>match gx g st.fr it with
  | .own id 0=>match get? st.hp id with
   | some (.iter src _ seen last)=>match pQ st.hp src with
    | some (.map _ _ l clock ev _)=>clock=last/\∃ x∈l,(∀ y∈l,y.2.2=x.2.2->y=x)/\(∃ s0,seen=s0++[x.2.2])/\k (.tup (.cons x.1.sv (.cons (ev x.2.1) .nil))) st
    | _=>False
   | _=>False
  | _=>False
 | _=>False
def Aj (hp:List (Nat×aT)) (ms:SV) (k:aT->Prop):Prop :=
 match ms with
 | .mref id=>match get? hp id with
  | some o=>k o
  | none=>False
 | .fmref h i=>match get? hp h with
  | some (.fam f)=>∃ o,f i=o/\k o
  | _=>False
 | _=>False
theorem oT {hp:List (Nat×aT)} {ms:SV} {k:aT->Prop} (h:Aj hp ms k):∃ o,pQ hp ms=some o/\k o:=by
 unfold Aj at h;split at h
 ·split at h
  ·rename_i id o ho; exact ⟨o,ho,h⟩
  ·exact h.elim
 ·split at h
  ·rename_i d i f hf;obtain ⟨o,ho,hk⟩:=h;exact ⟨o,by simp only [pQ,hf,ho],hk⟩
  ·exact h.elim
 ·exact h.elim
def zG (g:Option (Nat×Bool)) (st:St) (k:SV->St->Prop):SOp->Prop
 | .mkmap kk=>match fam1 st.hp with
  | none=>bif Nat.blt st.nx FB then k (.mref st.nx) ⟨st.fr,(st.nx,.map SV kk [] 0 id some)::st.hp,st.nx+1⟩ else False
  | some h=>match get? st.hp h with
   | some (.fam f)=>∃ j,f j=.gone/\k (.fmref h j) ⟨st.fr,kK st.hp (.fmref h j) (.map SV kk [] 0 id some),st.nx⟩
   | _=>False
 | .mlook z ok kk m key=>match keyOf (gx g st.fr key) with
  | some kv=>bif oW kv.kind kk then
    match gx g st.fr m with
    | .val (.map none)=>k (oX ok z.sv false) st
    | ms=>Aj st.hp ms fun o=>match o with
     | .map _ kk' l _ ev _=>bif oW kk' kk then
       nY l kv (fun v _t=>k (oX ok (ev v) true) st) (k (oX ok z.sv false) st)
      else False
     | _=>False
   else False
  | none=>False
 | .mupd kk m key v=>match keyOf (gx g st.fr key) with
  | some kv=>bif oW kv.kind kk then
    Aj st.hp (gx g st.fr m) fun o=>match o with
    | .map _ kk' l clock ev iv=>bif oW kk' kk then
      iJ st.hp ev iv l (gx g st.fr v) fun W ev iv l v =>
       nY l kv (fun _u _t=>k (.val undef) ⟨st.fr,kK st.hp (gx g st.fr m) (.map W kk' (mput l kv v) clock ev iv),st.nx⟩)
        (k (.val undef) ⟨st.fr,kK st.hp (gx g st.fr m) (.map W kk' (l++[(kv,v,clock)]) (clock+1) ev iv),st.nx⟩)
     else False
    | _=>False
   else False
  | none=>False
 | .ment z kk m key=>match keyOf (gx g st.fr key) with
  | some kv=>bif oW kv.kind kk then
    Aj st.hp (gx g st.fr m) fun o=>match o with
    | .map _ kk' l clock ev iv=>bif oW kk' kk then
      nY l kv (fun v t=>k (.tup (.cons (ev v) (.cons (.int .i64 (t:Int)) .nil))) st)
       (iJ st.hp ev iv l z.sv fun W ev iv l v =>
       k (.tup (.cons z.sv (.cons (.int .i64 (clock:Int)) .nil))) ⟨st.fr,kK st.hp (gx g st.fr m) (.map W kk' (l++[(kv,v,clock)]) (clock+1) ev iv),st.nx⟩)
     else False
    | _=>False
   else False
  | none=>False
 | .mesto m t v=>match gx g st.fr t with
  | .int _ n=>Aj st.hp (gx g st.fr m) fun o=>match o with
   | .map _ kk l clock ev iv=>iJ st.hp ev iv l (gx g st.fr v) fun W ev iv l v =>
     ∃ t:Nat,n=(t:Int)/\(∃ x∈l,x.2.2=t)/\k (.val undef) ⟨st.fr,kK st.hp (gx g st.fr m) (.map W kk (mset l t v) clock ev iv),st.nx⟩
   | _=>False
  | _=>False
 | .mdele kk m key=>match keyOf (gx g st.fr key) with
  | some kv=>bif oW kv.kind kk then
    match gx g st.fr m with
    | .val (.map none)=>k (.val (.tuple #[])) st
    | ms=>Aj st.hp ms fun o=>match o with
     | .map V kk' l clock ev iv=>bif oW kk' kk then
       k (.val (.tuple #[])) ⟨st.fr,kK st.hp ms (.map V kk' (mdel l kv) clock ev iv),st.nx⟩
      else False
     | _=>False
   else False
  | none=>False
 | .mlen m=>match gx g st.fr m with
  | .val (.map none)=>k (.int .i64 0) st
  | ms=>Aj st.hp ms fun o=>match o with
   | .map _ _ l _ _ _=>k (.int .i64 (l.length:Int)) st
   | _=>False
 | .mrange m=>bif Nat.blt st.nx FB then
   match gx g st.fr m with
   | .val (.map none)=>k (.own st.nx 0) ⟨st.fr,(st.nx,.iter (.val (.map none)) 0 [] 0)::st.hp,st.nx+1⟩
   | ms=>Aj st.hp ms fun o=>match o with
    | .map _ _ _ clock _ _=>k (.own st.nx 0) ⟨st.fr,(st.nx,.iter ms clock [] clock)::st.hp,st.nx+1⟩
    | _=>False
  else False
 | .mnext it=>match gx g st.fr it with
  | .own id 0=>match get? st.hp id with
   | some (.iter (.val (.map none)) _ _ _)=>k (.tup (.cons (.bool false) .nil)) st
   | some (.iter src since seen last)=>Aj st.hp src fun o=>match o with
    | .map _ _ l clock ev _ =>
     (∀ x∈l,x.2.2 < since)/\since<=last /\
     (∀ x∈l,x.2.2 ∉ seen->k (.tup (.cons (.bool true) (.cons x.1.sv (.cons (ev x.2.1) .nil)))) ⟨st.fr,gQ st.hp id (.iter src since (seen++[x.2.2]) clock),st.nx⟩) /\
     ((∀ x∈l,x.2.2∈seen)->k (.tup (.cons (.bool false) .nil)) st)
    | _=>False
   | _=>False
  | _=>False
 | .mentry it=>match gx g st.fr it with
  | .own id 0=>match get? st.hp id with
   | some (.iter src _ seen last)=>Aj st.hp src fun o=>match o with
    | .map _ _ l clock ev _=>clock=last/\∃ x∈l,(∀ y∈l,y.2.2=x.2.2->y=x)/\(∃ s0,seen=s0++[x.2.2])/\k (.tup (.cons x.1.sv (.cons (ev x.2.1) .nil))) st
    | _=>False
   | _=>False
  | _=>False
 | _=>False
theorem lT {g:Option (Nat×Bool)} {st:St} {k:SV->St->Prop} {so:SOp} (h:zG g st k so):evM g st k so:=by
 cases so <;> try exact h
 case mlook z ok kk m key =>
  simp only [zG,evM] at h ⊢;split at h
  ·rename_i kv hkv;try rw [hkv]
   cases hb:oW kv.kind kk with
   | false=>rw [hb] at h; exact h
   | true =>
    rw [hb] at h;dsimp only [cond_true] at h ⊢;generalize gx g st.fr m=ms at h ⊢;split at h
    ·exact h
    ·rename_i hne;obtain ⟨o,ho,h⟩:=oT h;rw [ho]; cases o <;> exact h
  ·exact h.elim
 case mupd kk m key v =>
  simp only [zG,evM] at h ⊢;split at h
  ·rename_i kv hkv;try rw [hkv]
   cases hb:oW kv.kind kk with
   | false=>rw [hb] at h; exact h
   | true =>
    rw [hb] at h;dsimp only [cond_true] at h ⊢;obtain ⟨o,ho,h⟩:=oT h;rw [ho];cases o <;> exact h
  ·exact h.elim
 case ment z kk m key =>
  simp only [zG,evM] at h ⊢;split at h
  ·rename_i kv hkv;try rw [hkv]
   cases hb:oW kv.kind kk with
   | false=>rw [hb] at h; exact h
   | true =>
    rw [hb] at h;dsimp only [cond_true] at h ⊢;obtain ⟨o,ho,h⟩:=oT h;rw [ho];cases o <;> exact h
  ·exact h.elim
 case mesto m t v =>
  simp only [zG,evM] at h ⊢;split at h
  ·rename_i n hn;try rw [hn]
   try dsimp only
   obtain ⟨o,ho,h⟩:=oT h;rw [ho];cases o <;> exact h
  ·exact h.elim
 case mdele kk m key =>
  simp only [zG,evM] at h ⊢;split at h
  ·rename_i kv hkv;try rw [hkv]
   cases hb:oW kv.kind kk with
   | false=>rw [hb] at h; exact h
   | true =>
    rw [hb] at h;dsimp only [cond_true] at h ⊢;generalize gx g st.fr m=ms at h ⊢;split at h
    ·exact h
    ·rename_i hne;obtain ⟨o,ho,h⟩:=oT h;rw [ho]; cases o <;> exact h
  ·exact h.elim
 case mlen m =>
  simp only [zG,evM] at h ⊢;generalize gx g st.fr m=ms at h ⊢;split at h
  ·exact h
  ·rename_i hne;obtain ⟨o,ho,h⟩:=oT h;rw [ho]; cases o <;> exact h
 case mrange m =>
  simp only [zG,evM] at h ⊢;cases hb:Nat.blt st.nx FB with
  | false=>rw [hb] at h; exact h
  | true =>
   rw [hb] at h;dsimp only [cond_true] at h ⊢;generalize gx g st.fr m=ms at h ⊢;split at h
   ·exact h
   ·rename_i hne;obtain ⟨o,ho,h⟩:=oT h;rw [ho]; cases o <;> exact h
 case mnext it =>
  simp only [zG,evM] at h ⊢;split at h
  ·rename_i id hid;try rw [hid]
   try dsimp only
   split at h
   ·rename_i hg; (try rw [hg]); exact h
   ·rename_i src since seen last hne hg;try rw [hg]
    obtain ⟨o,ho,h⟩:=oT h;rw [ho]; cases o <;> exact h
   ·exact h.elim
  ·exact h.elim
 case mentry it =>
  simp only [zG,evM] at h ⊢;split at h
  ·rename_i id hid;try rw [hid]
   try dsimp only
   split at h
   ·rename_i hg;try rw [hg]
    try dsimp only
    obtain ⟨o,ho,h⟩:=oT h;rw [ho];cases o <;> exact h
   ·exact h.elim
  ·exact h.elim
section
variable {P:Program} {w:World}
theorem tP {E:Env} {t:TypeId} {z:CV} (h:zeroV P t=some z):∃ u,(zeroValue t).run P w=.ok u w/\R E z.sv [u]:=by
 simp only [zeroV,aF,aD] at h;obtain ⟨i,h1,h2⟩:=h;split at h2
 ·rename_i v hv;exact ⟨v,lB w h1 hv,Pp h2⟩
 ·cases h2
theorem yA {E:Env} {ok:Bool} {s:SV} {u:Value} {b:Bool} (h:R E s [u]):R E (oX ok s b) [if ok=true then .tuple #[u,.bool b] else u]:=by
 cases ok with
 | true=>simp only [oX,if_true,R]; exact ⟨[u,.bool b],rfl,u,[.bool b],rfl,h,.bool b,[],rfl,rfl,rfl⟩
 | false=>simpa [oX] using h
theorem Jy {t kt et:TypeId} {kk:KK} (ht:P.underlying t=some (.map kt et)) (hk:qZ P kt=some kk) {z:CV} (hz:zeroV P et=some z) {k:cC} (hkd:k.kind=kk) {b clock:Nat} {es:List MapEntry} (hb:w.heap[b]?=some (.map es.toArray clock))
  {E:Env} {V:Type} {ev:V->SV} {l:List (cC×V×Nat)} (he:jH E ev l es) (hkk:∀ x∈l,x.1.kind=kk) (ok:Bool) :
  (∃ v t' u,mget l k=some (v,t')/\R E (ev v) [u]/\(Instr.lookup t (.map (some b)) k.val ok).run P w=.ok (if ok=true then .tuple #[u,.bool true] else u) w) \/
  (mget l k=none/\∃ u,R E z.sv [u]/\(Instr.lookup t (.map (some b)) k.val ok).run P w=.ok (if ok=true then .tuple #[u,.bool false] else u) w):=by
 have hf:=sX (w:=w) hk hkd he hkk;have hc:=fun em=>pD (w:=w) hk hkd em;rcases wH l es 0 he with ⟨h1,h2⟩|⟨v,t',j,e,h1,h2,h3,h4,h5,h6,h7,h8⟩
 ·right;obtain ⟨u,hu,hR⟩:=tP (w:=w) (E:=E) hz;refine ⟨h1,u,hR,?_⟩;unfold Instr.lookup;simp only [Sem.run_bind,aP w ht,Result.andThen_ok,MapKept.run_getObj_map hb,Sem.run_pure,hc,hf,h2,hu]
 ·left;refine ⟨v,t',e.val,h1,h5,?_⟩;unfold Instr.lookup;simp only [Sem.run_bind,aP w ht,Result.andThen_ok,MapKept.run_getObj_map hb,Sem.run_pure,hc,hf,h2]
theorem lookup_nil {t kt et:TypeId} {kk:KK} (ht:P.underlying t=some (.map kt et)) (hk:qZ P kt=some kk) {z:CV} (hz:zeroV P et=some z) {k:cC} (hkd:k.kind=kk) {E:Env} (ok:Bool) :
  ∃ u,R E z.sv [u]/\(Instr.lookup t (.map none) k.val ok).run P w=.ok (if ok=true then .tuple #[u,.bool false] else u) w:=by
 obtain ⟨u,hu,hR⟩:=tP (w:=w) (E:=E) hz;have hc:=fun em=>pD (w:=w) hk hkd em;have hf:=sX (P:=P) (w:=w) hk hkd (E:=E) (V:=Unit) (ev:=fun _=>.junk) (l:=[]) (es:=[]) rfl (by simp);simp only [fnd] at hf;refine ⟨u,hR,?_⟩;unfold Instr.lookup;simp only [Sem.run_bind,aP w ht,Result.andThen_ok,Sem.run_pure,hc,hf,hu]
def sM (w:World) (b:Nat) (o:Obj):World:={ w with heap:=w.heap.setIfInBounds b o }
theorem K5 {t kt et:TypeId} {kk:KK} (ht:P.underlying t=some (.map kt et)) (hk:qZ P kt=some kk) {k:cC} (hkd:k.kind=kk) {b clock:Nat} {es:List MapEntry} (hb:w.heap[b]?=some (.map es.toArray clock))
  {E:Env} {V:Type} {ev:V->SV} {l:List (cC×V×Nat)} (he:jH E ev l es) (hkk:∀ x∈l,x.1.kind=kk) {v:V} {u:Value} (hu:R E (ev v) [u]) :
  (∃ v' t' es',mget l k=some (v',t')/\jH E ev (mput l k v) es'/\(Instr.mapUpdate t (.map (some b)) k.val u).run P w=.ok () (sM w b (.map es'.toArray clock))) \/
  (mget l k=none/\∃ es',jH E ev (l++[(k,v,clock)]) es'/\(Instr.mapUpdate t (.map (some b)) k.val u).run P w=.ok () (sM w b (.map es'.toArray (clock+1)))):=by
 have hf:=sX (w:=w) hk hkd he hkk;have hc:=fun em=>pD (w:=w) hk hkd em;rcases wH l es 0 he with ⟨h1,h2⟩|⟨v',t',j,e,h1,h2,h3,h4,h5,h6,h7,h8⟩
 ·right;refine ⟨h1,es++[⟨k.val,u,clock⟩],yR he ⟨_,[],rfl,rfl,hu,rfl,rfl⟩,?_⟩;unfold Instr.mapUpdate;simp only [Sem.run_bind,aP w ht,Result.andThen_ok,MapKept.run_getObj_map hb,hc,hf,h2,MapKept.run_setObj_map _ hb];simp [sM]
 ·left;refine ⟨v',t',_,h1,h8 v u hu,?_⟩;rw [aW] at h2;have hkey:((es.toArray[j]?.map (·.key)).getD k.val)=k.val:=by simp [h3,h4]
  unfold Instr.mapUpdate;simp only [Sem.run_bind,aP w ht,Result.andThen_ok,MapKept.run_getObj_map hb,hc,hf,h2,hkey,Ch,MapKept.run_setObj_map _ hb];simp [sM]
theorem Nr {t kt et:TypeId} {kk:KK} (ht:P.underlying t=some (.map kt et)) (hk:qZ P kt=some kk) {z:CV} (hz:zeroV P et=some z) {k:cC} (hkd:k.kind=kk) {b clock:Nat} {es:List MapEntry} (hb:w.heap[b]?=some (.map es.toArray clock))
  {E:Env} {V:Type} {ev:V->SV} {l:List (cC×V×Nat)} (he:jH E ev l es) (hkk:∀ x∈l,x.1.kind=kk) :
  (∃ v t' u,mget l k=some (v,t')/\R E (ev v) [u]/\(Instr.mapEntry t (.map (some b)) k.val).run P w=.ok (.tuple #[u,goInt (t':Int)]) (sM w b (.map es.toArray clock))) \/
  (mget l k=none/\∃ u,R E z.sv [u]/\(Instr.mapEntry t (.map (some b)) k.val).run P w=.ok (.tuple #[u,goInt (clock:Int)]) (sM w b (.map (es++[({ key:=k.val,val:=u,born:=clock }:MapEntry)]).toArray (clock+1)))):=by
 have hf:=sX (w:=w) hk hkd he hkk;have hc:=fun em=>pD (w:=w) hk hkd em;rcases wH l es 0 he with ⟨h1,h2⟩|⟨v',t',j,e,h1,h2,h3,h4,h5,h6,h7,h8⟩
 ·right;obtain ⟨u,hu,hR⟩:=tP (w:=w) (E:=E) hz;refine ⟨h1,u,hR,?_⟩;unfold Instr.mapEntry;simp only [Sem.run_bind,aP w ht,Result.andThen_ok,MapKept.run_getObj_map hb,hc,hf,h2,hu,MapKept.run_setObj_map _ hb];simp [sM]
 ·left;refine ⟨v',t',e.val,h1,h5,?_⟩;rw [aW] at h2;have hkey:((es.toArray[j]?.map (·.key)).getD k.val)=k.val:=by simp [h3,h4]
  have hmod:es.toArray.modify j (fun e=>{ e with key:=k.val })=es.toArray:=by
   apply gY;simp only [Array.toList_modify];apply jW;intro q;rw [List.getElem?_modify];by_cases hq:j=q
   ·subst hq; simp [h3,<- h4]
   ·simp [hq]
  unfold Instr.mapEntry;simp only [Sem.run_bind,aP w ht,Result.andThen_ok,MapKept.run_getObj_map hb,hc,hf,h2,hkey,Ch,MapKept.run_setObj_map _ hb,hmod];simp [sM,h3,h6]
theorem Iz {t kt et:TypeId} {kk:KK} (ht:P.underlying t=some (.map kt et)) (hk:qZ P kt=some kk) {k:cC} (hkd:k.kind=kk) {b clock:Nat} {es:List MapEntry} (hb:w.heap[b]?=some (.map es.toArray clock))
  {E:Env} {V:Type} {ev:V->SV} {l:List (cC×V×Nat)} (he:jH E ev l es) (hkk:∀ x∈l,x.1.kind=kk) (ts:Array TypeId) (hts:ts[0]?=some t) (ty:TypeId) :
  ∃ es',jH E ev (mdel l k) es'/\(Builtin.delete_ ts ty #[.map (some b),k.val]).run P w=.ok (.tuple #[]) (sM w b (.map es'.toArray clock)):=by
 have hf:=sX (w:=w) hk hkd he hkk;have hc:=fun em=>pD (w:=w) hk hkd em;have none_same:∀ l:List (cC×V×Nat),mget l k=none->mdel l k=l:=by
  intro l;induction l with
  | nil=>intro _; rfl
  | cons x r ih =>
   intro h;simp only [mget] at h;split at h
   ·cases h
   ·rename_i hne;simp only [mdel,hne,if_false,ih h]
 rcases wH l es 0 he with ⟨h1,h2⟩|⟨v',t',j,e,h1,h2,h3,h4,h5,h6,h7,h8⟩
 ·refine ⟨es,by rw [none_same l h1]; exact he,?_⟩;unfold Builtin.delete_;simp only [hts];simp [aP w ht,MapKept.run_getObj_map hb,hc,hf,h2,MapKept.run_setObj_map _ hb,sM]
 ·refine ⟨_,h7,?_⟩;rw [aW] at h2;have hlt:j < es.length:=(aR.1 h3).1;unfold Builtin.delete_;simp only [hts];simp [aP w ht,MapKept.run_getObj_map hb,hc,hf,h2,MapKept.run_setObj_map _ hb,sM,Array.eraseIdxIfInBounds,hlt]
section
variable {C:Ctx} {μ:Nat->Option (Nat×Nat)} {hp:List (Nat×aT)} {nx:Nat}
theorem Sv (hH:HpR (aN C μ hp w) hp) {s t:SV} {vs:List Value} (h:sub (Keep.same hp) hp 200 s t) (hr:R (aN C μ hp w) s vs):R (aN C μ hp w) t vs :=
 mJ (E:=aN C μ hp w) (E':=aN C μ hp w) (keep:=Keep.same hp) ⟨fun _=>⟨fun _ h=>h,fun _ _=>rfl⟩,(fun _ _ _ h=>by cases get?_idn h; first|exact id|rfl|(intro e; exact e)),(fun _ _ _ _ h=>by cases get?_idn h; first|exact id|rfl|(intro e; exact e)),rfl,fun _ _ _ _ _ _ _ h=>by simp [kept,Keep.same] at h⟩ hH 200 s t vs h hr
theorem yB (hH:HpR (aN C μ hp w) hp) {V:Type} {ev:V->SV} {iv:SV->Option V} {l:List (cC×V×Nat)} {es:List MapEntry} {kk:KK} {s:SV} {u:Value} (hs:R (aN C μ hp w) s [u]) (he:jH (aN C μ hp w) ev l es) (hkk:∀ x∈l,x.1.kind=kk)
  {k:(W:Type)->(W->SV)->(SV->Option W)->List (cC×W×Nat)->W->Prop} (h:iJ hp ev iv l s k) :
  ∃ (W:Type) (ev':W->SV) (iv':SV->Option W) (l':List (cC×W×Nat)) (v':W),k W ev' iv' l' v'/\jH (aN C μ hp w) ev' l' es/\(∀ x∈l',x.1.kind=kk)/\R (aN C μ hp w) (ev' v') [u]:=by
 unfold iJ at h;split at h
 ·rename_i v hv;exact ⟨V,ev,iv,l,v,h.2,he,hkk,Sv hH h.1 hs⟩
 ·refine ⟨SV,id,some,_,s,h,Tf (g:=ev) (fun _=>rfl) he,?_,hs⟩;intro x hx;simp only [bF] at hx;obtain ⟨y,hy,rfl⟩:=hx;exact hkk y hy
theorem nT (h:bO C μ hp nx w) {hp':List (Nat×aT)} {id b c:Nat} {o x:aT} {y:Obj} (hh:∀ n,hget hp' n=if id=n then some x else hget hp n) (hk:∀ n o',get? hp' n=some o'->∃ o'',get? hp n=some o'')
  (hg:hget hp id=some o) (hm:μ id=some (b,c)) (hx:HR (aN C μ hp w) x c y) (hn:∀ l p,o≠.hid l p:=by intro _ _ e; cases e) (hxo:FB<=id->∀ q,x≠.obj q:=by intro _ _ e; cases e) (hnx:∀ l p,x≠.hid l p:=by intro _ _ e; cases e):(aN C μ hp w).Le (aN C μ hp' (sM w b y))/\bO C μ hp' nx (sM w b y):=by
 have hlt:=h.lt hg hm;refine h.write hh hk hg hm (by simp [sM]) (fun k hk=>?_) ?_ rfl rfl rfl hx hn (DLe.of_le (aL _)) hxo hnx
 ·simp [sM,Ne.symm hk]
 ·simp [sM,hlt]
theorem Gq {E:Env} (k:cC):R E k.sv [k.val]:=by
 cases k with
 | s b=>rfl
 | i k n=>rfl
 | a x y=>exact ⟨[.int .i64 x,.int .i64 y],rfl,.int .i64 x,[.int .i64 y],rfl,rfl,.int .i64 y,[],rfl,rfl,rfl⟩
 | t l =>
  refine ⟨_,rfl,?_⟩;induction l with
  | nil=>rfl
  | cons x l ih=>exact ⟨x.val,l.map KP.val,rfl,by cases x <;> rfl,ih⟩
theorem zZ {E:Env} {V:Type} {ev:V->SV}:∀ {l:List (cC×V×Nat)} {es:List MapEntry},jH E ev l es->∀ e∈es,∃ x∈l,e.key=x.1.val/\R E (ev x.2.1) [e.val]/\e.born=x.2.2:=by
 intro l;induction l with
 | nil=>intro es h e he; simp only [jH] at h; subst h; cases he
 | cons x r ih =>
  intro es h e he;obtain ⟨e0,t,rfl,h2,h3,h4,h5⟩:=h;rcases aI.1 he with rfl|he
  ·exact ⟨x,aQ ..,h2,h3,h4⟩
  ·obtain ⟨y,hy,h⟩:=ih h5 e he;exact ⟨y,aK _ hy,h⟩
theorem B0 {E:Env} {V:Type} {ev:V->SV}:∀ {l:List (cC×V×Nat)} {es:List MapEntry},jH E ev l es->∀ x∈l,∃ e∈es,e.key=x.1.val/\R E (ev x.2.1) [e.val]/\e.born=x.2.2:=by
 intro l;induction l with
 | nil=>intro es _ x hx; cases hx
 | cons y r ih =>
  intro es h x hx;obtain ⟨e0,t,rfl,h2,h3,h4,h5⟩:=h;rcases aI.1 hx with rfl|hx
  ·exact ⟨e0,aQ ..,h2,h3,h4⟩
  ·obtain ⟨e,he,h⟩:=ih h5 x hx;exact ⟨e,aK _ he,h⟩
end
end
end Go.Eng
end
section
namespace Go.Eng
open Go Go.RowKit
def aA2:SOp->Bool
 | .mkmap ..|.mlook ..|.mupd ..|.ment ..|.mesto ..|.mdele ..|.mlen ..|.mrange ..|.mnext ..|.mentry ..=>true
 | _=>false
section
variable {P:Program} {C:Ctx} {μ:Nat->Option (Nat×Nat)} {w:World}
theorem mE {st:St} (h:bO C μ st.hp st.nx w) {K:SV->St->Prop} {s:SV} {u:Value} (hk:K s st) (hr:R (aN C μ st.hp w) s [u]) {r:Result Next} (hrun:r=.ok (.value u) w):Acts P C μ st.hp w st.fr K r:=by
 subst hrun;exact ⟨s,st,μ,hk,rfl,Env.Le.refl _,h,hr⟩
theorem qE {k k':KK} {p:Prop} (h:bif oW k k' then p else False):k=k'/\p:=by
 cases e:oW k k' with
 | false=>simp [e] at h
 | true=>simp only [e,cond_true] at h; exact ⟨Ur e,h⟩
theorem G8 {st:St} {a:Act} (h:dR C μ st a w) {g:Option (Nat×Bool)} (hg:GOk g a.tmps) {t:TypeId} {m k:Operand} {ok:Bool} {dst:Option Tmp} {ty:TypeId} {pos:String} {after:Array Edge} {guard:Option (Nat×Bool)} {so:SOp}
  (hc:cOp P (.lookup t m k ok)=some so) {K:SV->St->Prop} (he:evM g st K so):Acts P C μ st.hp w st.fr K ((execOp a.eval ⟨dst,.lookup t m k ok,ty,pos,after,guard⟩).run P w):=by
 have gX:∀ {o:Operand} {x:SX},cX o=some x->R (aN C μ st.hp w) (gx g st.fr x) [a.eval o]:=fun hx=>pY hg h.fr hx;simp only [cOp] at hc;split at hc
 ·rename_i kt et ht;simp only [aF,aD] at hc;obtain ⟨z,hz,kk,hkk,m',hm,k',hk,h3⟩:=hc;cases h3;simp only [evM] at he;split at he
  ·rename_i kv hkv;obtain ⟨hkd,he⟩:=qE he;have hkey:=zM (gX hk) hkv;have hmr:=gX hm;simp only [execOp];rw [hkey];split at he
   ·rename_i hmv;rw [hmv] at hmr;have hmn:a.eval m=.map none:=aC.1 hmr;obtain ⟨u,hu,hrun⟩:=lookup_nil (P:=P) (w:=w) ht hkk hz hkd (E:=aN C μ st.hp w) ok;rw [hmn];exact mE h.hep he (yA hu) (fC hrun)
   ·split at he
    ·rename_i V kk' l clock ev iv ha;obtain ⟨rfl,h1,h2⟩:=qE he;obtain ⟨id,b,c,es,q1,q2,q3,q4,q5,q6,q7⟩:=kU h.hep hmr ha;rw [q3];rcases Jy (P:=P) (w:=w) ht hkk hz hkd q4 q5 q6 ok with ⟨v,t',u,r1,r2,r3⟩|⟨r1,u,r2,r3⟩
     ·exact mE h.hep (h1 v t' r1) (yA r2) (fC r3)
     ·exact mE h.hep (h2 r1) (yA r2) (fC r3)
    ·exact he.elim
  ·exact he.elim
 ·cases hc
theorem A6 {st:St} {a:Act} (h:dR C μ st a w) {g:Option (Nat×Bool)} (hg:GOk g a.tmps) {t:TypeId} {m k v:Operand} {dst:Option Tmp} {ty:TypeId} {pos:String} {after:Array Edge} {guard:Option (Nat×Bool)} {so:SOp}
  (hc:cOp P (.mapUpdate t m k v)=some so) {K:SV->St->Prop} (he:evM g st K so):Acts P C μ st.hp w st.fr K ((execOp a.eval ⟨dst,.mapUpdate t m k v,ty,pos,after,guard⟩).run P w):=by
 have gX:∀ {o:Operand} {x:SX},cX o=some x->R (aN C μ st.hp w) (gx g st.fr x) [a.eval o]:=fun hx=>pY hg h.fr hx;simp only [cOp] at hc;split at hc
 ·rename_i kt et ht;simp only [aF,aD] at hc;obtain ⟨kk,hkk,m',hm,k',hk,v',hv,h3⟩:=hc;cases h3;simp only [evM] at he;split at he
  ·rename_i kv hkv;obtain ⟨hkd,he⟩:=qE he;have hkey:=zM (gX hk) hkv;split at he
   ·rename_i V kk' l clock ev iv ha;obtain ⟨e1,he2⟩:=qE he;subst e1;clear he;obtain ⟨id,b,c,es,q1,q2,q3,q4,q5,q6,q7⟩:=kU h.hep (gX hm) ha;obtain ⟨W,ev',iv',l',u,hq,p1,p2,p3⟩:=yB h.hep.obj (gX hv) q5 q6 he2;simp only [execOp];rw [hkey,q3];rcases K5 (P:=P) (w:=w) ht hkk hkd q4 p1 p2 p3 with ⟨v0,t',es',r1,r2,r3⟩|⟨r1,es',r2,r3⟩
    ·obtain ⟨s1,s2⟩:=q7 (.map W kk' (mput l' kv u) clock ev' iv') rfl;obtain ⟨k1,k2⟩:=nT h.hep s1 s2 q1 q2 (y:=.map es'.toArray clock) ⟨Jt hkd _ p2,es',rfl,r2⟩;simp only [Sem.run_bind,r3,Result.andThen_ok,Sem.run_pure];exact ⟨_,_,μ,hq.1 _ _ r1,rfl,k1,k2,rfl⟩
    ·obtain ⟨s1,s2⟩:=q7 (.map W kk' (l'++[(kv,u,clock)]) (clock+1) ev' iv') rfl;obtain ⟨k1,k2⟩:=nT h.hep s1 s2 q1 q2 (y:=.map es'.toArray (clock+1)) ⟨by
      intro x hx;rcases bM.1 hx with hx|hx
      ·exact p2 x hx
      ·simp at hx; subst hx; exact hkd,es',rfl,r2⟩
     simp only [Sem.run_bind,r3,Result.andThen_ok,Sem.run_pure];exact ⟨_,_,μ,hq.2 r1,rfl,k1,k2,rfl⟩
   ·exact he.elim
  ·exact he.elim
 ·cases hc
theorem J2 {st:St} {a:Act} (h:dR C μ st a w) {g:Option (Nat×Bool)} (hg:GOk g a.tmps) {t:TypeId} {m k:Operand} {dst:Option Tmp} {ty:TypeId} {pos:String} {after:Array Edge} {guard:Option (Nat×Bool)} {so:SOp}
  (hc:cOp P (.mapEntry t m k)=some so) {K:SV->St->Prop} (he:evM g st K so):Acts P C μ st.hp w st.fr K ((execOp a.eval ⟨dst,.mapEntry t m k,ty,pos,after,guard⟩).run P w):=by
 have gX:∀ {o:Operand} {x:SX},cX o=some x->R (aN C μ st.hp w) (gx g st.fr x) [a.eval o]:=fun hx=>pY hg h.fr hx;simp only [cOp] at hc;split at hc
 ·rename_i kt et ht;simp only [aF,aD] at hc;obtain ⟨z,hz,kk,hkk,m',hm,k',hk,h3⟩:=hc;cases h3;simp only [evM] at he;split at he
  ·rename_i kv hkv;obtain ⟨hkd,he⟩:=qE he;have hkey:=zM (gX hk) hkv;split at he
   ·rename_i V kk' l clock ev iv ha;obtain ⟨e1,he2⟩:=qE he;subst e1;clear he;obtain ⟨id,b,c,es,q1,q2,q3,q4,q5,q6,q7⟩:=kU h.hep (gX hm) ha;simp only [execOp];rw [hkey,q3];have tupR:∀ {E:Env} {s:SV} {u:Value} {n:Int},R E s [u]->R E (.tup (.cons s (.cons (.int .i64 n) .nil))) [.tuple #[u,goInt n]] :=
     fun {E s u n} hu=>⟨[u,goInt n],rfl,u,[goInt n],rfl,hu,goInt n,[],rfl,rfl,rfl⟩
    rcases Nr (P:=P) (w:=w) ht hkk hz hkd q4 q5 q6 with ⟨v0,t',u,r1,r2,r3⟩|⟨r1,u,r2,r3⟩
    ·rw [fC r3];have same:∀ n,hget st.hp n=if id=n then some (.map V kk' l clock ev iv) else hget st.hp n:=by
      intro n;by_cases e:id=n
      ·subst e; simp [q1]
      ·simp [e]
     obtain ⟨k1,k2⟩:=nT h.hep same (fun n o' e=>⟨o',e⟩) q1 q2 (y:=.map es.toArray clock) ⟨q6,es,rfl,q5⟩;exact ⟨_,st,μ,he2.1 _ _ r1,rfl,k1,k2,tupR (lN k1 r2)⟩
    ·rw [fC r3];obtain ⟨W,ev',iv',l',v',hq,p1,p2,p3⟩:=yB h.hep.obj r2 q5 q6 (he2.2 r1);obtain ⟨s1,s2⟩:=q7 (.map W kk' (l'++[(kv,v',clock)]) (clock+1) ev' iv') rfl;obtain ⟨k1,k2⟩:=nT h.hep s1 s2 q1 q2 (y:=.map (es++[({ key:=kv.val,val:=u,born:=clock }:MapEntry)]).toArray (clock+1)) ⟨by
      intro x hx;rcases bM.1 hx with hx|hx
      ·exact p2 x hx
      ·simp at hx; subst hx; exact hkd,_,rfl,yR p1 ⟨_,[],rfl,rfl,p3,rfl,rfl⟩⟩
     exact ⟨_,_,μ,hq,rfl,k1,k2,tupR (lN k1 r2)⟩
   ·exact he.elim
  ·exact he.elim
 ·cases hc
theorem G5 {st:St} {a:Act} (h:dR C μ st a w) {g:Option (Nat×Bool)} (hg:GOk g a.tmps) {t:TypeId} {m k v:Operand} {dst:Option Tmp} {ty:TypeId} {pos:String} {after:Array Edge} {guard:Option (Nat×Bool)} {so:SOp}
  (hc:cOp P (.entryStore t m k v)=some so) {K:SV->St->Prop} (he:evM g st K so):Acts P C μ st.hp w st.fr K ((execOp a.eval ⟨dst,.entryStore t m k v,ty,pos,after,guard⟩).run P w):=by
 have gX:∀ {o:Operand} {x:SX},cX o=some x->R (aN C μ st.hp w) (gx g st.fr x) [a.eval o]:=fun hx=>pY hg h.fr hx;simp only [cOp,aF,aD] at hc;obtain ⟨m',hm,k',hk,v',hv,h3⟩:=hc;cases h3;simp only [evM] at he;split at he
 ·rename_i ik n hn;have hkr:=gX hk;rw [hn] at hkr;have hkey:a.eval k=.int ik n:=aC.1 hkr;split at he
  ·rename_i V kk' l clock ev iv ha;obtain ⟨id,b,c,es,q1,q2,q3,q4,q5,q6,q7⟩:=kU h.hep (gX hm) ha;obtain ⟨W,ev',iv',l',u,⟨tt,hnt,hex,hq⟩,p1,p2,p3⟩:=yB h.hep.obj (gX hv) q5 q6 he;obtain ⟨j,j1,j2⟩:=Oq p3 l' es p1 hex;simp only [execOp];rw [hkey,q3,hnt];have run:(Instr.entryStore t (.map (some b)) (.int ik (tt:Int)) (a.eval v)).run P w=.ok () (sM w b (.map (es.modify j fun e=>{ e with val:=a.eval v }).toArray clock)):=by
    unfold Instr.entryStore;simp only [Sem.run_bind,MapKept.run_getObj_map q4,Result.andThen_ok,Sem.run_pure,asInt,asIntOf,List.findIdx?_toArray,j1,MapKept.run_setObj_map _ q4];simp [sM]
   obtain ⟨s1,s2⟩:=q7 (.map W kk' (mset l' tt u) clock ev' iv') rfl;obtain ⟨k1,k2⟩:=nT h.hep s1 s2 q1 q2 (y:=.map (es.modify j fun e=>{ e with val:=a.eval v }).toArray clock) ⟨Ju p2,_,rfl,j2⟩;simp only [Sem.run_bind,run,Result.andThen_ok,Sem.run_pure];exact ⟨_,_,μ,hq,rfl,k1,k2,rfl⟩
  ·exact he.elim
 ·exact he.elim
theorem _root_.Go.Eng.bO.Df {hp hp':List (Nat×aT)} {nx n0:Nat} (h:bO C μ hp nx w) (hm:μ n0=none) (hn:FB<=n0) (o:Obj) (x:aT) (c:Nat)
  (hh:∀ n,hget hp' n=if n0=n then some x else hget hp n) (hk:∀ n o',get? hp' n=some o'->∃ o'',get? hp n=some o'')
  (hx:HR (aN C μ hp w) x c o) (hxo:∀ q,x≠.obj q:=by intro _ e; cases e):(aN C μ hp w).Le (aN C (upd μ n0 (w.heap.size,c)) hp' (w.alloc o))/\bO C (upd μ n0 (w.heap.size,c)) hp' nx (w.alloc o):=by
 have hE:=Gy (C:=C) (μ:=μ) (hp:=hp) (hp':=hp') (w:=w) o x c hm hh;refine ⟨hE,⟨?_,?_,?_,?_,?_,?_,fun id p e=>hE.μ _ _ (h.pin id p e),?_,?_⟩⟩
 ·refine ⟨?_,?_⟩
  ·intro id o' e;obtain ⟨o'',e'⟩:=hk _ _ e;exact h.obj.keys _ _ e'
  ·intro id o' ho';rw [hh] at ho';by_cases hid:n0=id
   ·subst hid;simp at ho';subst ho';exact ⟨w.heap.size,c,o,by simp [aN,upd],heap_alloc_new w o,hx.mono hE⟩
   ·simp [hid] at ho';obtain ⟨b,c',y,h1,h2,h3⟩:=h.obj.obj id o' ho';have hlt:b < w.heap.size:=(aS.1 h2).1;exact ⟨b,c',y,hE.μ _ _ h1,(Below.heap_alloc w o b hlt).trans h2,h3.mono hE⟩
 ·intro id id' o1 o2 b c1 c2 g1 g2 e1 e2;rw [hh] at g1 g2;by_cases h1:n0=id <;> by_cases h2:n0=id'
  ·exact h1.symm.trans h2
  ·subst h1;simp [h2] at g2;have n2:id'≠n0:=fun e=>h2 e.symm;simp [upd] at e1;simp [upd,n2] at e2;have:=h.lt g2 e2;omega
  ·subst h2;simp [h1] at g1;have n1:id≠n0:=fun e=>h1 e.symm;simp [upd] at e2;simp [upd,n1] at e1;have:=h.lt g1 e1;omega
  ·have n1:id≠n0:=fun e=>h1 e.symm;have n2:id'≠n0:=fun e=>h2 e.symm;simp [h1] at g1;simp [h2] at g2;simp [upd,n1] at e1;simp [upd,n2] at e2;exact h.inj _ _ _ _ _ _ _ g1 g2 e1 e2
 ·intro id o' b c' g e;rw [hh] at g;by_cases h1:n0=id
  ·subst h1;simp [upd] at e;exact .inr (e.1 ▸ h.frm.size)
  ·simp [h1] at g;have n1:id≠n0:=fun e=>h1 e.symm;simp [upd,n1] at e;exact h.mine _ _ _ _ g e
 ·intro id o' e;obtain ⟨o'',e'⟩:=hk _ _ e;exact h.keys _ _ e'
 ·intro id p e hlt;have h1:id≠n0:=by omega
  simp [upd,h1] at e;exact h.nx id p e hlt
 ·intro id p e hge;by_cases n1:n0=id
  ·exact ⟨x,by rw [hh,if_pos n1]⟩
  ·have n2:id≠n0:=fun e=>n1 e.symm;simp [upd,n2] at e;obtain ⟨o',ho'⟩:=h.fam id p e hge;exact ⟨o',by rw [hh,if_neg n1]; exact ho'⟩
 ·exact h.frm.trans (Frm.kY ((Below.refl _ _).alloc (aL _) _))
 ·intro id p q e hge g;rw [hh] at g;by_cases n1:n0=id
  ·rw [if_pos n1] at g;exact absurd (bK g) (hxo q)
  ·have n2:id≠n0:=fun e=>n1 e.symm;simp [upd,n2] at e;rw [if_neg n1] at g;exact h.pos id p q e hge g
theorem G7 {st:St} {a:Act} (h:dR C μ st a w) {g:Option (Nat×Bool)} {t:TypeId} {r:Option Operand} {dst:Option Tmp} {ty:TypeId} {pos:String} {after:Array Edge} {guard:Option (Nat×Bool)} {so:SOp}
  (hc:cOp P (.makeMap t r)=some so) {K:SV->St->Prop} (he:evM g st K so):Acts P C μ st.hp w st.fr K ((execOp a.eval ⟨dst,.makeMap t r,ty,pos,after,guard⟩).run P w):=by
 cases r with
 | some r=>simp [cOp] at hc
 | none =>
  simp only [cOp] at hc;split at hc
  ·simp only [aG] at hc;obtain ⟨kk,hk,rfl⟩:=hc;simp only [evM] at he;have run:(execOp a.eval ⟨dst,.makeMap t none,ty,pos,after,guard⟩).run P w=.ok (.value (.map (some w.heap.size))) (w.alloc (.map #[] 0)):=by
    simp [execOp,Instr.makeMap]
   rw [run];split at he
   ·cases hlt:Nat.blt st.nx FB with
    | false=>simp [hlt] at he
    | true =>
     simp only [hlt,cond_true] at he;obtain ⟨k1,k2⟩:=h.hep.alloc (lR hlt) (.map #[] 0) (.map SV kk [] 0 id some) rfl 0 ⟨by simp,[],rfl,rfl⟩;exact ⟨_,_,_,he,rfl,k1,k2,w.heap.size,0,by simp [aN,upd],rfl⟩
   ·rename_i d _;split at he
    ·rename_i f hf;obtain ⟨j,hj,he⟩:=he;have hd:=h.hep.obj.keys _ _ hf;have hm:μ (fid d j)=none:=by
      cases e:μ (fid d j) with
      | none=>rfl
      | some p =>
       obtain ⟨o,ho⟩:=h.hep.fam _ p e (dO d j);rw [kH hd hf,hj] at ho;cases ho
     obtain ⟨k1,k2⟩:=h.hep.Df (hp':=kK st.hp (.fmref d j) (.map SV kk [] 0 id some)) hm (dO d j) (.map #[] 0) (.map SV kk [] 0 id some) 0 (fun n=>by
      simp only [kK,hf];rw [gK];exact nC hd hf rfl n) (by
      simp only [kK,hf];exact gL hf) ⟨by simp,[],rfl,rfl⟩
     exact ⟨_,_,_,he,rfl,k1,k2,w.heap.size,0,by simp [aN,upd],rfl⟩
    ·exact he.elim
  ·cases hc
theorem Ex {st:St} {a:Act} (h:dR C μ st a w) {g:Option (Nat×Bool)} (hg:GOk g a.tmps) {t:TypeId} {m:Operand} {dst:Option Tmp} {ty:TypeId} {pos:String} {after:Array Edge} {guard:Option (Nat×Bool)} {so:SOp}
  (hc:cOp P (.range t m)=some so) {K:SV->St->Prop} (he:evM g st K so):Acts P C μ st.hp w st.fr K ((execOp a.eval ⟨dst,.range t m,ty,pos,after,guard⟩).run P w):=by
 have gX:∀ {o:Operand} {x:SX},cX o=some x->R (aN C μ st.hp w) (gx g st.fr x) [a.eval o]:=fun hx=>pY hg h.fr hx;simp only [cOp] at hc;split at hc
 ·rename_i kt et ht;simp only [aG] at hc;obtain ⟨m',hm,rfl⟩:=hc;simp only [evM] at he;cases hlt:Nat.blt st.nx FB with
  | false=>simp [hlt] at he
  | true =>
   simp only [hlt,cond_true] at he;have hmr:=gX hm;split at he
   ·rename_i hmv;rw [hmv] at hmr;have hmn:a.eval m=.map none:=aC.1 hmr;have run:(execOp a.eval ⟨dst,.range t m,ty,pos,after,guard⟩).run P w=.ok (.value (.pointer (some ⟨w.heap.size,0,none⟩))) (w.alloc (.mapIter none 0 #[] 0)):=by
     simp [execOp,Instr.range,hmn,aP w ht]
    rw [run];obtain ⟨k1,k2⟩:=h.hep.alloc (lR hlt) (.mapIter none 0 #[] 0) (.iter (.val (.map none)) 0 [] 0) rfl 0 ⟨none,rfl,rfl⟩;exact ⟨_,_,_,he,rfl,k1,k2,w.heap.size,0,by simp [aN,upd],rfl⟩
   ·split at he
    ·rename_i V kk' l clock ev iv ha;obtain ⟨id,b,c,es,q1,q2,q3,q4,q5,q6,q7⟩:=kU h.hep hmr ha;have run:(execOp a.eval ⟨dst,.range t m,ty,pos,after,guard⟩).run P w=.ok (.value (.pointer (some ⟨w.heap.size,0,none⟩))) (w.alloc (.mapIter (some b) clock #[] clock)):=by
      simp [execOp,Instr.range,q3,aP w ht,MapKept.run_getObj_map q4]
     rw [run];obtain ⟨k1,k2⟩:=h.hep.alloc (lR hlt) (.mapIter (some b) clock #[] clock) (.iter (gx g st.fr m') clock [] clock) rfl 0 ⟨some b,q3 ▸ hmr,rfl⟩;exact ⟨_,_,_,he,rfl,k1,k2,w.heap.size,0,by simp [aN,upd],rfl⟩
    ·exact he.elim
 ·cases hc
theorem bO.iter {hp:List (Nat×aT)} {nx:Nat} (h:bO C μ hp nx w) {id b c:Nat} {src:SV} {since last:Nat} {seen:List Nat} (hg:get? hp id=some (.iter src since seen last)) (hm:μ id=some (b,c)) :
  ∃ r,R (aN C μ hp w) src [.map r]/\w.heap[b]?=some (.mapIter r since seen.toArray last):=by
 obtain ⟨b',c',y,e1,e2,r,e3,e4⟩:=h.obj.obj id _ (h.get hg rfl);have e1':μ id=some (b',c'):=e1;rw [hm] at e1';cases e1';exact ⟨r,e3,e4 ▸ e2⟩
theorem G9 {st:St} {a:Act} (h:dR C μ st a w) {g:Option (Nat×Bool)} (hg:GOk g a.tmps) {it:Operand} {dst:Option Tmp} {ty:TypeId} {pos:String} {after:Array Edge} {guard:Option (Nat×Bool)} {so:SOp}
  (hc:cOp P (.next it false)=some so) {K:SV->St->Prop} (he:evM g st K so):Acts P C μ st.hp w st.fr K ((execOp a.eval ⟨dst,.next it false,ty,pos,after,guard⟩).run P w):=by
 have gX:∀ {o:Operand} {x:SX},cX o=some x->R (aN C μ st.hp w) (gx g st.fr x) [a.eval o]:=fun hx=>pY hg h.fr hx;simp only [cOp,aG] at hc;obtain ⟨it',hit,rfl⟩:=hc;simp only [evM] at he;split at he
 ·rename_i id hid;have hr:=gX hit;rw [hid] at hr;simp only [R] at hr;obtain ⟨b,c,m1,hv⟩:=hr;have hv':=aC.1 hv;have tup1:∀ {E:Env},R E (.tup (.cons (.bool false) .nil)) [.tuple #[.bool false]]:=⟨[.bool false],rfl,.bool false,[],rfl,rfl,rfl⟩;simp only [execOp];rw [hv'];split at he
  ·rename_i s1 s2 s3 hi;obtain ⟨r,r1,r2⟩:=h.hep.iter hi m1;have:r=none:=by simpa [R] using r1
   subst this;have run:(Instr.next (.pointer (some ⟨b,0,none⟩)) false ty).run P w=.ok (.tuple #[.bool false]) w:=by
    simp [Instr.next,getObj,Sem.run,r2]
   exact mE h.hep he tup1 (fC run)
  ·rename_i src since seen last _ hi;obtain ⟨r,r1,r2⟩:=h.hep.iter hi m1;split at he
   ·rename_i V kk l clock ev iv ha;obtain ⟨h1,h2,h3,h4⟩:=he;obtain ⟨id2,b2,c2,es,q1,q2,q3,q4,q5,q6,q7⟩:=kU h.hep r1 ha;have hr':r=some b2:=by simpa using q3
    subst hr';have hold:∀ x∈es.toArray.toList,x.born < since:=by
     intro e hE;obtain ⟨x,hx,_,_,hb⟩:=zZ q5 e (by simpa using hE);rw [hb]; exact h1 x hx
    rcases run_next_at (P:=P) w ty b b2 since last seen.toArray es.toArray clock r2 q4 hold h2 with ⟨hz,hrun⟩|⟨e,hE,w1,hw1,hrun⟩
    ·refine mE h.hep (h4 ?_) tup1 (fC hrun);intro x hx;obtain ⟨e,he,_,_,hb⟩:=B0 q5 x hx;have hem:(leftOf es.toArray seen.toArray)=#[]:=gE hz;unfold leftOf at hem;rw [Array.filter_eq_empty_iff] at hem;have:=hem e (by simpa using he);simpa [hb] using this
    ·have hem:e∈es/\e.born ∉ seen:=by
      unfold leftOf at hE;simpa using hE
     obtain ⟨x,hx,hk,hval,hb⟩:=zZ q5 e hem.1;have hw1B:Below w.heap.size w w1:=by
      rcases hw1 with rfl|rfl
      ·exact Below.refl _ _
      ·exact ⟨rfl,rfl,rfl,aL _,fun _ _=>rfl,DLe.of_le (iH _)⟩
     have hh1:=h.hep.below hw1B;have hE1:=kT (C:=C) (μ:=μ) (hp:=st.hp) hw1B;rw [fC hrun];have hsolid:=hh1.get hi rfl;obtain ⟨k1,k2⟩:=nT hh1 (hp':=gQ st.hp id (.iter src since (seen++[x.2.2]) clock)) (x:=.iter src since (seen++[x.2.2]) clock) (y:=.mapIter (some b2) since (seen.toArray.push e.born) clock)
      (fun n=>by rw [gK]; exact iW (hh1.obj.keys _ _ hi) rfl (fun f e=>by rw [hi] at e; cases e) n) (gL hi) hsolid m1 ⟨some b2,lN hE1 r1,by simp [hb]⟩
     refine ⟨_,_,μ,h3 x hx (by rw [<- hb]; exact hem.2),rfl,hE1.trans k1,k2,?_⟩;refine ⟨[.bool true,e.key,e.val],rfl,.bool true,[e.key,e.val],rfl,rfl,e.key,[e.val],rfl,?_,e.val,[],rfl,lN (hE1.trans k1) hval,rfl⟩;rw [hk];exact Gq _
   ·exact he.elim
  ·exact he.elim
 ·exact he.elim
theorem Ew {st:St} {a:Act} (h:dR C μ st a w) {g:Option (Nat×Bool)} (hg:GOk g a.tmps) {it:Operand} {dst:Option Tmp} {ty:TypeId} {pos:String} {after:Array Edge} {guard:Option (Nat×Bool)} {so:SOp}
  (hc:cOp P (.entry it)=some so) {K:SV->St->Prop} (he:evM g st K so):Acts P C μ st.hp w st.fr K ((execOp a.eval ⟨dst,.entry it,ty,pos,after,guard⟩).run P w):=by
 have gX:∀ {o:Operand} {x:SX},cX o=some x->R (aN C μ st.hp w) (gx g st.fr x) [a.eval o]:=fun hx=>pY hg h.fr hx;simp only [cOp,aG] at hc;obtain ⟨it',hit,rfl⟩:=hc;simp only [evM] at he;split at he
 ·rename_i id hid;have hr:=gX hit;rw [hid] at hr;simp only [R] at hr;obtain ⟨b,c,m1,hv⟩:=hr;have hv':=aC.1 hv;simp only [execOp];rw [hv'];split at he
  ·rename_i src since seen last hi;obtain ⟨r,r1,r2⟩:=h.hep.iter hi m1;split at he
   ·rename_i V kk l clock ev iv ha;obtain ⟨rfl,x,hx,huni,⟨s0,rfl⟩,hk⟩:=he;obtain ⟨id2,b2,c2,es,q1,q2,q3,q4,q5,q6,q7⟩:=kU h.hep r1 ha;have hr':r=some b2:=by simpa using q3
    subst hr';obtain ⟨e,hE,hkey,hval,hb⟩:=B0 q5 x hx
    -- the first entry with the stamp
    have hfind:∃ e',es.toArray.find? (fun y=>y.born == x.2.2)=some e'/\e'∈es/\e'.born=x.2.2:=by
     cases hf:es.toArray.find? (fun y=>y.born == x.2.2) with
     | none =>
      rw [Array.find?_eq_none] at hf;have:=hf e (by simpa using hE);simp [hb] at this
     | some e' =>
      have h1:=Array.find?_some hf;have h2:=Array.mem_of_find?_eq_some hf;exact ⟨e',rfl,by simpa using h2,by simpa using h1⟩
    obtain ⟨e',f1,f2,f3⟩:=hfind;obtain ⟨y,hy,hkey',hval',hb'⟩:=zZ q5 e' f2;have hyx:=huni y hy (hb'.symm.trans f3);subst hyx;have hback:(s0++[y.2.2]).toArray.back?=some y.2.2:=by simp
    have run:(Instr.entry (.pointer (some ⟨b,0,none⟩))).run P w=.ok (.tuple #[e'.key,e'.val]) w:=by
     simp only [Instr.entry,getObj,Sem.run_bind,Sem.run,r2,q4,Result.andThen,hback,bne_self_eq_false,dU,if_false,f1];rfl
    refine mE h.hep hk ?_ (fC run);refine ⟨[e'.key,e'.val],rfl,e'.key,[e'.val],rfl,?_,e'.val,[],rfl,hval',rfl⟩;rw [hkey'];exact Gq _
   ·exact he.elim
  ·exact he.elim
 ·exact he.elim
theorem G4 {st:St} {a:Act} (h:dR C μ st a w) {g:Option (Nat×Bool)} (hg:GOk g a.tmps) {al:List Operand} {tl:List TypeId} {dst:Option Tmp} {ty:TypeId} {pos:String} {after:Array Edge} {guard:Option (Nat×Bool)} {so:SOp}
  (hc:mQ P .delete al tl=some so) {K:SV->St->Prop} (he:evM g st K so):Acts P C μ st.hp w st.fr K ((execOp a.eval ⟨dst,.call ⟨.builtin .delete,al.toArray,tl.toArray⟩,ty,pos,after,guard⟩).run P w):=by
 have gX:∀ {o:Operand} {x:SX},cX o=some x->R (aN C μ st.hp w) (gx g st.fr x) [a.eval o]:=fun hx=>pY hg h.fr hx;simp only [mQ] at hc;split at hc
 ·rename_i m k t tr;split at hc
  ·rename_i kt et ht;simp only [aF,aD] at hc;obtain ⟨kk,hkk,m',hm,k',hk,h3⟩:=hc;cases h3;simp only [evM] at he;split at he
   ·rename_i kv hkv;obtain ⟨hkd,he⟩:=qE he;have hkey:=zM (gX hk) hkv;have hmr:=gX hm;have step:∀ {r:Result Value},(Builtin.delete_ (t::tr).toArray ty #[a.eval m,kv.val]).run P w=r ->
      (execOp a.eval ⟨dst,.call ⟨.builtin .delete,[m,k].toArray,(t::tr).toArray⟩,ty,pos,after,guard⟩).run P w=r.andThen fun v w'=>.ok (.value v) w':=by
     intro r hr;subst hr;simp [execOp,resolve,invoke,builtin,hkey]
    split at he
    ·rename_i hmv;rw [hmv] at hmr;have hmn:a.eval m=.map none:=aC.1 hmr;have run:(Builtin.delete_ (t::tr).toArray ty #[a.eval m,kv.val]).run P w=.ok (.tuple #[]) w:=by
      rw [hmn];unfold Builtin.delete_;simp [aP w ht,pD (w:=w) hkk hkd]
     rw [step run];exact mE h.hep he rfl rfl
    ·split at he
     ·rename_i V kk' l clock ev iv ha;obtain ⟨e1,he2⟩:=qE he;subst e1;clear he;obtain ⟨id,b,c,es,q1,q2,q3,q4,q5,q6,q7⟩:=kU h.hep hmr ha;obtain ⟨es',d1,d2⟩:=Iz (P:=P) (w:=w) ht hkk hkd q4 q5 q6 (t::tr).toArray (by simp) ty;rw [<- q3] at d2;rw [step d2];obtain ⟨s1,s2⟩:=q7 (.map V kk' (mdel l kv) clock ev iv) rfl;obtain ⟨k1,k2⟩:=nT h.hep s1 s2 q1 q2 (y:=.map es'.toArray clock) ⟨Js q6,es',rfl,d1⟩;exact ⟨_,_,μ,he2,rfl,k1,k2,rfl⟩
     ·exact he.elim
   ·exact he.elim
  ·cases hc
 ·cases hc
theorem J3 {st:St} {a:Act} (h:dR C μ st a w) {g:Option (Nat×Bool)} (hg:GOk g a.tmps) {m:Operand} {t kt et:TypeId} (ht:P.underlying t=some (.map kt et)) {dst:Option Tmp} {ty:TypeId} {pos:String} {after:Array Edge} {guard:Option (Nat×Bool)} {m':SX} (hm:cX m=some m')
  {K:SV->St->Prop} (he:evM g st K (.mlen m')):Acts P C μ st.hp w st.fr K ((execOp a.eval ⟨dst,.call ⟨.builtin .len,#[m],#[t]⟩,ty,pos,after,guard⟩).run P w):=by
 have hmr:=pY hg h.fr hm;simp only [evM] at he;have step:∀ {r:Result Value},(Builtin.len_ #[t] ty #[a.eval m]).run P w=r ->
   (execOp a.eval ⟨dst,.call ⟨.builtin .len,#[m],#[t]⟩,ty,pos,after,guard⟩).run P w=r.andThen fun v w'=>.ok (.value v) w':=by
  intro r hr;subst hr;simp [execOp,resolve,invoke,builtin]
 split at he
 ·rename_i hmv;rw [hmv] at hmr;have hmn:a.eval m=.map none:=aC.1 hmr;have run:(Builtin.len_ #[t] ty #[a.eval m]).run P w=.ok (goInt 0) w:=by
   rw [hmn];simp [Builtin.len_,aP w ht]
  rw [step run];exact mE h.hep he rfl rfl
 ·split at he
  ·rename_i V kk' l clock ev iv ha;obtain ⟨id,b,c,es,q1,q2,q3,q4,q5,q6,q7⟩:=kU h.hep hmr ha;have run:(Builtin.len_ #[t] ty #[a.eval m]).run P w=.ok (goInt (l.length:Int)) w:=by
    rw [q3];simp [Builtin.len_,aP w ht,MapKept.run_getObj_map q4,Fm q5]
   rw [step run];exact mE h.hep he rfl rfl
  ·exact he.elim
end
end Go.Eng
end
