/- A part of the proof. -/
import Derived.Test.YtpiolkcdfgiefaaGreatDoorEngDr
import Derived.Sort.LoopGhostIn
import Derived.RangeFuncRecord
section
namespace Go.Eng
open Go Go.RowKit
inductive bH where
 | skip
 | region (keep:List Nat) (ops:List fF)
 | drawn (keep:List Nat) (t:hZ)
 | seq (a b:bH)
 | cond (c:SX) (a b:bH)
 | block (id:Nat) (a:bH)
 | loop (i:Nat) (asg:List Nat) (a:bH)
 | exit (id:Nat)
 | ret
 | join (i:Nat) (asg:List Nat) (a:bH)
 | range (i:Nat) (f:SX) (gid:Nat) (g:bH) (gn:Nat) (ps:List Nat) (asgn body:bH)
 | rangeY (f:SX) (ps:List Nat) (asgn body:bH)
 deriving Repr
inductive vU where
 | normal
 | exit (id:Nat)
 | ret
structure Inv where
 X:Type
 I:X->Prop
 fr:X->List (Nat×SV)
 hp:X->List (Nat×aT):=fun _=>[]
 meas:X->Nat:=fun _=>0
def wI:List (Nat×SV)->(List (Nat×SV)->Prop)->Prop
 | [],k=>k []
 | (n,s)::r,k=>lH s fun s=>wI r fun l=>k ((n,s)::l)
def Jd {α:Type}:List (Nat×α)->Nat->Bool
 | [],_=>false
 | (k,_)::r,n=>bif Nat.beq k n then true else Jd r n
def qR (asg:List Nat) (new:List (Nat×SV)):List (Nat×SV)->(List (Nat×SV)->Prop)->Prop
 | [],k=>k new
 | (n,s)::r,k=>bif eE asg n then qR asg new r k else bif Jd new n then qR asg new r k else qR asg new r fun l=>k ((n,s)::l)
def wM:SV->List Nat->List Nat
 | .own h _,l=>h::l
 | .osl h _ _ _,l=>h::l
 | .lsl h _ _,l=>h::l
 | .oel h _ _ _,l=>h::l
 | .mref h,l=>h::l
 | .fown h _ _,l=>h::l
 | .fmref h _,l=>h::l
 | .flsl h _ _ _,l=>h::l
 | .foel h _ _ _ _,l=>h::l
 | .csl h _,l=>h::l
 | .yield h,l=>h::l
 | .cons a b,l=>wM b (wM a l)
 | .ints _ _ _ a,l=>wM a l
 | .agg a,l=>wM a l
 | .tup a,l=>wM a l
 | .fn _ a,l=>wM a l
 | _,l=>l
def sZ:List (Nat×SV)->List Nat->List Nat
 | [],l=>l
 | (_,s)::r,l=>sZ r (wM s l)
def pM (hp:List (Nat×aT)):List Nat->List Nat->List Nat
 | [],l=>l
 | i::r,l=>match get? hp i with
  | some (.cells _ a)=>pM hp r (wM a l)
  | some (.iter a _ _ _)=>pM hp r (wM a l)
  | _=>pM hp r l
def Wd:aT->Bool
 | .map _ _ _ _ _ _=>true
 | .fam _=>true
 | .hid _ _=>true
 | _=>false
def rR (ids:List Nat) (bnd:Nat) (new:List (Nat×aT)):List (Nat×aT)->(List (Nat×aT)->Prop)->Prop
 | [],k=>k []
 | (n,o)::r,k=>bif eE ids n || Wd o || Nat.blt n bnd then
   match get? new n with
   | some .gone=>rR ids bnd new r k
   | some o'=>rR ids bnd new r fun l=>k ((n,o')::l)
   | none=>rR ids bnd new r fun l=>k ((n,o)::l)
  else rR ids bnd new r k
def zC (hp0:List (Nat×aT)):List (Nat×aT)->List (Nat×aT)->Nat->(List (Nat×aT)->Nat->Prop)->Prop
 | [],l,nx,k=>k l nx
 | (n,o)::r,l,nx,k=>match get? hp0 n with
  | some _=>zC hp0 r l nx k
  | none=>match o with
   | .gone=>zC hp0 r l nx k
   | o=>bif Nat.blt n nx then zC hp0 r ((n,o)::l) nx k else zC hp0 r ((n,o)::l) (n+1) k
def oJ (bnd:Nat):List (Nat×aT)->List Nat
 | []=>[]
 | (n,_)::r=>bif Nat.blt n bnd then n::oJ bnd r else oJ bnd r
def lS:List Nat->List Nat->List Nat
 | [],acc=>acc
 | a::r,acc=>bif eE acc a then lS r acc else lS r (a::acc)
def vK:List Nat->List Nat->(List Nat->Prop)->Prop
 | [],acc,k=>k acc
 | a::r,acc,k=>iP a fun a=>bif eE acc a then vK r acc k else vK r (a::acc) k
theorem Nv:∀ (l acc:List Nat) (k:List Nat->Prop),vK l acc k=k (lS l acc):=by
 intro l;induction l with
 | nil=>intro acc k; rfl
 | cons a r ih =>
  intro acc k;simp only [vK,lS,kF,ih];cases eE acc a <;> rfl
def nP (bnd:Nat) (asg:List Nat) (st:St) (fr:List (Nat×SV)) (hp:List (Nat×aT)) (k:St->Prop):Prop :=
 match st with
 | ⟨fr0,hp0,nx⟩=>wI fr fun fr=>jQ hp fun hp=>qR asg fr fr0 fun fr' =>
  vK (sZ fr' (oJ bnd hp0)) [] fun i0=>vK (pM hp0 i0 (pM hp i0 i0)) [] fun i1=>vK (pM hp0 i1 (pM hp i1 i1)) [] fun i2 =>
  rR i2 bnd hp hp0 fun hp' =>
   zC hp0 hp hp' nx fun hp'' nx'=>k ⟨fr',hp'',nx'⟩
def oL:SV->Nat->List (Nat×SV)
 | .cons h t,n=>(n,unlab none h)::oL t (n+1)
 | _,_=>[]
def oG:SV->Nat->Prop
 | .nil,_=>True
 | .cons _ t,n+1=>oG t n
 | _,_=>False
def xB:List Nat->SV->List (Nat×SV)->(List (Nat×SV)->Prop)->Prop
 | [],.nil,fr,k=>k fr
 | p::r,.cons h t,fr,k=>lH h fun s=>xB r t ((p,s)::fr) k
 | _,_,_,_=>False
def oM (d:Nat):List (Nat×aT)->Bool
 | []=>true
 | (_,.hid l _)::r=>bif Nat.blt l d then oM d r else false
 | _::r=>oM d r
def E3:vU->Nat
 | .normal=>0
 | .ret=>2
 | .exit id=>id+3
def vL:vU->Bool
 | .normal=>true
 | _=>false
def evC:bH->Tb->St->(vU->St->Prop)->Prop
 | .skip,_,st,k=>k .normal st
 | .region keep ops,T,st,k=>uG T ops [] st fun st'=>match st' with
  | ⟨fr0,hp,nx⟩=>qJ fr0 keep fun fr=>k .normal ⟨fr,hp,nx⟩
 | .drawn keep t,T,st,k=>match st with
  | ⟨fr,hp,nx⟩=>evD T t fr hp nx fun st'=>match st' with
   | ⟨fr0,hp,nx⟩=>qJ fr0 keep fun fr=>k .normal ⟨fr,hp,nx⟩
 | .seq a b,T,st,k=>evC a T st fun e st' =>
  match e with
  | .normal=>evC b T st' k
  | .exit id=>k (.exit id) st'
  | .ret=>k .ret st'
 | .cond c a b,T,st,k =>
  match c with
  | .c (.bool true)=>evC a T st k
  | .c (.bool false)=>evC b T st k
  | .c _=>False
  | .s n=>match look st.fr n with
   | .bool p=>(p=true->evC a T st k)/\(p=false->evC b T st k)
   | _=>False
 | .block id a,T,st,k=>evC a T st fun e st' =>
  match e with
  | .normal=>k .normal st'
  | .exit j=>bif Nat.beq j id then k .normal st' else k (.exit j) st'
  | .ret=>k .ret st'
 | .loop _i asg a,T,st,k =>
  ∃ V:Inv,∃ x:V.X,V.I x/\nP T.bnd asg st (V.fr x) (V.hp x) (fun h=>mM T.np T.bnd st h) /\
   ∀ x,V.I x->nP T.bnd asg st (V.fr x) (V.hp x) fun h=>stF h fun h=>evC a T h fun e st' =>
    match e with
    | .normal=>∃ x',V.I x'/\nP T.bnd asg st (V.fr x') (V.hp x') (fun h'=>mM T.np T.bnd st' h')/\V.meas x' < V.meas x
    | .exit id=>k (.exit id) st'
    | .ret=>k .ret st'
 | .exit id,_,st,k=>k (.exit id) st
 | .ret,_,st,k=>k .ret st
 | .join _i asg a,T,st,k =>
  ∃ V:Inv,(evC a T st fun e st' =>
   match e with
   | .normal=>∃ x,V.I x/\nP T.bnd asg st (V.fr x) (V.hp x) (fun h=>mM T.np T.bnd st' h)
   | .exit id=>k (.exit id) st'
   | .ret=>k .ret st') /\
  ∀ x,V.I x->nP T.bnd asg st (V.fr x) (V.hp x) fun h=>stF h fun h=>k .normal h
 | .range _i f gid g gn ps asgn body,T,st,k =>
  match gx none st.fr f with
  | .fn kf caps=>bif Nat.beq kf gid && Nat.blt kf FM then bif Nat.blt st.nx FB then
    match st with
    | ⟨fr,hp,nx⟩=>oG (.cons (.yield nx) caps) gn /\
     evC g
      ⟨T.fs,(T.dep,fun id np bnd dep args hp' nx' K =>
       match get? hp' id with
       | some (.hid l 0)=>bif Nat.beq l T.dep then
         xB ps args fr fun fr1=>evC asgn ⟨T.fs,T.ys,np,bnd,dep⟩ ⟨fr1,hp',nx'⟩ fun e st1 =>
          match e with
          | .normal=>match st1 with
           | ⟨fr2,hp2,nx2⟩=>match get? hp2 id with
            | some (.hid l 0)=>bif Nat.beq l T.dep then
              pU hp2 id (.hid T.dep 1) fun hp3=>evC body ⟨T.fs,T.ys,np,bnd,dep⟩ ⟨fr2,hp3,nx2⟩ fun e st2 =>
               match st2 with
               | ⟨_,hp4,nx4⟩=>match get? hp4 id with
                | some (.hid l 1)=>bif Nat.beq l T.dep then pU hp4 id (.hid T.dep (E3 e)) fun hp5=>K (vL e) hp5 nx4 else False
                | _=>False
             else False
            | _=>False
          | _=>False
        else False
       | _=>False)::T.ys,fN hp,nx+1,T.dep+1⟩
      ⟨oL (.cons (.yield nx) caps) 0,(nx,.hid T.dep 0)::hp,nx+1⟩ fun e st' =>
       match e with
       | .exit _=>False
       | _=>match st' with
        | ⟨_,hp',nx'⟩=>bif oM T.dep (drop? hp' nx) then
         match get? hp' nx with
         | some (.hid l pd)=>bif Nat.beq l T.dep then
           match pd with
           | 0=>k .normal ⟨fr,drop? hp' nx,nx'⟩
           | 1=>False
           | 2=>k .ret ⟨fr,drop? hp' nx,nx'⟩
           | n+3=>k (.exit n) ⟨fr,drop? hp' nx,nx'⟩
          else False
         | _=>False
        else False
   else False else False
  | _=>False
 | .rangeY f ps asgn body,T,st,k =>
  match gx none st.fr f with
  | .fn kf caps=>bif Nat.blt kf FM && Nat.blt st.nx FB then
    match get? T.fs kf with
    | some (.y S)=>match st with
     | ⟨fr,hp,nx⟩=>bif hid0s hp then
       ∃ x:S.X,∃ V:Nc,Jj hp (S.F0 x)/\S.pre x/\sub .y ((nx,.hid T.dep 0)::hp) 200 caps (S.args x)/\rH (S.F0 x)/\(∀ z,S.post x z->rH (S.F1 x z)) /\
        (∀ v,(qP hp (V.hp v) && qP (V.hp v) hp && oM T.dep (V.hp v) && Ct nx (V.hp v))=true) /\
        (∀ g,∃ v,V.I 0 v/\jQ (gQ ((nx,.hid T.dep 0)::hp) 0 (.fam (cY g))) fun h0=>jQ ((0,.fam (cY g))::(nx,.hid T.dep 0)::V.hp v) fun h1 =>
         mM (fN hp) (nx+1) ⟨[],h0,nx+1⟩ ⟨[],h1,V.nx⟩) /\
        (∀ i v g item,V.I i v->(S.items x)[i]?=some item->isL item=true/\jQ ((0,.fam (cY g))::(nx,.hid T.dep 0)::V.hp v) fun h0 =>
         (fun (id:Nat) (np:List Nat) (bnd dep:Nat) (args:SV) (hp':List (Nat×aT)) (nx':Nat) (K:Bool->List (Nat×aT)->Nat->Prop) =>
          match get? hp' id with
          | some (.hid l 0)=>bif Nat.beq l T.dep then
            xB ps args fr fun fr1=>evC asgn ⟨T.fs,T.ys,np,bnd,dep⟩ ⟨fr1,hp',nx'⟩ fun e st1 =>
             match e with
             | .normal=>match st1 with
              | ⟨fr2,hp2,nx2⟩=>match get? hp2 id with
               | some (.hid l 0)=>bif Nat.beq l T.dep then
                 pU hp2 id (.hid T.dep 1) fun hp3=>evC body ⟨T.fs,T.ys,np,bnd,dep⟩ ⟨fr2,hp3,nx2⟩ fun e st2 =>
                  match st2 with
                  | ⟨_,hp4,nx4⟩=>match get? hp4 id with
                   | some (.hid l 1)=>bif Nat.beq l T.dep then pU hp4 id (.hid T.dep (E3 e)) fun hp5=>K (vL e) hp5 nx4 else False
                   | _=>False
                else False
               | _=>False
             | _=>False
           else False
          | _=>False) nx (fN h0) V.nx (T.dep+1) item h0 V.nx fun go hp' nx'=>go=true/\∃ v',V.I (i+1) v'/\jQ ((0,.fam (cY g))::(nx,.hid T.dep 0)::V.hp v') fun h1 =>
           mM (fN hp) (nx+1) ⟨[],hp',nx'⟩ ⟨[],h1,V.nx⟩) /\
        ∀ z v,S.post x z->V.I (S.items x).length v->jQ ((0,.fam (S.F1 x z))::V.hp v) fun h1=>k .normal ⟨fr,h1,V.nx⟩
      else False
    | _=>False
   else False
  | _=>False
def dsts:List Oper->List Nat
 | []=>[]
 | o::r=>match o.dst with
  | some d=>d::dsts r
  | none=>dsts r
def asgs:Code->List Nat
 | .region _ ops _=>dsts ops.toList
 | .seq a b=>asgs a++asgs b
 | .cond _ a b=>asgs a++asgs b
 | .block _ a=>asgs a
 | .loop a=>asgs a
 | .scope a=>asgs a
 | _=>[]
def dedup:List Nat->List Nat
 | []=>[]
 | x::r=>let l:=dedup r; bif eE l x then l else x::l
def nU:bH->Nat
 | .seq a b=>nU a+nU b
 | .cond _ a b=>nU a+nU b
 | .block _ a=>nU a
 | .loop _ _ a=>nU a+1
 | .join _ _ a=>nU a+1
 | .range _ _ _ g _ _ a b=>nU g+nU a+nU b+1
 | .rangeY _ _ a b=>nU a+nU b+1
 | _=>0
def qU (n:Nat):List Nat->Bool
 | []=>true
 | p::r=>bif Nat.blt p n then qU n r else false
def kQ (P:Program) (n:Nat) (G:List Nat) (joins:List Nat) (hint:List Nat) (rg:List (Nat×Nat×bH×Nat)):Code->Nat×Nat->Option (bH×Nat×Nat)
 | .skip,c=>some (.skip,c)
 | .region _ ops false,c=>match mX P n ops.toList ops.toList with
  | some l=>some (.region G l,c)
  | none=>none
 | .region id ops true,c=>match B9 P n hint ops.toList with
  | some t=>bif eE joins (1000000+id) then some (.join c.1 (dedup (dsts ops.toList)) (.drawn G t),(c.1+1,c.2)) else some (.drawn G t,c)
  | none=>match xM P n hint ops.toList with
   | some (t,so)=>some (.seq (.drawn (dedup (G++so.flatMap kZ)) t) (.region G so),c)
   | none=>none
 | .seq a b,c=>match kQ P n G joins hint rg a c with
  | some (a',c)=>match kQ P n G joins hint rg b c with
   | some (b',c)=>some (.seq a' b',c)
   | none=>none
  | none=>none
 | .cond x a b,(i,j)=>match cX x with
  | some x'=>match kQ P n G joins hint rg a (bif eE joins j then i+1 else i,j+1) with
   | some (a',c)=>match kQ P n G joins hint rg b c with
    | some (b',c)=>some (bif eE joins j then .join i (dedup (asgs a++asgs b)) (.cond x' a' b') else .cond x' a' b',c)
    | none=>none
   | none=>none
  | none=>none
 | .block id a,c=>match kQ P n G joins hint rg a c with
  | some (a',c)=>some (.block id a',c)
  | none=>none
 | .loop a,(i,j)=>match kQ P n G joins hint rg a (i+1,j) with
  | some (a',c)=>some (.loop i (dedup (asgs a)) a',c)
  | none=>none
 | .scope a,c=>kQ P n G joins hint rg a c
 | .label _,c=>some (.skip,c)
 | .exit id,c=>some (.exit id,c)
 | .ret,c=>some (.ret,c)
 | .rangeFunc f ps a b,(i,j)=>match cX f with
  | some f'=>match get? rg i with
   | some (gid,g,gn)=>match kQ P n G joins hint rg a (i+1+nU g,j) with
    | some (a',c)=>match kQ P n G joins hint rg b c with
     | some (b',c)=>bif qU n ps.toList then some (.range i f' gid g gn ps.toList a' b',c) else none
     | none=>none
    | none=>none
   | none=>match kQ P n G joins hint rg a (i+1,j) with
    | some (a',c)=>match kQ P n G joins hint rg b c with
     | some (b',c)=>bif qU n ps.toList then some (.rangeY f' ps.toList a' b',c) else none
     | none=>none
    | none=>none
  | none=>none
 | _,_=>none
inductive Tr (P:Program):Nat->Code->bH->Prop where
 | skip {n}:Tr P n .skip .skip
 | region {n G id ops l}:mX P n ops.toList ops.toList=some l->Tr P n (.region id ops false) (.region G l)
 | drawn {n G id hint ops t}:B9 P n hint ops.toList=some t->Tr P n (.region id ops true) (.drawn G t)
 | drawnL {n G G' id hint ops t so}:xM P n hint ops.toList=some (t,so)->Tr P n (.region id ops true) (.seq (.drawn G' t) (.region G so))
 | seq {n a b a' b'}:Tr P n a a'->Tr P n b b'->Tr P n (.seq a b) (.seq a' b')
 | cond {n x a b x' a' b'}:cX x=some x'->Tr P n a a'->Tr P n b b'->Tr P n (.cond x a b) (.cond x' a' b')
 | join {n c i asg a}:Tr P n c a->Tr P n c (.join i asg a)
 | block {n id a a'}:Tr P n a a'->Tr P n (.block id a) (.block id a')
 | loop {n i asg a a'}:Tr P n a a'->Tr P n (.loop a) (.loop i asg a')
 | scope {n a a'}:Tr P n a a'->Tr P n (.scope a) a'
 | label {n l}:Tr P n (.label l) .skip
 | exit {n id}:Tr P n (.exit id) (.exit id)
 | ret {n}:Tr P n .ret .ret
 | range {n i f f' gid g gn ps a b a' b' fn cg} : cX f = some f' -> P.funcs[gid]? = some fn -> (fn.name == "runtime.NumGoroutine") = false -> fn.body = some cg -> fn.ntmps = gn -> fn.results.toList = [] -> Tr P gn cg g ->
   qU n ps.toList=true->Tr P n a a'->Tr P n b b'->Tr P n (.rangeFunc f ps a b) (.range i f' gid g gn ps.toList a' b')
 | rangeY {n f f' ps a b a' b'}:cX f=some f'->qU n ps.toList=true->Tr P n a a'->Tr P n b b'->Tr P n (.rangeFunc f ps a b) (.rangeY f' ps.toList a' b')
def lP (P:Program) (rg:List (Nat×Nat×bH×Nat)):Prop :=
 ∀ i gid g gn, get? rg i = some (gid, g, gn) -> ∃ fn cg, P.funcs[gid]? = some fn /\ (fn.name == "runtime.NumGoroutine") = false /\ fn.body = some cg /\ fn.ntmps = gn /\ fn.results.toList = [] /\ Tr P gn cg g
theorem Fv {P:Program} {n:Nat} {G joins hint:List Nat} {rg:List (Nat×Nat×bH×Nat)} (hrg:lP P rg):∀ (c:Code) (sc:bH) (p q:Nat×Nat),kQ P n G joins hint rg c p=some (sc,q)->Tr P n c sc:=by
 intro c;induction c with
 | skip=>intro sc p q h; simp only [kQ,aJ,cD] at h; rw [<- h.1]; exact .skip
 | exit id=>intro sc p q h; simp only [kQ,aJ,cD] at h; rw [<- h.1]; exact .exit
 | label l=>intro sc p q h; simp only [kQ,aJ,cD] at h; rw [<- h.1]; exact .label
 | scope a ih=>intro sc p q h; exact .scope (ih sc p q h)
 | ret=>intro sc p q h; simp only [kQ,aJ,cD] at h; rw [<- h.1]; exact .ret
 | region id ops draws =>
  intro sc p q h;cases draws with
  | true =>
   simp only [kQ] at h;split at h
   ·rename_i t ht;cases hj:eE joins (1000000+id) with
    | true =>
     simp only [hj,cond_true,aJ,cD] at h;rw [<- h.1];exact .join (.drawn ht)
    | false =>
     simp only [hj,cond_false,aJ,cD] at h;rw [<- h.1];exact .drawn ht
   ·split at h
    ·rename_i t so ht;simp only [aJ,cD] at h;rw [<- h.1];exact .drawnL ht
    ·cases h
  | false =>
   simp only [kQ] at h;split at h
   ·rename_i l hl;simp only [aJ,cD] at h;rw [<- h.1];exact .region hl
   ·cases h
 | seq x y ihx ihy =>
  intro sc p q h;simp only [kQ] at h;split at h
  ·rename_i x' c1 hx;split at h
   ·rename_i y' c2 hy;simp only [aJ,cD] at h;rw [<- h.1];exact .seq (ihx _ _ _ hx) (ihy _ _ _ hy)
   ·cases h
  ·cases h
 | cond x y z ihy ihz =>
  intro sc p q h;obtain ⟨i,j⟩:=p;simp only [kQ] at h;split at h
  ·rename_i x' hx;split at h
   ·rename_i y' c1 hy;split at h
    ·rename_i z' c2 hz;simp only [aJ,cD] at h;obtain ⟨h,_⟩:=h;have ht:=Tr.cond hx (ihy _ _ _ hy) (ihz _ _ _ hz);cases hj:eE joins j with
     | false=>simp only [hj,cond_false] at h; rw [<- h]; exact ht
     | true=>simp only [hj,cond_true] at h; rw [<- h]; exact .join ht
    ·cases h
   ·cases h
  ·cases h
 | block id x ih =>
  intro sc p q h;simp only [kQ] at h;split at h
  ·rename_i x' c1 hx;simp only [aJ,cD] at h;rw [<- h.1];exact .block (ih _ _ _ hx)
  ·cases h
 | loop x ih =>
  intro sc p q h;obtain ⟨i,j⟩:=p;simp only [kQ] at h;split at h
  ·rename_i x' c1 hx;simp only [aJ,cD] at h;rw [<- h.1];exact .loop (ih _ _ _ hx)
  ·cases h
 | rangeFunc f ps a b iha ihb =>
  intro sc p q h;obtain ⟨i,j⟩:=p;simp only [kQ] at h;split at h
  ·rename_i f' hf;split at h
   ·rename_i gid g gn hg;split at h
    ·rename_i a' c1 ha;split at h
     ·rename_i b' c2 hb;cases hl:qU n ps.toList with
      | false=>simp [hl] at h
      | true =>
       simp only [hl,cond_true,aJ,cD] at h;rw [<- h.1];obtain ⟨fn,cg,h1,h2,h3,h4,h5,h6⟩:=hrg _ _ _ _ hg;exact .range hf h1 h2 h3 h4 h5 h6 hl (iha _ _ _ ha) (ihb _ _ _ hb)
     ·cases h
    ·cases h
   ·split at h
    ·rename_i a' c1 ha;split at h
     ·rename_i b' c2 hb;cases hl:qU n ps.toList with
      | false=>simp [hl] at h
      | true =>
       simp only [hl,cond_true,aJ,cD] at h;rw [<- h.1];exact .rangeY hf hl (iha _ _ _ ha) (ihb _ _ _ hb)
     ·cases h
    ·cases h
  ·cases h
 | _=>intro sc p q h; simp [kQ] at h
section
variable {P:Program} {C:Ctx} {ro:Option Nat}
def Stands (C:Ctx) (st:St) (a:Act) (w:World):Prop:=(∃ μ,dR C μ st a w)/\iU st.fr []
def Ea:vU->Exit
 | .normal=>.normal
 | .exit id=>.exit id
 | .ret=>.ret
universe u v
def Det {α:Type u} (F:(α->Prop)->Prop):Prop:=(∃ x,∀ k,F k ↔ k x)\/∀ k,¬ F k
theorem Det.comp {α:Type u} {β:Type v} {F:(α->Prop)->Prop} {G:α->(β->Prop)->Prop} (hF:Det F) (hG:∀ x,Det (G x)):Det fun k=>F fun x=>G x k:=by
 rcases hF with ⟨x,hx⟩|hx
 ·rcases hG x with ⟨y,hy⟩|hy
  ·exact .inl ⟨y,fun k=>(hx _).trans (hy k)⟩
  ·exact .inr fun k h=>hy k ((hx _).1 h)
 ·exact .inr fun k h=>hx _ h
theorem Det.map {α:Type u} {β:Type v} {F:(α->Prop)->Prop} (hF:Det F) (g:α->β):Det fun k=>F fun x=>k (g x) :=
 hF.comp (G:=fun x k=>k (g x)) fun x=>.inl ⟨g x,fun _=>dP⟩
theorem Det.pure {α:Type u} (x:α):Det fun k=>k x:=.inl ⟨x,fun _=>dP⟩
theorem F5 (s:SV):Det (lH s):=by
 unfold lH;simp only [gA];cases s <;> first
  | exact .inl ⟨_,fun _=>dP⟩
  | exact .inr fun _ h=>h
theorem Fz:∀ l,Det (wI l):=by
 intro l;induction l with
 | nil=>exact .pure _
 | cons p r ih =>
  obtain ⟨n,s⟩:=p;exact Det.comp (F:=lH s) (F5 s) fun s=>Det.map ih fun l=>(n,s)::l
theorem I0 (asg:List Nat) (new:List (Nat×SV)):∀ l,Det (qR asg new l):=by
 intro l;induction l with
 | nil=>exact .pure _
 | cons p r ih =>
  obtain ⟨n,s⟩:=p;cases h1:eE asg n with
  | true=>simp only [funext (fun k=>qR.eq_2 asg new k n s r),h1,cond_true]; exact ih
  | false =>
   cases h2:Jd new n with
   | true=>simp only [funext (fun k=>qR.eq_2 asg new k n s r),h1,h2,cond_true,cond_false]; exact ih
   | false=>simp only [funext (fun k=>qR.eq_2 asg new k n s r),h1,h2,cond_false]; exact Det.map ih fun l=>(n,s)::l
theorem I1 (ids:List Nat) (bnd:Nat) (new:List (Nat×aT)):∀ l,Det (rR ids bnd new l):=by
 intro l;induction l with
 | nil=>exact .pure _
 | cons p r ih =>
  obtain ⟨n,s⟩:=p;have e:=funext (fun k=>rR.eq_2 ids bnd new k n s r);cases h1:eE ids n || Wd s || Nat.blt n bnd with
  | false=>rw [e]; simp only [h1,cond_false]; exact ih
  | true =>
   rw [e]; simp only [h1,cond_true];split
   ·exact ih
   ·rename_i o' _ _; exact Det.map ih fun l=>(n,o')::l
   ·exact Det.map ih fun l=>(n,s)::l
theorem Nn (hp0:List (Nat×aT)):∀ (new l:List (Nat×aT)) (nx:Nat),Det (α:=List (Nat×aT)×Nat) fun k=>zC hp0 new l nx fun a b=>k (a,b):=by
 intro new;induction new with
 | nil=>intro l nx; exact .inl ⟨(l,nx),fun _=>dP⟩
 | cons p r ih =>
  intro l nx;obtain ⟨n,o⟩:=p;simp only [zC];split
  ·exact ih _ _
  ·split
   ·exact ih _ _
   ·cases Nat.blt n nx with
    | true=>simp only [cond_true]; exact ih _ _
    | false=>simp only [cond_false]; exact ih _ _
theorem xP (bnd:Nat) (asg:List Nat) (st:St) (fr:List (Nat×SV)) (hp:List (Nat×aT)):Det (nP bnd asg st fr hp):=by
 obtain ⟨fr0,hp0,nx0⟩:=st;have e:nP bnd asg ⟨fr0,hp0,nx0⟩ fr hp=fun k=>wI fr fun fr=>qR asg fr fr0 fun fr' =>
   rR (lS (pM hp0 (lS (pM hp0 (lS (sZ fr' (oJ bnd hp0)) []) (pM hp (lS (sZ fr' (oJ bnd hp0)) []) (lS (sZ fr' (oJ bnd hp0)) []))) []) (pM hp (lS (pM hp0 (lS (sZ fr' (oJ bnd hp0)) []) (pM hp (lS (sZ fr' (oJ bnd hp0)) []) (lS (sZ fr' (oJ bnd hp0)) []))) []) (lS (pM hp0 (lS (sZ fr' (oJ bnd hp0)) []) (pM hp (lS (sZ fr' (oJ bnd hp0)) []) (lS (sZ fr' (oJ bnd hp0)) []))) []))) []) bnd hp hp0 fun hp'=>zC hp0 hp hp' nx0 fun hp'' nx'=>k ⟨fr',hp'',nx'⟩:=by
  funext k;simp only [nP,pJ,Nv]
 rw [e];refine Det.comp (F:=wI fr) (Fz fr) fun fr=>?_;refine Det.comp (F:=qR asg fr fr0) (I0 _ _ _) fun fr'=>?_;refine Det.comp (F:=rR _ bnd hp hp0) (I1 _ _ _ _) fun hp'=>?_;exact Det.map (Nn hp0 hp hp' nx0) fun x=>(⟨fr',x.1,x.2⟩:St)
theorem Je {bnd:Nat} {asg:List Nat} {st:St} {fr:List (Nat×SV)} {hp:List (Nat×aT)} {k1 k2:St->Prop} (h1:nP bnd asg st fr hp k1) (h2:nP bnd asg st fr hp k2):∃ st',k1 st'/\k2 st':=by
 rcases xP bnd asg st fr hp with ⟨x,hx⟩|hx
 ·exact ⟨x,(hx _).1 h1,(hx _).1 h2⟩
 ·exact (hx _ h1).elim
end
end Go.Eng
end
section
namespace Go.Eng
open Go Go.RowKit
variable {P:Program}
theorem vJ {f:Nat->aT} {h:Nat}:∀ {hp:List (Nat×aT)},get? hp h=some (.fam f)->h∈fN hp:=by
 intro hp;induction hp with
 | nil=>intro e; cases e
 | cons p r ih =>
  obtain ⟨n,o⟩:=p;intro e;rw [get?_cons] at e;by_cases hn:n=h
  ·rw [if_pos hn] at e;cases e;simp [fN,hn]
  ·rw [if_neg hn] at e;have:=ih e;cases o <;> simp [fN,this]
theorem bO.to {C C':Ctx} {μ:Nat->Option (Nat×Nat)} {hp:List (Nat×aT)} {nx:Nat} {w:World} (h:bO C μ hp nx w) (h1:C'.w0=C.w0) (h2:C'.T=C.T) (h3:C'.U0=C.U0) (hH:∀ l p o,C.H l p o->C'.H l p o)
  (hp':∀ id p,C'.pin id=some p->μ id=some p):bO C' μ hp nx w/\(aN C μ hp w).Le (aN C' μ hp w):=by
 have hU:∀ b,Ufor C μ hp w b->Ufor C' μ hp w b:=by
  rintro b ⟨a1,a2,a3,a4⟩;exact ⟨a1,by unfold Ctx.B at *; rw [h1,h2,h3]; exact a2,a3,a4⟩
 have hE:(aN C μ hp w).Le (aN C' μ hp w):=⟨⟨⟨hU,fun _ _=>rfl⟩,fun _ _ e=>e⟩,Kd.refl _,hH⟩;refine ⟨⟨⟨h.obj.keys,?_⟩,h.inj,?_,h.keys,h.nx,h.fam,hp',?_,h.pos⟩,hE⟩
 ·intro id o ho;obtain ⟨b,c,x,e1,e2,e3⟩:=h.obj.obj id o ho;exact ⟨b,c,x,e1,e2,e3.mono hE⟩
 ·intro id o b c g e;rw [h1,h2];exact h.mine id o b c g e
 ·rw [h1,h2]; exact h.frm
structure Shut (base w w':World):Prop where
 os:w'.os=w.os
 tape:w'.tape=w.tape
 output:w'.output=w.output
 size:w'.heap.size=w.heap.size
 block:∀ b,b < base.heap.size->w'.heap[b]?=w.heap[b]?
 plain:∀ b,Ii w b->w'.heap[b]?=w.heap[b]?
 drawn:DLe w w'
theorem Shut.refl (base w:World):Shut base w w:=⟨rfl,rfl,rfl,rfl,fun _ _=>rfl,fun _ _=>rfl,DLe.of_le (aL _)⟩
theorem Shut.trans {base a b c:World} (h:Shut base a b) (k:Shut base b c):Shut base a c :=
 ⟨k.os.trans h.os,k.tape.trans h.tape,k.output.trans h.output,k.size.trans h.size,fun i hi=>(k.block i hi).trans (h.block i hi),
  fun i hi=>(k.plain i (fun ds e=>hi ds ((h.plain i hi).symm.trans e))).trans (h.plain i hi),h.drawn.trans k.drawn⟩
theorem Ml {fn:Func} {tmps:Array Value} {R:Ending->World->Prop} {base:World}:∀ (ds:List Deferred) (w:World),sN base w ds ->
  (∀ w',Shut base w w'->∃ v,(results fn tmps).run P w'=.ok v w'/\R (.returned v) w')->LeavesInM Fence.wide 0 P fn tmps R ds .returning w:=by
 intro ds;induction ds with
 | nil=>intro w _ h; exact h w (.refl _ _)
 | cons d ds ih =>
  intro w hd h;obtain ⟨D,rfl,hD,hk⟩:=hd.2 d (aQ ..);refine ⟨by simp,.inl ⟨D,_,rfl,run_takeDeferred hk,?_⟩⟩;have hsh:Shut base w (w.putObj D (.deferred none)):=by
   refine ⟨rfl,rfl,rfl,by simp,fun b hb=>World.putObj_heap_other (by omega),fun b hb=>World.putObj_heap_other ?_,DLe.of_le (aL _)⟩;rintro rfl;exact hb _ hk
  refine ih _ ⟨(bD.1 hd.1).2,?_⟩ fun w' hw'=>h w' (hsh.trans hw');intro d' hd';obtain ⟨D',e1,e2,e3⟩:=hd.2 d' (aK _ hd');refine ⟨D',e1,e2,(World.putObj_heap_other ?_).trans e3⟩;rintro rfl;have:=(bD.1 hd.1).1 d' hd';rw [e1] at this;exact this rfl
theorem Kd.shut {base w w':World} (h:Kd base w) (hs:Shut base w w'):Kd base w':=by
 have lt:∀ {b:Nat} {o:Obj},base.heap[b]?=some o->b < base.heap.size:=fun e=>(aS.1 e).1;refine ⟨by rw [hs.size]; exact h.size,fun b r e=>?_,fun b ds e=>?_,fun b hb hp=>(h.plain b hb hp).same (hs.block b hb)⟩
 ·obtain ⟨r',e'⟩:=h.loop b r e;exact ⟨r',(hs.block b (lt e)).trans e'⟩
 ·exact (hs.block b (lt e)).trans (h.dfr b ds e)
theorem bO.shut {C:Ctx} {μ:Nat->Option (Nat×Nat)} {hp:List (Nat×aT)} {nx:Nat} {base w w':World} (h:bO C μ hp nx w) (hs:Shut base w w') (hb:C.w0.heap.size<=base.heap.size) :
  bO C μ hp nx w'/\(aN C μ hp w).LeR (aN C μ hp w'):=by
 have hE:(aN C μ hp w).LeR (aN C μ hp w'):=by
  refine ⟨⟨?_,fun b hb=>hs.plain b hb.2.2.2.d⟩,fun _ _ e=>e⟩;rintro b ⟨a1,a2,a3,a4⟩;exact ⟨by rw [hs.size]; exact a1,a2,a3,fun ds e=>a4 ds ((hs.plain b a4.d).symm.trans e)⟩
 have mono:∀ {o:aT} {c:Nat} {x:Obj},HR (aN C μ hp w) o c x->HR (aN C μ hp w') o c x:=by
  intro o c x k;cases o with
  | cells T l=>obtain ⟨cs,h1,h2⟩:=k; exact ⟨cs,h1,fQ hE h2⟩
  | arr T sz len enc =>
   obtain ⟨cs,h1,h2,h3,h4⟩:=k;refine ⟨cs,h1,h2,h3,fun i hi=>?_⟩;obtain ⟨xs,a,b,c⟩:=h4 i hi;exact ⟨xs,fQ hE a,b,c⟩
  | obj o'=>exact k
  | snap o'=>exact k
  | hid lab pd=>exact k
  | map V kk l clock ev iv =>
   obtain ⟨h0,es,h1,h2⟩:=k;refine ⟨h0,es,h1,?_⟩;clear h0 h1;induction l generalizing es with
   | nil=>exact h2
   | cons x r ih =>
    obtain ⟨e,t,h1,h2,h3,h4,h5⟩:=h2;exact ⟨e,t,h1,h2,fQ hE h3,h4,ih t h5⟩
  | iter src since seen last=>obtain ⟨r,h1,h2⟩:=k; exact ⟨r,fQ hE h1,h2⟩
  | fam f=>exact k
  | gone=>exact k
 refine ⟨⟨⟨h.obj.keys,?_⟩,h.inj,h.mine,h.keys,h.nx,h.fam,h.pin,?_,h.pos⟩,hE⟩
 ·intro id o ho;obtain ⟨b,c,x,e1,e2,e3⟩:=h.obj.obj id o ho;exact ⟨b,c,x,e1,(hs.plain b (h.obj.qT ho e1)).trans e2,mono e3⟩
 ·exact ⟨hs.os.trans h.frm.os,hs.tape.trans h.frm.tape,hs.output.trans h.frm.output,by rw [hs.size]; exact h.frm.size,
   fun b hb' ht=>(hs.block b (bX hb' hb)).trans (h.frm.block b hb' ht),h.frm.drawn.trans hs.drawn⟩
theorem yV {f:FuncId} {fn:Func} {cg:Code} {args:Array Value} {w:World} {RR:Ending->World->Prop} {Q:Exit->Act->World->Prop} (hf:P.funcs[f]?=some fn) (hb:fn.body=some cg)
  (hwp:cg.wpIn (WF none) 0 P Q { tmps:=args++Array.replicate (fn.ntmps - args.size) undef,defers:=[] } w)
  (hQ:∀ e a' w',Q e a' w'->(e=.normal\/e=.ret)/\∃ base,sN base w' a'.defers/\∀ w'',Shut base w' w''->∃ v,(results fn a'.tmps).run P w''=.ok v w''/\RR (.returned v) w'') :
  Calls P f args w RR:=by
 refine callsIn_wide.1 (callsIn_of_wp_marks (n:=0) hf hb trivial (wpIn_mono hwp ?_));intro e a' w' hq;obtain ⟨he,base,h1,h2⟩:=hQ e a' w' hq;rcases he with rfl|rfl
 ·exact Ml _ _ h1 h2
 ·exact Ml _ _ h1 h2
theorem Ou {d:Nat}:∀ {hp:List (Nat×aT)},oM d hp=true->∀ n l p,get? hp n=some (.hid l p)->l < d:=by
 intro hp;induction hp with
 | nil=>intro _ n l p e; cases e
 | cons q r ih =>
  obtain ⟨m,o⟩:=q;intro h n l p e;rw [get?_cons] at e;by_cases hm:m=n
  ·rw [if_pos hm] at e;cases e;simp only [oM] at h;cases hb:Nat.blt l d with
   | false=>simp [hb] at h
   | true=>exact aM (n:=l+1) hb
  ·rw [if_neg hm] at e;refine ih ?_ n l p e;cases o <;> first
    | exact h
    | (simp only [oM] at h
       split at h;all_goals first
        | exact h
        | skip
       rename_i a b;cases hb:Nat.blt a d with
       | false=>simp [hb] at h
       | true=>simpa [hb] using h)
    | (simp only [oM] at h
       rename_i a b;cases hb:Nat.blt a d with
       | false=>simp [hb] at h
       | true=>simpa [hb] using h)
theorem qX {hp:List (Nat×aT)} {n l p:Nat} (h:hget hp n=some (.hid l p)):n < FB/\get? hp n=some (.hid l p):=by
 by_cases hn:n < FB
 ·rw [fH hn] at h;simp only [aD] at h;obtain ⟨o,h1,h2⟩:=h;have:=solid?_self h2;subst this;exact ⟨hn,h1⟩
 ·simp only [hget,hn,if_false] at h;split at h
  ·rename_i f hf;have h1:=solid?_self (eT?_solid h);rw [<- h1] at h;cases h
  ·cases h
theorem bO.Ln {C C':Ctx} {μ:Nat->Option (Nat×Nat)} {hp:List (Nat×aT)} {nx k:Nat} {w:World} (h:bO C' μ hp nx w) (h1:C'.w0=C.w0) (h2:C'.T=C.T) (h3:C'.U0=C.U0)
  (hH:∀ l p o,l < C.dep->C'.H l p o->C.H l p o) (hp':∀ id p,C.pin id=some p->μ id=some p) {l0 p0:Nat} (hg:get? hp k=some (.hid l0 p0)) (hn:oM C.dep (drop? hp k)=true) :
  bO C μ (drop? hp k) nx w/\(aN C' μ hp w).LeR (aN C μ (drop? hp k) w):=by
 have hk:=h.obj.keys _ _ hg;have hd:=pB hk (fun f e=>by rw [hg] at e; cases e);have hB:∀ b,C'.B b->C.B b:=fun b hb=>by unfold Ctx.B at *; rw [h1,h2,h3] at hb; exact hb
 have hE:(aN C' μ hp w).LeR (aN C μ (drop? hp k) w):=by
  refine ⟨⟨?_,fun _ _=>rfl⟩,fun _ _ e=>e⟩;rintro b ⟨a1,a2,a3,a4⟩;refine ⟨a1,hB b a2,?_,a4⟩;intro id o c ho;rw [hd] at ho;split at ho
  ·cases ho
  ·exact a3 id o c ho
 have old:∀ {id:Nat} {o:aT},hget (drop? hp k) id=some o->id≠k/\hget hp id=some o:=by
  intro id o ho;rw [hd] at ho;split at ho
  ·cases ho
  ·rename_i hne; exact ⟨hne,ho⟩
 have kold:∀ {id:Nat} {o:aT},get? (drop? hp k) id=some o->get? hp id=some o:=by
  intro id o ho;rw [get?_drop] at ho;split at ho
  ·cases ho
  ·exact ho
 have mono:∀ {o:aT} {c:Nat} {x:Obj},(∀ l p,o=.hid l p->l < C.dep)->HR (aN C' μ hp w) o c x->HR (aN C μ (drop? hp k) w) o c x:=by
  intro o c x hl k;cases o with
  | cells T l=>obtain ⟨cs,h1,h2⟩:=k; exact ⟨cs,h1,fQ hE h2⟩
  | arr T sz len enc =>
   obtain ⟨cs,h1,h2,h3,h4⟩:=k;refine ⟨cs,h1,h2,h3,fun i hi=>?_⟩;obtain ⟨xs,a,b,c⟩:=h4 i hi;exact ⟨xs,fQ hE a,b,c⟩
  | obj o'=>exact k
  | snap o'=>exact k
  | hid lab pd=>exact hH _ _ _ (hl _ _ rfl) k
  | map V kk l clock ev iv =>
   obtain ⟨h0,es,h1,h2⟩:=k;refine ⟨h0,es,h1,?_⟩;clear h0 h1;clear hl;induction l generalizing es with
   | nil=>exact h2
   | cons x r ih =>
    obtain ⟨e,t,h1,h2,h3,h4,h5⟩:=h2;exact ⟨e,t,h1,h2,fQ hE h3,h4,ih t h5⟩
  | iter src since seen last=>obtain ⟨r,h1,h2⟩:=k; exact ⟨r,fQ hE h1,h2⟩
  | fam f=>exact k
  | gone=>exact k
 refine ⟨⟨⟨fun id o e=>h.obj.keys _ _ (kold e),?_⟩,?_,?_,fun id o e=>h.keys _ _ (kold e),h.nx,?_,hp',?_,fun id p q e hge g=>h.pos id p q e hge (old g).2⟩,hE⟩
 ·intro id o ho;obtain ⟨b,c,x,e1,e2,e3⟩:=h.obj.obj id o (old ho).2;refine ⟨b,c,x,e1,e2,mono ?_ e3⟩;rintro l p rfl;exact Ou hn id l p (qX ho).2
 ·intro id id' o o' b c c' g g' e e';exact h.inj _ _ _ _ _ _ _ (old g).2 (old g').2 e e'
 ·intro id o b c g e;rw [<- h1,<- h2];exact h.mine _ _ _ _ (old g).2 e
 ·intro id p e hge;obtain ⟨o,ho⟩:=h.fam id p e hge;refine ⟨o,?_⟩;rw [hd,if_neg (by omega)];exact ho
 ·rw [<- h1,<- h2]; exact h.frm
theorem mV {E:Env} {h t:SV} {vs:List Value} (hr:R E (.cons h t) vs):∃ v r,vs=v::r/\R E h [v]/\R E t r:=by simpa only [R] using hr
theorem Ht {E:Env} {n:Nat} {k:List (Nat×SV)->Prop}:∀ (ps:List Nat) (args:SV) (fr:List (Nat×SV)) (vs:List Value) (t:Array Value),t.size=n->qU n ps=true->R E args vs->iU fr [] ->
  (∀ s,gN E t (look fr s) (t.getD s undef))->xB ps args fr k ->
  ∃ fr1,k fr1/\iU fr1 []/\vs.length=ps.length/\((ps.zip vs).foldl (fun t p=>t.setIfInBounds p.1 p.2) t).size=n /\
   ∀ s,gN E ((ps.zip vs).foldl (fun t p=>t.setIfInBounds p.1 p.2) t) (look fr1 s) (((ps.zip vs).foldl (fun t p=>t.setIfInBounds p.1 p.2) t).getD s undef):=by
 intro ps;induction ps with
 | nil =>
  intro args fr vs t hs _ hr hl hf h;cases args <;> simp only [xB] at h <;> try exact h.elim
  simp only [R] at hr;subst hr;exact ⟨fr,h,hl,rfl,hs,hf⟩
 | cons p r ih =>
  intro args fr vs t hs hp hr hl hf h;cases args <;> simp only [xB,lH,gA] at h <;> try exact h.elim
  rename_i x y;obtain ⟨v,vr,rfl,r1,r2⟩:=mV hr;have hpn:p < n/\qU n r=true:=by
   simp only [qU] at hp;cases hb:Nat.blt p n with
   | false=>simp [hb] at hp
   | true=>exact ⟨aM (n:=p+1) hb,by simpa [hb] using hp⟩
  split at h
  ·exact h.elim
  ·rename_i hng;have hl':iU ((p,x)::fr) []:=hl.cons (fun d w y e=>absurd e (hng d w y));obtain ⟨fr1,k1,k2,k3,k4,k5⟩:=ih y ((p,x)::fr) vr (t.setIfInBounds p v) (by simpa using hs) hpn.2 r2 hl' (by
    intro s;rw [jM];by_cases hn:p=s
    ·subst hn;rw [if_pos rfl,qO _ _ _ (by omega)];exact rJ r1 hng
    ·rw [if_neg hn,fO _ _ _ _ (dY hn)];exact B1 (lab:=[]) rfl (fun d' w y e=>hl s d' w y e) (hf s)) h
   exact ⟨fr1,k1,k2,by simp [k3],k4,k5⟩
end Go.Eng
end
section
namespace Go.Eng
open Go Go.RowKit
variable {P:Program}
theorem Ng {E:Env} {t:Array Value}:∀ {args:SV} {vs:List Value} (n:Nat),R E args vs->∀ s,gN E t (look (oL args n) s) (if n<=s then vs.getD (s - n) undef else undef)\/look (oL args n) s=.junk:=by
 intro args;induction args with
 | cons h r _ ihr =>
  intro vs n hR s;simp only [R] at hR;obtain ⟨v,xs,rfl,h1,h2⟩:=hR;simp only [oL];rw [jM];split
  ·rename_i e;subst e;refine .inl ?_;simp only [aL,if_true,eM,List.getD_cons_zero];cases h with
   | gd d w x=>exact ⟨v,rfl⟩
   | _=>exact h1
  ·rename_i hne;rcases ihr (n+1) h2 s with h3|h3
   ·by_cases hs:n+1<=s
    ·refine .inl ?_;have e1:n<=s:=by omega
     have e2:s - n=(s - (n+1))+1:=by omega
     rw [if_pos hs] at h3;rw [if_pos e1,e2,List.getD_cons_succ];exact h3
    ·refine .inl ?_;have e1:¬ n<=s:=by omega
     rw [if_neg hs] at h3;rw [if_neg e1];exact h3
   ·exact .inr h3
 | _=>intro vs n _ s; exact .inr rfl
theorem B4:∀ (args:SV) (n:Nat),iU (oL args n) []:=by
 intro args;induction args with
 | cons h r _ ihr =>
  intro n s d w x e;simp only [oL] at e;rw [jM] at e;split at e
  ·cases h <;> simp [unlab,wQ] at e
  ·exact ihr _ _ _ _ _ e
 | _=>intro n s d w x e; simp [oL,look,get?] at e
theorem Io {E:Env}:∀ {args:SV} {n:Nat} {vs:List Value},oG args n->R E args vs->vs.length<=n:=by
 intro args;induction args with
 | nil=>intro n vs _ h; simp only [R] at h; subst h; simp
 | cons h r _ ihr =>
  intro n vs ho hR;cases n with
  | zero=>exact ho.elim
  | succ n =>
   simp only [R] at hR;obtain ⟨v,xs,rfl,_,h2⟩:=hR;simp only [aY];have:=ihr (n:=n) ho h2;omega
 | _=>intro n vs ho; cases n <;> exact ho.elim
structure Lb (P:Program) (C:Ctx) (ro:Option Nat) (T:Tb):Prop where
 pin:sC C
 tb:xI P C T
 base:C.w0.heap.size<=C.R0.w.heap.size
 ro:∀ l,ro=some l->∃ r,C.R0.w.heap[l]?=some (.loop r)
def eG (P:Program) (n:Nat) (c:Code) (sc:bH):Prop :=
 ∀ (C:Ctx) (ro:Option Nat) (T:Tb) (st:St) (a:Act) (w:World) (K:vU->St->Prop) (Q:Exit->Act->World->Prop),C.n=n->Lb P C ro T ->
  (∀ e st a w,K e st->Stands C st a w->Q (Ea e) a w)->Stands C st a w->evC sc T st K->c.wpIn (WF ro) 0 P Q a w
def yF (T:Tb) (ps:List Nat) (asgn body:bH) (fr:List (Nat×SV)):Handler:=fun id np bnd dep args hp' nx' K =>
 match get? hp' id with
 | some (.hid l 0)=>bif Nat.beq l T.dep then
   xB ps args fr fun fr1=>evC asgn ⟨T.fs,T.ys,np,bnd,dep⟩ ⟨fr1,hp',nx'⟩ fun e st1 =>
    match e with
    | .normal=>match st1 with
     | ⟨fr2,hp2,nx2⟩=>match get? hp2 id with
      | some (.hid l 0)=>bif Nat.beq l T.dep then
        pU hp2 id (.hid T.dep 1) fun hp3=>evC body ⟨T.fs,T.ys,np,bnd,dep⟩ ⟨fr2,hp3,nx2⟩ fun e st2 =>
         match st2 with
         | ⟨_,hp4,nx4⟩=>match get? hp4 id with
          | some (.hid l 1)=>bif Nat.beq l T.dep then pU hp4 id (.hid T.dep (E3 e)) fun hp5=>K (vL e) hp5 nx4 else False
          | _=>False
       else False
      | _=>False
    | _=>False
  else False
 | _=>False
def mT (r:Loop) (pd:Nat) (o:Obj):Prop :=
 match pd with
 | 0=>o=.loop { r with state:=.ready,pending:=none }
 | 1=>∃ s p,o=.loop { r with state:=s,pending:=p }
 | 2=>o=.loop { r with state:=.done,pending:=some .ret }
 | n+3=>o=.loop { r with state:=.done,pending:=some (.exit n) }
theorem Be {r:Loop} {pd:Nat} {o:Obj} (h:mT r pd o):∃ r',o=.loop r':=by
 unfold mT at h;split at h
 ·exact ⟨_,h⟩
 ·obtain ⟨_,_,h⟩:=h; exact ⟨_,h⟩
 ·exact ⟨_,h⟩
 ·exact ⟨_,h⟩
theorem O0 {r:Loop} {pd:Nat} {o:Obj} (h:mT r pd o):mT r 1 o:=by
 unfold mT at h;split at h
 ·exact ⟨_,_,h⟩
 ·exact h
 ·exact ⟨_,_,h⟩
 ·exact ⟨_,_,h⟩
def Au:vU->Option Code
 | .normal=>none
 | .ret=>some .ret
 | .exit id=>some (.exit id)
theorem Oc (e:vU):(Au e).isNone=vL e:=by cases e <;> rfl
theorem Jo {w:World} {b:Nat} {r r':Loop} (h:w.heap[b]?=some (.loop r)):Kd w (w.putObj b (.loop r')):=by
 have hlt:=(aS.1 h).1;refine ⟨by simp,fun k q e=>?_,fun k ds e=>?_,fun k hk hp=>?_⟩
 ·by_cases hk:k=b
  ·subst hk; exact ⟨_,World.putObj_heap_same hlt⟩
  ·exact ⟨q,(World.putObj_heap_other hk).trans e⟩
 ·by_cases hk:k=b
  ·subst hk; rw [h] at e; cases e
  ·exact (World.putObj_heap_other hk).trans e
 ·refine hp.same (World.putObj_heap_other ?_);rintro rfl;have:=hp _ h;cases this
theorem bO.turn {C:Ctx} {μ:Nat->Option (Nat×Nat)} {hp:List (Nat×aT)} {nx:Nat} {w:World} (h:bO C μ hp nx w) {id b c l p l' p':Nat} {r r':Loop} (hg:get? hp id=some (.hid l p)) (hm:μ id=some (b,c)) (hb:w.heap[b]?=some (.loop r))
  (hx:C.H l' p' (.loop r')):(aN C μ hp w).Le (aN C μ (gQ hp id (.hid l' p')) (w.putObj b (.loop r')))/\bO C μ (gQ hp id (.hid l' p')) nx (w.putObj b (.loop r')):=by
 have hlt:=(aS.1 hb).1;exact h.Tc (hp':=gQ hp id (.hid l' p')) (x:=.hid l' p') (id:=id) (b:=b) (c:=c) (o:=.hid l p) (y:=.loop r') (fun n=>by rw [gK]; exact iW (h.obj.keys _ _ hg) rfl (fun f e=>by rw [hg] at e; cases e) n) (gL hg) (h.get hg rfl) hm
  (by simp) (fun k hk=>World.putObj_heap_other hk) (World.putObj_heap_same hlt) rfl rfl rfl hx (Jo hb)
theorem bO.recAt {C:Ctx} {μ:Nat->Option (Nat×Nat)} {hp:List (Nat×aT)} {nx:Nat} {w:World} (h:bO C μ hp nx w) {id b c l p:Nat} (hg:get? hp id=some (.hid l p)) (hm:μ id=some (b,c)):∃ o,w.heap[b]?=some o/\C.H l p o:=by
 obtain ⟨b',c',x,e1,e2,e3⟩:=h.obj.obj id _ (h.get hg rfl);have e1':μ id=some (b',c'):=e1;rw [hm] at e1';cases e1';exact ⟨x,e2,e3⟩
theorem Cx {n:Nat} {asgn body:Code} {asgn' body':bH} (iha:eG P n asgn asgn') (ihb:eG P n body body') {C:Ctx} {ro:Option Nat} {T:Tb} (hC:Lb P C ro T) (hn:C.n=n) {fr:List (Nat×SV)} {a:Act} {μ:Nat->Option (Nat×Nat)} {hp:List (Nat×aT)} {nx:Nat} {w:World}
  (h:dR C μ ⟨fr,hp,nx⟩ a w) (hlab:iU fr []) {C':Ctx} (c1:C'.w0=C.w0) (c2:C'.T=C.T) (_c3:C'.U0=C.U0) (c4:C'.dep=C.dep+1) {rec:Loop} (c5:∀ l p o,l < C.dep->(C'.H l p o ↔ C.H l p o)) (c6:∀ p o,C'.H C.dep p o ↔ mT rec p o)
  (c7:(aN C μ hp w).LeU C'.R0) (c8:Kd w C'.R0.w) (c9:∀ id p,μ id=some p->C'.pin id=some p) (_c10:w.heap.size<=C'.R0.w.heap.size) {ps:Array Tmp} (r1:rec.tmps=a.tmps) (r2:rec.params=ps) (r3:rec.assign=asgn) (r4:rec.body=body)
  (hps:qU n ps.toList=true):mC P C' C.dep (yF T ps.toList asgn' body' fr):=by
 intro C2 hx μ2 hp2 nx2 w2 id b c args vs K hh hle hkd hg hm hr hil he;have hTd:T.dep=C.dep:=hC.tb.dep;have H2:∀ p o,C2.H C.dep p o ↔ mT rec p o:=fun p o=>(hx.H C.dep p o (by omega)).trans (c6 p o);have cExt:C.Ext C':=⟨by rw [c1]; exact Frm.refl _ _,fun b hb=>.inl (by rw [<- c2]; exact hb),by omega,c5,h.le.trans c7,h.kd.trans c8,fun id p e=>c9 id p (h.hep.pin id p e)⟩;obtain ⟨o,ho,hHo⟩:=hh.recAt hg hm;have ho':o=.loop { rec with state:=.ready,pending:=none }:=(H2 0 o).1 hHo;subst ho'
 -- the caller's slots
 have hE:(aN C μ hp w).LeR (aN C2 μ2 hp2 w2) :=
  ⟨c7.trans (hx.R0.trans hle),fun id p e=>hh.pin id p (hx.pin id p (c9 id p e))⟩
 have hfr:∀ s,gN (aN C2 μ2 hp2 w2) a.tmps (look fr s) (a.tmps.getD s undef):=by
  intro s;have h1:=h.fr s;have hng:∀ d w x,look fr s≠.gd d w x:=fun d w x e=>by have:=hlab s d w x e; simp [eE] at this
  have h2:R (aN C μ hp w) (look fr s) [a.tmps.getD s undef]:=by
   cases hl:look fr s with
   | gd d w x=>exact absurd hl (hng d w x)
   | _=>simp only [hl] at h1; exact h1
  exact rJ (fQ hE h2) hng
 simp only [yF,hg,hTd,iL,cond_true] at he;obtain ⟨fr1,he1,hl1,hvs,hsz,hfr1⟩:=Ht ps.toList args fr vs a.tmps (h.size.trans hn) hps hr hlab hfr he;have hfold:((ps.zip vs.toArray).foldl (fun tmps x=>tmps.setIfInBounds x.1 x.2) a.tmps)=(ps.toList.zip vs).foldl (fun t p=>t.setIfInBounds p.1 p.2) a.tmps:=by
  rw [<- Array.foldl_toList];simp
 have hy:=run_yield (P:=P) (args:=vs.toArray) ho (by rw [r2]; simpa using hvs);refine ⟨rec.fn,_,rec.assign,rec.body,hy,?_⟩;simp only [r1,r2,r3,r4];rw [show (fun (tmps:Array Value) (x:Tmp×Value)=>match x with|(t,a)=>tmps.setIfInBounds t a)=fun tmps x=>tmps.setIfInBounds x.1 x.2 from rfl,hfold]
 -- the rounds' context
 let C3:Ctx:={ C2 with n:=n,np:=fN hp2,bnd:=nx2,pin:=μ2,R0:=aN C2 μ2 hp2 w2 };let T3:Tb:=⟨T.fs,T.ys,fN hp2,nx2,C2.dep⟩;have hh3:bO C3 μ2 hp2 nx2 w2:=(hh.to (C':=C3) rfl rfl rfl (fun _ _ _ e=>e) (fun _ _ e=>e)).1;have x3:C2.Ext C3:=⟨Frm.refl _ _,fun _ h=>.inl h,aL _,fun _ _ _ _=>dP,hle,hkd,fun id p e=>hh.pin id p e⟩;have hro3:∀ l,some b=some l->∃ r,C3.R0.w.heap[l]?=some (.loop r):=by
  intro l e;cases e;exact ⟨_,ho⟩
 have hC3:Lb P C3 (some b) T3:=by
  refine ⟨?_,⟨hC.tb.fs,?_,rfl,rfl,rfl,hC.tb.g.ext ((cExt.trans hx).trans x3)⟩,?_,hro3⟩
  ·intro id p e;by_cases hlt:id < FB
   ·exact .inr ⟨hh.nx id p e hlt,hlt⟩
   ·left;obtain ⟨o,ho⟩:=hh.fam id p e (bJ.1 hlt);simp only [hget,hlt,if_false] at ho;split at ho
    ·rename_i f hf;simp only [fbase,hlt,if_false];exact vJ hf
    ·cases ho
  ·intro lab hd hys;exact ((hC.tb.ys lab hd hys).ext cExt).ext (hx.trans x3)
  ·show C2.w0.heap.size<=w2.heap.size;exact hh.frm.size
 have rep1:dR C3 μ2 ⟨fr1,hp2,nx2⟩ { tmps:=(ps.toList.zip vs).foldl (fun t p=>t.setIfInBounds p.1 p.2) a.tmps,defers:=[] } w2 :=
  ⟨hsz,sN.nil _ _,hfr1,hh3,Env.LeU.refl _,Kd.refl _⟩
 refine roundIn_of_wpIn (F:=Fence.wide) (n:=0) trivial ?_;refine iha C3 (some b) T3 ⟨fr1,hp2,nx2⟩ _ w2 _ _ rfl hC3 ?_ ⟨⟨μ2,rep1⟩,hl1⟩ he1;intro e st1 a1 w1 hk hs;cases e with
 | exit _=>exact hk.elim
 | ret=>exact hk.elim
 | normal =>
 obtain ⟨⟨μ3,h3⟩,hl3⟩:=hs;obtain ⟨fr2,hp3,nx3⟩:=st1;simp only at hk;split at hk
 ·rename_i l hg3;cases hb1:Nat.beq l C.dep with
  | false=>simp [hb1] at hk
  | true =>
  have:=nbeq hb1;subst this;simp only [hb1,cond_true,rY] at hk;have hm3:μ3 id=some (b,c):=h3.hep.pin id _ hm;obtain ⟨o3,ho3,hH3⟩:=h3.hep.recAt hg3 hm3;have:=(H2 0 o3).1 hH3;simp only [mT] at this;subst this;refine ⟨_,run_beginRound ho3 rfl,?_⟩;obtain ⟨hE4,hh4⟩:=h3.hep.turn (l':=C.dep) (p':=1) (r':={ rec with state:=.busy,pending:=none }) hg3 hm3 ho3 ((H2 1 _).2 ⟨_,_,rfl⟩);have rep4:=h3.step hE4 hh4;refine ihb C3 (some b) T3 ⟨fr2,gQ hp3 id (.hid C.dep 1),nx3⟩ a1 _ _ _ rfl hC3 ?_ ⟨⟨μ3,rep4⟩,hl3⟩ hk;intro e st2 a2 w4 hk2 hs2;obtain ⟨⟨μ4,h4⟩,_⟩:=hs2;obtain ⟨fr5,hp4,nx4⟩:=st2;simp only at hk2;split at hk2
  ·rename_i l hg4;cases hb2:Nat.beq l C.dep with
   | false=>simp [hb2] at hk2
   | true =>
   have:=nbeq hb2;subst this;simp only [hb2,cond_true] at hk2;have hm4:μ4 id=some (b,c):=h4.hep.pin id _ hm;obtain ⟨o4,ho4,hH4⟩:=h4.hep.recAt hg4 hm4;obtain ⟨s4,p4,rfl⟩:=(H2 1 o4).1 hH4;have hrec5:C2.H C.dep (E3 e) (.loop { rec with state:=if (Au e).isNone then .ready else .done,pending:=Au e }):=by
    rw [H2];cases e <;> rfl
   obtain ⟨hE5,hh5⟩:=h4.hep.turn (l':=C.dep) (p':=E3 e) hg4 hm4 ho4 hrec5;have hh5':bO C2 μ4 (gQ hp4 id (.hid C.dep (E3 e))) nx4 _:=(hh5.to (C':=C2) rfl rfl rfl (fun _ _ _ e=>e) (fun id p e=>hh5.pin id p (hh.pin id p e))).1;have fin:∃ v w5,(Instr.endRound b (Au e)).run P w4=.ok v w5/\∃ bb hp' nx' μ',v=.bool bb/\K bb hp' nx'/\(aN C2 μ2 hp2 w2).Le (aN C2 μ' hp' w5)/\bO C2 μ' hp' nx' w5:=by
    refine ⟨_,_,run_endRound (Au e) ho4,vL e,gQ hp4 id (.hid C.dep (E3 e)),nx4,μ4,by rw [Oc],hk2,?_,hh5'⟩;exact ⟨⟨h4.le.trans hE5.toLeU,fun id p e=>h4.hep.pin id p e⟩,h4.kd.trans hE5.kd,fun _ _ _ e=>e⟩
   cases e <;> exact fin
  ·exact hk2.elim
 ·exact hk.elim
theorem Kr (n:Nat):eG P n .skip .skip:=by
 intro C ro T st a w K Q _ _ hK h he;exact wpIn_skip (hK _ _ _ _ he h)
theorem Ko (n id:Nat):eG P n (.exit id) (.exit id):=by
 intro C ro T st a w K Q _ _ hK h he;exact wpIn_exit (hK _ _ _ _ he h)
theorem O7 (n:Nat):eG P n .ret .ret:=by
 intro C ro T st a w K Q _ _ hK h he;exact wpIn_ret (hK _ _ _ _ he h)
theorem Fb {n:Nat} {G:List Nat} {id:Nat} {ops:Array Oper} {l:List fF} (hl:mX P n ops.toList ops.toList=some l):eG P n (.region id ops false) (.region G l):=by
 intro C ro T st a w K Q hn hC hK h he;obtain ⟨⟨μ,h⟩,hlab⟩:=h;subst hn;refine wpIn_region_list (Ai (C:=C) (ro:=ro) hC.tb (K:=fun st'=>qJ st'.fr G fun fr=>K .normal ⟨fr,st'.hp,st'.nx⟩) ?_ _ l [] μ st a w hl hlab h he);intro st' μ' a' w' hk h';obtain ⟨fr',hk',hlab',h''⟩:=qK h' G _ hk;exact hK _ _ _ _ hk' ⟨⟨μ',h''⟩,hlab'⟩
theorem Hy {n:Nat} {G:List Nat} {id:Nat} {hint:List Nat} {ops:Array Oper} {t:hZ} (hd:B9 P n hint ops.toList=some t):eG P n (.region id ops true) (.drawn G t):=by
 intro C ro T st a w K Q hn hC hK h he;obtain ⟨⟨μ,h⟩,hlab⟩:=h;subst hn;refine F7 (C:=C) (ro:=ro) hC.tb hd hlab (K:=fun st'=>qJ st'.fr G fun fr=>K .normal ⟨fr,st'.hp,st'.nx⟩) ?_ h he;intro st' μ' a' w' hk h';obtain ⟨fr',hk',hlab',h''⟩:=qK h' G _ hk;exact hK _ _ _ _ hk' ⟨⟨μ',h''⟩,hlab'⟩
theorem E9 {n:Nat} {G G':List Nat} {id:Nat} {hint:List Nat} {ops:Array Oper} {t:hZ} {so:List fF} (hd:xM P n hint ops.toList=some (t,so)):eG P n (.region id ops true) (.seq (.drawn G' t) (.region G so)):=by
 intro C ro T st a w K Q hn hC hK h he;obtain ⟨⟨μ,h⟩,hlab⟩:=h;subst hn;refine Ds (C:=C) (ro:=ro) hC.tb hd hlab (K0:=fun st'=>qJ st'.fr G' fun fr=>uG T so [] ⟨fr,st'.hp,st'.nx⟩ fun st''=>qJ st''.fr G fun fr=>K .normal ⟨fr,st''.hp,st''.nx⟩) (K:=fun st'=>qJ st'.fr G fun fr=>K .normal ⟨fr,st'.hp,st'.nx⟩) ?_ ?_ h he
 ·intro st' μ' a' w' hk h';obtain ⟨fr',hk',hlab',h''⟩:=qK h' G _ hk;exact hK _ _ _ _ hk' ⟨⟨μ',h''⟩,hlab'⟩
 ·intro st' μ' a' w' hk h';obtain ⟨fr',hk',hlab',h''⟩:=qK h' G' _ hk;exact ⟨_,hlab',h'',hk'⟩
theorem O8 {n:Nat} {x y:Code} {x' y':bH} (ihx:eG P n x x') (ihy:eG P n y y'):eG P n (.seq x y) (.seq x' y'):=by
 intro C ro T st a w K Q hn hC hK h he;refine wpIn_seq (ihx C ro T st a w _ _ hn hC ?_ h he);intro e st' a' w' hk h';cases e with
 | normal=>exact ihy C ro T st' a' w' _ _ hn hC hK h' hk
 | exit id=>exact hK _ _ _ _ hk h'
 | ret=>exact hK _ _ _ _ hk h'
theorem Kn {n:Nat} {x:Operand} {y z:Code} {x':SX} {y' z':bH} (hx:cX x=some x') (ihy:eG P n y y') (ihz:eG P n z z'):eG P n (.cond x y z) (.cond x' y' z'):=by
 intro C ro T st a w K Q hn hC hK h he;have hv:=h;obtain ⟨⟨μ,hr⟩,hlab⟩:=h;have hx:=pY (E:=aN C μ st.hp w) (a:=a) (fr:=st.fr) (g:=none) (fun _ _ e=>by cases e) hr.fr hx;simp only [evC] at he;split at he
 ·have:a.eval x=.bool true:=by simpa [gx,CV.sv,R] using hx
  exact wpIn_cond_true this (ihy C ro T st a w K Q hn hC hK hv he)
 ·have:a.eval x=.bool false:=by simpa [gx,CV.sv,R] using hx
  exact wpIn_cond_false this (ihz C ro T st a w K Q hn hC hK hv he)
 ·exact he.elim
 ·rename_i n;split at he
  ·rename_i p hp;have:a.eval x=.bool p:=by simpa [gx,hp,unlab,R] using hx
   refine wpIn_cond this ?_;cases p with
   | true=>exact ihy C ro T st a w K Q hn hC hK hv (he.1 rfl)
   | false=>exact ihz C ro T st a w K Q hn hC hK hv (he.2 rfl)
  ·exact he.elim
theorem Kp {n:Nat} {c:Code} {i:Nat} {asg:List Nat} {sc:bH} (ih:eG P n c sc):eG P n c (.join i asg sc):=by
 intro C ro T st a w K Q hn hC hK h he;rw [evC] at he;obtain ⟨V,h1,h2⟩:=he;simp only [Fc] at h2;refine ih C ro T st a w _ Q hn hC ?_ h h1;intro e st' a' w' hk h';cases e with
 | normal =>
  obtain ⟨x,hI,hh⟩:=hk;rcases xP T.bnd asg st (V.fr x) (V.hp x) with ⟨y,hy⟩|hy
  ·refine hK .normal y a' w' ((hy _).1 (h2 x hI)) ?_;obtain ⟨⟨_,hr⟩,hl⟩:=h';have:=(hy _).1 hh;rw [hC.tb.np,hC.tb.bnd] at this;exact oE hC.pin hr hl this
  ·exact (hy _ hh).elim
 | exit id=>exact hK _ _ _ _ hk h'
 | ret=>exact hK _ _ _ _ hk h'
theorem Hw {n id:Nat} {x:Code} {x':bH} (ih:eG P n x x'):eG P n (.block id x) (.block id x'):=by
 intro C ro T st a w K Q hn hC hK h he;refine wpIn_block (ih C ro T st a w _ _ hn hC ?_ h he);intro e st' a' w' hk h';cases e with
 | normal=>exact hK _ _ _ _ hk h'
 | exit j =>
  simp only [Ea,Exit.inBlock];simp only at hk;cases hb:Nat.beq j id with
  | true =>
   rw [hb] at hk;rw [if_pos (cQ hb)];exact hK .normal _ _ _ hk h'
  | false =>
   rw [hb] at hk;rw [if_neg (fun e=>by rw [e,iL] at hb; cases hb)];exact hK (.exit j) _ _ _ hk h'
 | ret=>exact hK _ _ _ _ hk h'
section
variable {F:Fence} {P:Program} {n:Nat} {a:Act} {w:World} {Q:Exit->Act->World->Prop}
theorem nF {b:Frame} {k:List Item} {cs:List Frame} {c:Code}:step P (lone (b.atR a (.code (.scope c)::k)) cs w)=.next (lone (b.atR a (.code c::.inScope c::k)) cs w) :=
 step_lone_go (by simp [stepG,stepG.exec,Frame.atR])
theorem By {b:Frame} {k:List Item} {cs:List Frame} {c:Code}:step P (lone (b.atR a (.inScope c::k)) cs w)=.next (lone (b.atR a k) cs w) :=
 step_lone_go (by simp [stepG,stepG.exec,Frame.atR])
def Y7 (Q:Exit->Act->World->Prop):Exit->Act->World->Prop
 | .goto _,_,_=>False
 | e,a,w=>Q e a w
theorem K9 {c:Code} (h:c.wpIn F n P (Y7 Q) a w):(Code.scope c).wpIn F n P Q a w:=by
 intro b k cs hro hb hr;have h0:(lone (b.atR a (.code (.scope c)::k)) cs w).fenced P F:=fenced_calm hb hr rfl;obtain ⟨e,a₁,w₁,hq,harr⟩:=h b (.inScope c::k) cs hro hb hr;cases e with
 | normal=>exact ⟨.normal,a₁,w₁,hq,.head h0 nF (StepsIn.trans harr (.one (fenced_calm hb hr rfl) By))⟩
 | exit id' =>
  have hx:exitTo id' (.inScope c::k)=exitTo id' k:=by simp [exitTo]
  exact ⟨.exit id',a₁,w₁,hq,fun k' hk=>.head h0 nF (harr.1 k' (by rw [hx]; exact hk)),
   fun hr' hk=>let ⟨k₁,h1,h2⟩:=harr.2 hr' (by rw [hx]; exact hk); ⟨k₁,h1,.head h0 nF h2⟩⟩
 | goto l=>exact hq.elim
 | ret=>exact ⟨_,a₁,w₁,hq,.of_steps (.one h0 nF) harr⟩
 | panic ch=>exact ⟨_,a₁,w₁,hq,.of_steps (.one h0 nF) harr⟩
 | outgrown=>exact ⟨_,a₁,w₁,hq,.of_steps (.one h0 nF) harr⟩
end
theorem H4 {n:Nat} {x:Code} {x':bH} (ih:eG P n x x'):eG P n (.scope x) x':=by
 intro C ro T st a w K Q hn hC hK h he;refine K9 (ih C ro T st a w K _ hn hC ?_ h he);intro e st' a' w' hk h';cases e with
 | normal=>exact hK .normal _ _ _ hk h'
 | exit j=>exact hK (.exit j) _ _ _ hk h'
 | ret=>exact hK .ret _ _ _ hk h'
theorem Hz {n l:Nat}:eG P n (.label l) .skip:=by
 intro C ro T st a w K Q hn hC hK h he;exact wpIn_label (hK .normal _ _ _ he h)
theorem Kq {n i:Nat} {asg:List Nat} {z:Code} {z':bH} (ih:eG P n z z'):eG P n (.loop z) (.loop i asg z'):=by
 intro C ro T st a w K Q hn hC hK h he;simp only [evC,Fc] at he;obtain ⟨V,x0,hI,hh,hround⟩:=he;have entry:∀ (s:St) (a:Act) (w:World) (x:V.X),Stands C s a w->nP T.bnd asg st (V.fr x) (V.hp x) (fun h=>mM T.np T.bnd s h)->nP T.bnd asg st (V.fr x) (V.hp x) (fun h=>Stands C h a w):=by
  intro s a w x hs hk;rcases xP T.bnd asg st (V.fr x) (V.hp x) with ⟨y,hy⟩|hy
  ·refine (hy _).2 ?_;obtain ⟨⟨_,hr⟩,hl⟩:=hs;have:=(hy _).1 hk;rw [hC.tb.np,hC.tb.bnd] at this;exact oE hC.pin hr hl this
  ·exact (hy _ hk).elim
 refine wpIn_loop_ghost (fun n a w=>∃ x,V.I x/\V.meas x=n/\nP T.bnd asg st (V.fr x) (V.hp x) (fun h=>Stands C h a w)) (V.meas x0) ⟨x0,hI,rfl,entry _ _ _ _ h hh⟩ ?_;rintro n a w ⟨x,hI,rfl,hs⟩;obtain ⟨s,hs,hev⟩:=Je hs (hround x hI);refine ih C ro T s a w _ _ hn hC ?_ hs hev;intro e st' a' w' hk h';cases e with
 | normal =>
  obtain ⟨x2,h1,h2,h3⟩:=hk;exact ⟨_,h3,x2,h1,rfl,entry _ _ _ _ h' h2⟩
 | exit id=>exact hK _ _ _ _ hk h'
 | ret=>exact hK _ _ _ _ hk h'
end Go.Eng
end
section
namespace Go.Eng
open Go Go.RowKit
variable {P:Program}
theorem Frm.weak {T T':Nat->Prop} {a b:World} (h:Frm T a b) (hT:∀ i,T i->T' i):Frm T' a b :=
 ⟨h.os,h.tape,h.output,h.size,fun i hi ht=>h.block i hi fun e=>ht (hT i e),h.drawn⟩
theorem vS (st:Nat->Option Obj) (q:Nat):eT? (tK st q)=(st q).map .obj:=by
 unfold tK;cases st q <;> rfl
theorem Ap {hp:List (Nat×aT)} {st st':Nat->Option Obj} (h1:get? hp 1=some (.fam (tK st))) (n:Nat) :
  hget (gQ hp 1 (.fam (tK st'))) n=if FB<=n/\n % FB=1 then (st' (n / FB - 1)).map .obj else hget hp n:=by
 by_cases hn:n < FB
 ·have:¬ (FB<=n/\n % FB=1):=fun h=>by omega
  rw [if_neg this,fH hn,fH hn,get?_putH,get?_cons];by_cases e:1=n
  ·subst e;rw [if_pos rfl,h1];rfl
  ·rw [if_neg e]
 ·by_cases e:n % FB=1
  ·rw [if_pos ⟨bJ.1 hn,e⟩];simp only [hget,hn,if_false,e,get?_putH,get?_cons,if_true,vS]
  ·have:¬ (FB<=n/\n % FB=1):=fun h=>e h.2;rw [if_neg this];simp only [hget,hn,if_false,get?_putH,get?_cons,if_neg (dY e)]
theorem qY {hp:List (Nat×aT)} {st:Nat->Option Obj} (h1:get? hp 1=some (.fam (tK st))) {n:Nat} (hn:FB<=n) (e:n % FB=1) :
  hget hp n=(st (n / FB - 1)).map .obj:=by
 simp only [hget,bJ.2 hn,if_false,e,h1,vS]
theorem fb1:1 < FB:=by decide
theorem bO.raw {C:Ctx} {μ:Nat->Option (Nat×Nat)} {hp:List (Nat×aT)} {nx:Nat} {W:World} (hh:bO C μ hp nx W) {st:Nat->Option Obj} (h1:get? hp 1=some (.fam (tK st))) :
  ∀ q o,st q=some o->W.heap[q]?=some o:=by
 intro q o hq;have hgm:hget hp (fid 1 q)=some (.obj o):=by rw [qY h1 (dO 1 q) (gW q fb1),fR q fb1,hq]; rfl
 obtain ⟨b,c,x,e1,e2,e3,e4⟩:=hh.obj.obj _ _ hgm;have e1':μ (fid 1 q)=some (b,c):=e1;have:=hh.pos _ _ _ e1' (dO 1 q) hgm;rw [fR q fb1] at this;simp only at this;subst this;subst e3;exact e2
end Go.Eng
end
