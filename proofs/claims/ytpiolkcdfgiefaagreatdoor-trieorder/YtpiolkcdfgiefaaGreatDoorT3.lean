/- A part of the proof. -/
import Derived.Test.YtpiolkcdfgiefaaGreatDoorL3
import Derived.Test.YtpiolkcdfgiefaaGreatDoorEngC
import Derived.Shelf.Small.Strs
import Derived.Shelf.Strings.Prefix
import Derived.Shelf.Strconv.Atoi
import Derived.Lib.SmallJoins
import Derived.Shelf.Strconv.AtoiAll
import Derived.Shelf.Strconv.Itoa3
import Derived.Shelf.Strings.Cut
import Derived.Shelf.Strings.Split
import Derived.Shelf.Strings.OnBuilder
import Derived.Shelf.GgClosure.StringsRunes
import Derived.Shelf.Strings.Repeat
import Derived.Shelf.Strings.BuilderK
import Derived.Lib.RowBridge
import Derived.Test.YtpiolkcdfgiefaaGreatDoorProg
section
namespace Go.Eng
open Go Go.RowKit
noncomputable def V7 (T:Tb) (l:List fF):List Nat->St->(St->Prop)->Prop :=
 @List.rec fF (fun _=>List Nat->St->(St->Prop)->Prop) (fun _ st k=>k st)
  (fun o _ ih lab st k =>
   match o.guard with
   | none=>evO T st o.op fun s st'=>E8 o.dst lab s st' fun st''=>ih lab st'' k
   | some (d0,w) =>
    bif Gk T (some (d0,w)) st o.op then
     bif J1 (d0::lab) o.dst then False else
     oH st.fr 10 d0 w (evE T (some (d0,w)) st (fun s st'=>stF st' fun st'=>E8 o.dst (d0::lab) s st' fun st''=>ih (d0::lab) st'' k) o.op)
      (E8 o.dst (d0::lab) (.tup .nil) st fun st''=>ih (d0::lab) st'' k)
    else
    match o.dst with
    | none=>False
    | some d=>bif eE (d0::lab) d then False else
     match evP T.fs (some (d0,w)) st o.op with
     | .fail=>(kG st.fr 10 d0 w->False)/\stP st fun fr hp nx=>ih (d0::lab) ⟨(d,.gd d0 w .junk)::fr,hp,nx⟩ k
     | .ok v=>eC v fun v=>stP st fun fr hp nx=>ih (d0::lab) ⟨(d,.gd d0 w v)::fr,hp,nx⟩ k
     | .side p v=>(kG st.fr 10 d0 w->p)/\eC v fun v=>stP st fun fr hp nx=>ih (d0::lab) ⟨(d,.gd d0 w v)::fr,hp,nx⟩ k) l
theorem Ql (T:Tb):∀ l,V7 T l=uG T l:=by
 intro l;induction l with
 | nil=>funext lab st k; simp only [uG]; rfl
 | cons o r ih =>
  funext lab st k;rw [uG];rw [<- ih];rfl
noncomputable def aAj (T:Tb) (t:hZ):List (Nat×SV)->List (Nat×aT)->Nat->(St->Prop)->Prop :=
 @hZ.rec (fun _=>List (Nat×SV)->List (Nat×aT)->Nat->(St->Prop)->Prop) (fun fr hp nx k=>k ⟨fr,hp,nx⟩) (fun _ _ _ _=>True)
  (fun _ o _ ih fr hp nx k=>match o.dst with
   | none=>False
   | some d=>match o.guard with
    | none=>match evP T.fs none ⟨fr,hp,nx⟩ o.op with
     | .fail=>False
     | .ok v=>lH v fun v=>ih ((d,v)::fr) hp nx k
     | .side p v=>p/\lH v fun v=>ih ((d,v)::fr) hp nx k
    | some (d0,w)=>match evP T.fs (some (d0,w)) ⟨fr,hp,nx⟩ o.op with
     | .fail=>(kG fr 10 d0 w->False)/\ih ((d,.gd d0 w .junk)::fr) hp nx k
     | .ok v=>eC v fun v=>ih ((d,.gd d0 w v)::fr) hp nx k
     | .side p v=>(kG fr 10 d0 w->p)/\eC v fun v=>ih ((d,.gd d0 w v)::fr) hp nx k)
  (fun _ o stab _ _ ih1 ih2 fr hp nx k =>
   (match o.guard with
    | none=>evE T none ⟨fr,hp,nx⟩ (fun s st'=>stK st' fun hp' nx'=>tN T.fs fr hp nx hp' nx' stab/\yJ o.dst s fr fun fr'=>ih1 fr' hp' nx' k) o.op
    | some (d0,w)=>oH fr 10 d0 w (evE T (some (d0,w)) ⟨fr,hp,nx⟩ (fun s st'=>stK st' fun hp' nx'=>tN T.fs fr hp nx hp' nx' stab/\yJ o.dst s fr fun fr'=>ih1 fr' hp' nx' k) o.op)
      (yJ o.dst (.tup .nil) fr fun fr'=>ih1 fr' hp nx k)) /\
   ih2 fr hp nx k) t
theorem Tz (T:Tb):∀ t,aAj T t=evD T t:=by
 intro t;induction t with
 | done=>funext fr hp nx k; simp only [evD]; rfl
 | none=>funext fr hp nx k; simp only [evD]; rfl
 | pure i o r ih=>funext fr hp nx k; rw [evD,<- ih]; rfl
 | eff i o s a b ih1 ih2=>funext fr hp nx k; rw [evD,<- ih1,<- ih2]; rfl
noncomputable def X3 (c:bH):Tb->St->(vU->St->Prop)->Prop :=
 @bH.rec (fun _=>Tb->St->(vU->St->Prop)->Prop)
  (fun _ st k=>k .normal st)
  (fun keep ops T st k=>V7 T ops [] st fun st'=>match st' with
   | ⟨fr0,hp,nx⟩=>qJ fr0 keep fun fr=>k .normal ⟨fr,hp,nx⟩)
  (fun keep t T st k=>match st with
   | ⟨fr,hp,nx⟩=>aAj T t fr hp nx fun st'=>match st' with
    | ⟨fr0,hp,nx⟩=>qJ fr0 keep fun fr=>k .normal ⟨fr,hp,nx⟩)
  (fun _ _ iha ihb T st k=>iha T st fun e st' =>
   match e with
   | .normal=>ihb T st' k
   | .exit id=>k (.exit id) st'
   | .ret=>k .ret st')
  (fun c _ _ iha ihb T st k =>
   match c with
   | .c (.bool true)=>iha T st k
   | .c (.bool false)=>ihb T st k
   | .c _=>False
   | .s n=>match look st.fr n with
    | .bool p=>(p=true->iha T st k)/\(p=false->ihb T st k)
    | _=>False)
  (fun id _ iha T st k=>iha T st fun e st' =>
   match e with
   | .normal=>k .normal st'
   | .exit j=>bif Nat.beq j id then k .normal st' else k (.exit j) st'
   | .ret=>k .ret st')
  (fun _ asg _ iha T st k =>
   ∃ V:Inv,∃ x:V.X,V.I x/\nP T.bnd asg st (V.fr x) (V.hp x) (fun h=>mM T.np T.bnd st h) /\
    ∀ x,V.I x->nP T.bnd asg st (V.fr x) (V.hp x) fun h=>stF h fun h=>iha T h fun e st' =>
     match e with
     | .normal=>∃ x',V.I x'/\nP T.bnd asg st (V.fr x') (V.hp x') (fun h'=>mM T.np T.bnd st' h')/\V.meas x' < V.meas x
     | .exit id=>k (.exit id) st'
     | .ret=>k .ret st')
  (fun id _ st k=>k (.exit id) st)
  (fun _ st k=>k .ret st)
  (fun _ asg _ iha T st k =>
   ∃ V:Inv,(iha T st fun e st' =>
    match e with
    | .normal=>∃ x,V.I x/\nP T.bnd asg st (V.fr x) (V.hp x) (fun h=>mM T.np T.bnd st' h)
    | .exit id=>k (.exit id) st'
    | .ret=>k .ret st') /\
   ∀ x,V.I x->nP T.bnd asg st (V.fr x) (V.hp x) fun h=>stF h fun h=>k .normal h)
  (fun _ f gid _ gn ps _ _ ihg iha ihb T st k =>
   match gx none st.fr f with
   | .fn kf caps=>bif Nat.beq kf gid && Nat.blt kf FM then bif Nat.blt st.nx FB then
     match st with
     | ⟨fr,hp,nx⟩=>oG (.cons (.yield nx) caps) gn /\
      ihg
       ⟨T.fs,(T.dep,fun id np bnd dep args hp' nx' K =>
        match get? hp' id with
        | some (.hid l 0)=>bif Nat.beq l T.dep then
          xB ps args fr fun fr1=>iha ⟨T.fs,T.ys,np,bnd,dep⟩ ⟨fr1,hp',nx'⟩ fun e st1 =>
           match e with
           | .normal=>match st1 with
            | ⟨fr2,hp2,nx2⟩=>match get? hp2 id with
             | some (.hid l 0)=>bif Nat.beq l T.dep then
               pU hp2 id (.hid T.dep 1) fun hp3=>ihb ⟨T.fs,T.ys,np,bnd,dep⟩ ⟨fr2,hp3,nx2⟩ fun e st2 =>
                match st2 with
                | ⟨_,hp4,nx4⟩=>match get? hp4 id with
                 | some (.hid l 1)=>bif Nat.beq l T.dep then pU hp4 id (.hid T.dep (E3 e)) fun hp5=>K (vL e) hp5 nx4 else False
                 | _=>False
              else False
             | _=>False
           | _=>False
         else False
        | _=>False)::T.ys,fN hp,nx+1,T.dep+1⟩
       ⟨oL (.cons (.yield nx) caps) 0,(nx,.hid T.dep 0)::hp,nx+1⟩ fun e st' =>
        match e with
        | .exit _=>False
        | _=>match st' with
         | ⟨_,hp',nx'⟩=>bif oM T.dep (drop? hp' nx) then
          match get? hp' nx with
          | some (.hid l pd)=>bif Nat.beq l T.dep then
            match pd with
            | 0=>k .normal ⟨fr,drop? hp' nx,nx'⟩
            | 1=>False
            | 2=>k .ret ⟨fr,drop? hp' nx,nx'⟩
            | n+3=>k (.exit n) ⟨fr,drop? hp' nx,nx'⟩
           else False
          | _=>False
         else False
    else False else False
   | _=>False)
  (fun f ps _ _ iha ihb T st k =>
  match gx none st.fr f with
  | .fn kf caps=>bif Nat.blt kf FM && Nat.blt st.nx FB then
    match get? T.fs kf with
    | some (.y S)=>match st with
     | ⟨fr,hp,nx⟩=>bif hid0s hp then
       ∃ x:S.X,∃ V:Nc,Jj hp (S.F0 x)/\S.pre x/\sub .y ((nx,.hid T.dep 0)::hp) 200 caps (S.args x)/\rH (S.F0 x)/\(∀ z,S.post x z->rH (S.F1 x z)) /\
        (∀ v,(qP hp (V.hp v) && qP (V.hp v) hp && oM T.dep (V.hp v) && Ct nx (V.hp v))=true) /\
        (∀ g,∃ v,V.I 0 v/\jQ (gQ ((nx,.hid T.dep 0)::hp) 0 (.fam (cY g))) fun h0=>jQ ((0,.fam (cY g))::(nx,.hid T.dep 0)::V.hp v) fun h1 =>
         mM (fN hp) (nx+1) ⟨[],h0,nx+1⟩ ⟨[],h1,V.nx⟩) /\
        (∀ i v g item,V.I i v->(S.items x)[i]?=some item->isL item=true/\jQ ((0,.fam (cY g))::(nx,.hid T.dep 0)::V.hp v) fun h0 =>
         (fun (id:Nat) (np:List Nat) (bnd dep:Nat) (args:SV) (hp':List (Nat×aT)) (nx':Nat) (K:Bool->List (Nat×aT)->Nat->Prop) =>
          match get? hp' id with
          | some (.hid l 0)=>bif Nat.beq l T.dep then
            xB ps args fr fun fr1=>iha ⟨T.fs,T.ys,np,bnd,dep⟩ ⟨fr1,hp',nx'⟩ fun e st1 =>
             match e with
             | .normal=>match st1 with
              | ⟨fr2,hp2,nx2⟩=>match get? hp2 id with
               | some (.hid l 0)=>bif Nat.beq l T.dep then
                 pU hp2 id (.hid T.dep 1) fun hp3=>ihb ⟨T.fs,T.ys,np,bnd,dep⟩ ⟨fr2,hp3,nx2⟩ fun e st2 =>
                  match st2 with
                  | ⟨_,hp4,nx4⟩=>match get? hp4 id with
                   | some (.hid l 1)=>bif Nat.beq l T.dep then pU hp4 id (.hid T.dep (E3 e)) fun hp5=>K (vL e) hp5 nx4 else False
                   | _=>False
                else False
               | _=>False
             | _=>False
           else False
          | _=>False) nx (fN h0) V.nx (T.dep+1) item h0 V.nx fun go hp' nx'=>go=true/\∃ v',V.I (i+1) v'/\jQ ((0,.fam (cY g))::(nx,.hid T.dep 0)::V.hp v') fun h1 =>
           mM (fN hp) (nx+1) ⟨[],hp',nx'⟩ ⟨[],h1,V.nx⟩) /\
        ∀ z v,S.post x z->V.I (S.items x).length v->jQ ((0,.fam (S.F1 x z))::V.hp v) fun h1=>k .normal ⟨fr,h1,V.nx⟩
      else False
    | _=>False
   else False
  | _=>False) c
theorem Ls:∀ c,X3 c=evC c:=by
 intro c;induction c with
 | skip=>funext T st k; simp only [evC]; rfl
 | region keep ops=>funext T st k; rw [evC,<- Ql]; rfl
 | drawn keep t=>funext T st k; rw [evC,<- Tz]; rfl
 | seq a b iha ihb=>funext T st k; rw [evC,<- iha,<- ihb]; rfl
 | cond c a b iha ihb=>funext T st k; rw [evC.eq_def]; simp only []; rw [<- iha,<- ihb]; rfl
 | block id a iha=>funext T st k; rw [evC,<- iha]; rfl
 | loop i asg a iha=>funext T st k; rw [evC,<- iha]; rfl
 | exit id=>funext T st k; simp only [evC]; rfl
 | ret=>funext T st k; simp only [evC]; rfl
 | join i asg a iha=>funext T st k; rw [evC,<- iha]; rfl
 | range i f gid g gn ps a b ihg iha ihb=>funext T st k; rw [evC,<- ihg,<- iha,<- ihb]; rfl
 | rangeY f ps a b iha ihb=>funext T st k; rw [evC,<- iha,<- ihb]; rfl
noncomputable def Du (np:List Nat) (tab:List (Nat×iA)) (sc:bH) (res:List mD) (args:SV) (hp:List (Nat×aT)) (nx:Nat) (K:SV->St->Prop):Prop :=
 X3 sc ⟨tab,[],np,0,0⟩ ⟨oL args 0,hp,nx⟩ fun e st =>
  match e with
  | .exit _=>False
  | _=>D0 st res fun l=>K (yU l) st
noncomputable def aAk (tab:List (Nat×iA)) (sc:bH) (res:List mD) (fresh:Bool) (args want:SV):Prop :=
 Du [] tab sc res args [] 0 fun sv st=>sub (match fresh with|true=>.strict|false=>.free) st.hp 200 sv want
theorem Cd {np:List Nat} {tab:List (Nat×iA)} {sc:bH} {res:List mD} {args:SV} {hp:List (Nat×aT)} {nx:Nat} {K:SV->St->Prop} (h:Du np tab sc res args hp nx K):Lt np tab sc res args hp nx K:=by
 unfold Du at h;rw [Ls] at h;exact h
def qT:Nat->SV->Bool
 | 0,_=>false
 | _+1,.int ..=>true
 | _+1,.bool ..=>true
 | _+1,.str ..=>true
 | _+1,.nil=>true
 | n+1,.cons h t=>qT n h && qT n t
 | _+1,_=>false
theorem Sy (k:Keep) (hp:List (Nat×aT)):∀ (n:Nat) (s:SV),qT n s=true->sub k hp n s s:=by
 intro n;induction n with
 | zero=>intro s h; cases h
 | succ n ih =>
  intro s h;cases s with
  | cons a b =>
   simp only [qT,aO] at h;exact ⟨ih a h.1,ih b h.2⟩
  | int=>exact ⟨rfl,rfl⟩
  | bool=>rfl
  | str=>rfl
  | nil=>trivial
  | _=>cases h
theorem lz {k:Keep} {hp:List (Nat×aT)} {m n:Nat} {f:Nat->SV} (h:∀ j,qT m (f j)=true):∀ j,j < n->oP k (sub k hp m) (f j) (f j):=fun j _=>Or.inl (Sy k hp m _ (h j))
theorem Spec.okR {P:Program} {f:Nat} {S:Spec} {G joins hint:List Nat} {rg:List (Nat×Nat×bH×Nat)} {sc:bH} {res:List mD} {n:Nat} (hc:cR P f G joins hint rg=some (sc,res,n)) (hrg:lP P rg)
  (tab:S.X->List (Nat×iA)) (htab:∀ x,S.pre x->aZ P (tab x))
  (h:∀ x,S.pre x->oG (S.args x) n/\aAk (tab x) sc res S.fresh (S.args x) (S.res x)):S.Ok P f :=
 Spec.uR hc hrg tab htab fun x hx=>⟨(h x hx).1,Cd (h x hx).2⟩
theorem bU.okR {P:Program} {f:Nat} {S:bU} {G joins hint:List Nat} {rg:List (Nat×Nat×bH×Nat)} {sc:bH} {res:List mD} {n:Nat} (hc:cR P f G joins hint rg=some (sc,res,n)) (hrg:lP P rg)
  (tab:S.X->List (Nat×iA)) (htab:∀ x,S.pre x->aZ P (tab x))
  (h:∀ x,S.pre x->oG (S.args x) n/\Du (upto S.nx0) (tab x) sc res (S.args x) (S.h0 x) S.nx0 fun sv st=>∃ y,S.post x y/\Ku (upto S.nx0) S.fresh sv st (S.res x y) (S.h1 x y) S.nx1):S.Ok P f :=
 bU.uR hc hrg tab htab fun x hx=>⟨(h x hx).1,Cd (h x hx).2⟩
end Go.Eng
end
section
namespace Go.Eng
open Go Go.RowKit
def Spec.mof (S:Spec) (Y:Type) (post:S.X->Y->Prop) (res:S.X->Y->SV):bU :=
 { X:=S.X,Y:=Y,args:=S.args,pre:=S.pre,h0:=fun _=>[],nx0:=0,post:=post,res:=res,h1:=fun _ _=>[],nx1:=0,fresh:=S.fresh }
theorem Spec.pR {P:Program} {f:Nat} {S:Spec} (h:S.Ok P f) {Y:Type} {post:S.X->Y->Prop} {res:S.X->Y->SV} (hy:∀ x,S.pre x->∃ y,post x y/\S.res x=res x y):(S.mof Y post res).Ok P f:=by
 refine ⟨h.call,?_⟩;intro x w μ vs T U hU hg hh hp hR;replace hh:bO (dW w T U μ 0) μ [] 0 w:=hh;replace hR:R (aN (dW w T U μ 0) μ [] w) (S.args x) vs:=hR;have hno:∀ id p,μ id≠some p:=by
  intro id p e;by_cases hn:id < FB
  ·exact absurd (hh.nx _ _ e hn) (bP _)
  ·obtain ⟨o,ho⟩:=hh.fam _ _ e (bJ.1 hn);rw [mS] at ho;cases ho
 have hU':∀ b,(aN (dW w T U μ 0) μ [] w).U b->b < w.heap.size/\Plain w b:=fun b hb=>⟨hb.1,hb.2.2.2⟩;have hR':R (kP (aN (dW w T U μ 0) μ [] w).U w) (S.args x) vs :=
  fQ (E:=aN (dW w T U μ 0) μ [] w) (E':=kP (aN (dW w T U μ 0) μ [] w).U w) ⟨⟨fun _ hb=>hb,fun _ _=>rfl⟩,fun id p e=>absurd e (hno id p)⟩ hR
 obtain ⟨y,py,ey⟩:=hy x hp;refine (h.does x w vs _ hU' hg.gok hp hR').mono ?_;intro e w' he;cases e with
 | returned v =>
  obtain ⟨k1,k2⟩:=he;rw [ey] at k1;refine ⟨y,μ,py,?_,?_,Kd.kY k2⟩
  ·refine ⟨⟨fun id o e=>(by cases e),fun id o e=>?_⟩,fun i i' o o' b c c' e=>?_,fun i o b c e=>?_,fun i o e=>(by cases e),hh.nx,hh.fam,fun _ _ e=>e,⟨k2.os,k2.tape,k2.output,k2.size,fun b hb _=>k2.block b hb,k2.drawn⟩,fun i p q _ _ g=>(by change hget [] i=some _ at g; rw [mS] at g; cases g)⟩
   ·change hget [] id=some o at e;rw [mS] at e; cases e
   ·change hget [] i=some o at e;rw [mS] at e; cases e
   ·change hget [] i=some o at e;rw [mS] at e; cases e
  ·refine fQ (E:=kP (Kh S.fresh (aN (dW w T U μ 0) μ [] w).U w w') w') (E':=aN (dW w T (Ufresh S.fresh U) μ 0) μ [] w') ⟨⟨?_,fun _ _=>rfl⟩,fun id p e=>(by cases e)⟩ k1;intro b hb;rcases hb with ⟨hf,hb⟩|⟨hb1,hb2,hb3⟩
   ·refine ⟨bX hb.1 k2.size,?_,fun id o c e=>(by change hget [] id=some o at e; rw [mS] at e; cases e),fun ds e=>hb.2.2.2 ds ((k2.block b hb.1).symm.trans e)⟩;rcases hb.2.1 with h1|h1|h1
    ·exact .inl ⟨hf,h1⟩
    ·exact .inr (.inl h1)
    ·exact .inr (.inr h1)
   ·exact ⟨hb2,.inr (.inr hb1),fun id o c e=>(by change hget [] id=some o at e; rw [mS] at e; cases e),hb3⟩
 | panicked c=>exact he
 | outgrown=>exact he
end Go.Eng
end
section
open Go Go.Eng Go.Proofs
set_option maxRecDepth 100000
namespace T1
abbrev B:=List UInt8
inductive NO where
 | none
 | node (a n m:Nat) (sz:Int) (mk:B)
 | map (l:List (cC×Nat×Nat)) (c:Nat)
 | arr (l:List B)
def idE (s:B):SV:=.cons (.str s) .nil
def aB5 (h:Nat):SV->Option Nat
 | .fown h' v 0=>bif Nat.beq h h' then some v else .none
 | _=>.none
def noO (h:Nat):NO->aT
 | .none=>.gone
 | .node a n m sz mk=>.cells 70 (.cons (.flsl h a 1 n) (.cons (.fmref h m) (.cons (.int .i64 sz) (.cons (.str mk) .nil))))
 | .map l c=>.map Nat (.i .u8) l c (fun v=>.fown h v 0) (aB5 h)
 | .arr l=>.arr 9 1 l.length fun i=>idE (l.getD i [])
def Is (h:Nat) (F:aT):NO->Prop
 | .none=>F=.gone
 | .node a n m sz mk=>F=.cells 70 (.cons (.flsl h a 1 n) (.cons (.fmref h m) (.cons (.int .i64 sz) (.cons (.str mk) .nil))))
 | .map l c=>∃ ev iv,F=.map Nat (.i .u8) l c ev iv/\∀ v,ev v=.fown h v 0
 | .arr l=>∃ enc,F=.arr 9 1 l.length enc/\∀ i,enc i=idE (l.getD i [])
theorem Is.no (h:Nat) (o:NO):Is h (noO h o) o:=by
 cases o with
 | none=>exact rfl
 | node=>exact rfl
 | map=>exact ⟨_,_,rfl,fun _=>rfl⟩
 | arr=>exact ⟨_,rfl,fun _=>rfl⟩
theorem Is.rn {h:Nat} {F:aT} {o:NO} {l r:List (Nat×Nat)} (k:Is h F o) (hb:Nat.blt h FB=true):Is ((get? l h).getD 0) (rnO l r F) o:=by
 cases o with
 | none=>obtain rfl:=k; exact rfl
 | node =>
  obtain rfl:=k;show aT.cells 70 _=_;simp only [rnS,hb,cond_true]
 | map =>
  obtain ⟨ev,iv,rfl,e⟩:=k;refine ⟨_,_,rfl,fun v=>?_⟩;rw [e v];simp only [rnS,hb,cond_true]
 | arr =>
  obtain ⟨enc,rfl,e⟩:=k;refine ⟨_,rfl,fun i=>?_⟩;rw [e i];rfl
theorem Is.sub {h h':Nat} {F:aT} {o:NO} {k:Keep} {hp:List (Nat×aT)} (i:Is h F o) (e:mL k h h'):iT k hp F (noO h' o):=by
 cases o with
 | none=>obtain rfl:=i; exact rfl
 | node=>obtain rfl:=i; exact ⟨rfl,⟨e,rfl,rfl,rfl⟩,⟨e,rfl⟩,⟨rfl,rfl⟩,rfl,trivial⟩
 | map l c =>
  obtain ⟨ev,iv,rfl,q⟩:=i;refine ⟨rfl,rfl,rfl,fun j x y h1 h2=>?_⟩;rw [h1] at h2;cases h2;refine ⟨rfl,rfl,?_⟩;rw [q];exact ⟨e,rfl,rfl⟩
 | arr l =>
  obtain ⟨enc,rfl,q⟩:=i;refine ⟨rfl,rfl,rfl,fun j _=>.inl ?_⟩;rw [q];exact ⟨rfl,trivial⟩
theorem mO {k:Keep} {hp:List (Nat×aT)} {h h':Nat} {l r:List (Nat×Nat)} (e:mL k ((get? l h).getD 0) h') (hb:Nat.blt h FB=true) (o:NO):iT k hp (rnO l r (noO h o)) (noO h' o):=((Is.no h o).rn hb).sub e
def put (N:Nat->NO) (j:Nat) (n:NO):Nat->NO:=fun i=>bif Nat.beq i j then n else N i
theorem eS (N:Nat->NO) (j:Nat) (n:NO):put N j n j=n:=by simp [put,Nat.beq_refl]
theorem Dk {i j:Nat} (h:i≠j):Nat.beq i j=false:=by
 cases e:Nat.beq i j with
 | false=>rfl
 | true=>exact absurd (cQ e) h
theorem bS {N:Nat->NO} {i j:Nat} {n:NO} (h:i≠j):put N j n i=N i:=by simp [put,Dk h]
theorem nB {k:Keep} {hp:List (Nat×aT)} {h h':Nat} (e:mL k h h') (o:NO):iT k hp (noO h o) (noO h' o):=by
 cases o with
 | none=>exact rfl
 | node a n m sz mk=>exact ⟨rfl,⟨e,rfl,rfl,rfl⟩,⟨e,rfl⟩,⟨rfl,rfl⟩,rfl,trivial⟩
 | map l c =>
  refine ⟨rfl,rfl,rfl,fun i x y h1 h2=>?_⟩;rw [h1] at h2;cases h2;exact ⟨rfl,rfl,e,rfl,rfl⟩
 | arr l=>exact ⟨rfl,rfl,rfl,fun i _=>.inl ⟨rfl,trivial⟩⟩
theorem sA {k:Keep} {hp:List (Nat×aT)} {h:Nat} {f:Nat->aT} {N:Nat->NO} {j:Nat} {o:aT} {n:NO} (h1:iT k hp o (noO h n)) (h2:∀ i,iT k hp (f i) (noO h (N i))) :
  ∀ i,iT k hp (bif Nat.beq i j then o else f i) (noO h (put N j n i)):=by
 intro i;unfold put;cases Nat.beq i j with
 | true=>exact h1
 | false=>exact h2 i
theorem Sw {k:Keep} {hp:List (Nat×aT)} {h c:Nat}:iT k hp (.map SV (.i .u8) [] c id some) (noO h (.map [] c)) :=
 ⟨rfl,rfl,rfl,fun i x y h1 _=>by simp at h1⟩
theorem oF {k:Keep} {hp:List (Nat×aT)} {h h' a n m:Nat} {sz:Int} {mk:B} (e:mL k h h'):iT k hp (.cells 70 (.cons (.flsl h a 1 n) (.cons (.fmref h m) (.cons (.int .i64 sz) (.cons (.str mk) .nil))))) (noO h' (.node a n m sz mk)):=nB e (.node a n m sz mk)
theorem Pf {k:Keep} {hp:List (Nat×aT)} {h h' a m:Nat} {sz:Int} {mk:B} (e:mL k h h'):iT k hp (.cells 70 (.cons .nilsl (.cons (.fmref h m) (.cons (.int .i64 sz) (.cons (.str mk) .nil))))) (noO h' (.node a 0 m sz mk)) :=
 ⟨rfl,rfl,⟨e,rfl⟩,⟨rfl,rfl⟩,rfl,trivial⟩
def Tk (l:List (cC×Nat×Nat)) (q:Nat):Prop:=(∀ x∈l,x.2.2 < q)/\(l.map (·.2.2)).Nodup
structure Cl (N:Nat->NO) (c:Nat):Prop where
 free:∀ i,c<=i->N i=.none
 kids:∀ i a n m sz mk,N i=.node a n m sz mk->∃ l q,N m=.map l q
 ent:∀ i l q,N i=.map l q->∀ x∈l,x.1.kind=.i .u8/\∃ a n m sz mk,N x.2.1=.node a n m sz mk
 lst:∀ i a n m sz mk,N i=.node a n m sz mk->(N a=.none/\n=0)\/∃ A,N a=.arr A/\A≠[]/\n<=A.length
 lim:∀ i a n m sz mk,N i=.node a n m sz mk->a < c
 own:∀ i j a n m sz mk n' m' sz' mk',N i=.node a n m sz mk->N j=.node a n' m' sz' mk'->i=j
 tick:∀ i l q,N i=.map l q->Tk l q
def gO (N:Nat->NO) (a n:Nat):List B :=
 match N a with
 | .arr A=>A.take n
 | _=>[]
theorem A3 {N:Nat->NO} {a n:Nat} {A:List B} (h:N a=.arr A):gO N a n=A.take n:=by simp only [gO,h]
theorem pP {N:Nat->NO} {a n:Nat} (h:(N a=.none/\n=0)\/∃ A,N a=.arr A/\A≠[]/\n<=A.length):(gO N a n).length=n:=by
 rcases h with ⟨h1,h2⟩|⟨A,h1,_,h2⟩
 ·simp only [gO,h1,h2]; rfl
 ·rw [A3 h1,cG]; omega
def oV (N:Nat->NO) (i:Nat):List B :=
 match N i with
 | .node a n _ _ _=>gO N a n
 | _=>[]
theorem rQ {N:Nat->NO} {i a n m:Nat} {sz:Int} {mk:B} (h:N i=.node a n m sz mk):oV N i=gO N a n:=by simp only [oV,h]
def isNode (N:Nat->NO) (i:Nat):Prop:=∃ a n m sz mk,N i=.node a n m sz mk
theorem Cl.lt {N:Nat->NO} {c i:Nat} (h:Cl N c) (hn:N i≠.none):i < c:=by
 rcases jO i c with h'|h'
 ·exact h'
 ·exact absurd (h.free i h') hn
def tH (i h r:Nat) (N:Nat->NO):List (Nat×aT):=[(i,.cells 64 (.cons (.fown h r 0) .nil)),(h,.fam fun q=>noO h (N q))]
def g39:List Nat:=[0]
def c39:bH :=
 .seq (.region g39 [(zo 0 (.move (.c (.nilptr))))]) (.seq (.region g39 [(zo 1 (.mkmap (.i (.u8)))),(zo 2 (.build (.cons (.nilsl) (.cons (.nilmap) (.cons (.int .i64 0) (.cons (.str []) .nil)))) [(1,1,.s 1)])),(zo 3 (.box 70 (.s 2))),(mv 0 3)]) .ret)
theorem e39:cR Tryz.prog 39 g39 [] [] []=some (c39,[.slot 0],4):=by kernel_rfl
def lE (N:Nat->NO) (c:Nat):Nat->NO:=put (put N c (.map [] 0)) (c+1) (.node (c+2) 0 c 0 [])
def Y9:bU where
 X:=(Nat->NO)×Nat
 Y:=Unit
 args:=fun _=>.nil
 pre:=fun x=>Cl x.1 x.2
 h0:=fun x=>[(0,.fam fun q=>noO 0 (x.1 q))]
 nx0:=1
 post:=fun _ _=>True
 res:=fun x _=>.fown 0 (x.2+1) 0
 h1:=fun x _=>[(0,.fam fun q=>noO 0 (lE x.1 x.2 q))]
 nx1:=1
theorem Rz:Y9.Ok Tryz.prog 39:=by
 refine Eng.bU.okR e39 .nil (fun _=>[(3145798,.own)]) (fun _ _=>aZ.o aZ.nil) ?_;rintro ⟨N,c⟩ (hc:Cl N c);have f0:N c=.none:=hc.free c (aL _);have f1:N (c+1)=.none:=hc.free _ (by omega);have g0:noO 0 (N c)=.gone:=by rw [f0]; rfl
 have g1:(bif Nat.beq (c+1) c then aT.map SV (.i .u8) [] 0 id some else noO 0 (N (c+1)))=.gone:=by rw [Dk (by omega),f1]; rfl
 refine ⟨trivial,?_⟩;refine aB c (aA g0 ?_);refine aB (c+1) (aA g1 ?_);repeat' (first|apply aA|exact trivial|exact rfl|refine aB () ?_|fail)
 exact sA (Pf (by exact rfl)) (sA Sw fun i=>nB (by exact rfl) (N i))
theorem zm (N:Nat->NO) {k:Keep} {hp:List (Nat×aT)} {h h':Nat} (e:mL k h h'):∀ i,iT k hp (noO h (N i)) (noO h' (N i)):=fun i=>nB e (N i)
theorem zr (N:Nat->NO) {k:Keep} {hp:List (Nat×aT)} {h h':Nat} {l r:List (Nat×Nat)} (e:mL k ((get? l h).getD 0) h') (hb:Nat.blt h FB=true):∀ i,iT k hp (rnO l r (noO h (N i))) (noO h' (N i)):=fun i=>mO e hb (N i)
end T1
end
section
open Go Go.Eng Go.Proofs
set_option maxRecDepth 100000
namespace D1
def W9 (f:Nat->Int):Nat->Int
 | 0=>0
 | j+1=>jK .or .u64 (shI .shl .u64 (W9 f j) 8) (f j)
def C9 (s:Int) (f:Nat->Int):Int :=
 let x:=jK .xor .u64 s (W9 f 8);let y:=IntKind.u64.wrap (jK .xor .u64 x (shI .shr .u64 x 31) * 11400714819323198485);let z:=IntKind.u64.wrap (jK .xor .u64 y (shI .shr .u64 y 27) * 15074714826142052245)
 jK .xor .u64 z (shI .shr .u64 z 33)
theorem Fk (x:Int):0<=IntKind.u64.wrap x/\IntKind.u64.wrap x < 18446744073709551616 :=
 ⟨Int.emod_nonneg _ (by decide),Int.emod_lt_of_pos _ (by decide)⟩
theorem Fl (a b:Int):0<=jK .xor .u64 a b/\jK .xor .u64 a b < 18446744073709551616:=Fk _
theorem Vq (s:Int) (f:Nat->Int):0<=C9 s f/\C9 s f < 18446744073709551616:=Fl _ _
def g90:List Nat:=[1,8,5,3,7,4,0,6]
def c90:bH :=
 .seq (.region g90 [(zo 3 (.box 144 (.s 1)))]) (.seq (.region g90 [(zo 4 (.move (.c (.int (.u64) 0))))]) (.seq (.seq (.region g90 [(zo 7 (.move (cj 0)))]) (.block 0 (.loop 0 [8,9,5,10,11,12,13,14,15,16,4,17,7] (.seq (.region g90 [(zo 8 (.bin (.lss) (.s 7) (cj 8)))]) (.seq (.cond (.s 8) .skip (.exit 0)) (.seq (.block 1 (.seq (.region g90 [(mv 9 7),(mv 5 9)]) (.region g90 [(mv 10 4),(zo 11 (.bin (.shl) (.s 10) (.c (.int (.u64) 8)))),(mv 12 5),(zo 13 (.idxArr 8 1 (.s 3) (.s 12))),(ld 14 13),(zo 15 (.cnv (.u64) (.s 14))),(zo 16 (.bin (.or) (.s 11) (.s 15))),(mv 4 16)]))) (.region g90 [(zo 17 (.bin (.add) (.s 7) (cj 1))),(mv 7 17)]))))))) (.seq (.region g90 [(mv 18 0),(zo 19 (.nilCheck (.s 18))),(ld 20 19),(mv 21 4),(zo 22 (.bin (.xor) (.s 20) (.s 21))),(mv 6 22)]) (.seq (.region g90 [(mv 23 6),(mv 24 6),(zo 25 (.bin (.shr) (.s 24) (.c (.int (.u64) 31)))),(zo 26 (.bin (.xor) (.s 23) (.s 25))),(zo 27 (.bin (.mul) (.s 26) (.c (.int (.u64) 11400714819323198485)))),(mv 6 27)]) (.seq (.region g90 [(mv 28 6),(mv 29 6),(zo 30 (.bin (.shr) (.s 29) (.c (.int (.u64) 27)))),(zo 31 (.bin (.xor) (.s 28) (.s 30))),(zo 32 (.bin (.mul) (.s 31) (.c (.int (.u64) 15074714826142052245)))),(mv 6 32)]) (.region g90 [(mv 33 0),(mv 34 6),(mv 35 6),(zo 36 (.bin (.shr) (.s 35) (.c (.int (.u64) 33)))),(zo 37 (.bin (.xor) (.s 34) (.s 36))),(zo 38 (.nilCheck (.s 33))),⟨none,none,.store 1 (.s 38) (.s 37),[]⟩]))))))
theorem e90:cR Tryz.prog 90 g90 [] [] []=some (c90,[],39):=by kernel_rfl
def Ww:bU where
 X:=Int×(Nat->Int)
 Y:=Int
 args:=fun x=>.cons (.own 0 0) (.cons (.agg (.ints .u8 8 x.2 .nil)) .nil)
 pre:=fun x=>(0<=x.1/\x.1 < 18446744073709551616)/\∀ i,i < 8->0<=x.2 i/\x.2 i < 256
 h0:=fun x=>[(0,.cells 118 (.cons (.int .u64 x.1) .nil))]
 nx0:=1
 post:=fun x y=>y=C9 x.1 x.2
 res:=fun _ _=>.tup .nil
 h1:=fun _ y=>[(0,.cells 118 (.cons (.int .u64 y) .nil))]
 nx1:=1
theorem Vr:Ww.Ok Tryz.prog 90:=by
 refine Eng.bU.okR e90 .nil (fun _=>[]) (fun _ _=>aZ.nil) ?_;rintro ⟨s,f⟩ ⟨⟨(h0:0<=s),(h1:s < 18446744073709551616)⟩,(h2:∀ i,i < 8->0<=f i/\f i < 256)⟩;refine ⟨trivial,?_⟩;refine ⟨⟨Nat,fun j=>j<=8,fun j=>[(7,.int .i64 (j:Int)),(4,.int .u64 (W9 f j))],fun _=>[],fun j=>8 - j⟩,0,?_,?_,?_⟩
 ·exact bB _
 ·repeat' (first|apply aA|exact trivial|exact rfl|exact fun _ _=>rfl|fail)
 rintro (j:Nat) (k0:j<=8);repeat' (first|refine aA ?_ ?_)
 ·refine fun (h:decide ((j:Int) < 8)=true)=>?_;have hj:j < 8:=by have:=of_decide_eq_true h; omega
  have g0:(0:Int)<=(j:Int):=by omega
  have g1:(j:Int) < 8:=by omega
  have g4:j < 8:=hj;repeat' (first|apply aA|with_reducible exact g0)
  ·exact (by decide:(0:Int)<=8)
  ·exact g1
  ·exact g4
  ·exact (h2 j hj).1
  ·show f j<=18446744073709551615;have:=(h2 j hj).2; omega
  ·show -9223372036854775808<=(j:Int)+1;omega
  ·show (j:Int)+1<=9223372036854775807;omega
  refine aB (j+1) ?_;have k1:j+1<=8:=hj;have k2:8 - (j+1) < 8 - j:=by omega
  repeat' (first|apply aA|exact trivial|exact rfl|(with_reducible first|exact k1|exact k2)|exact fun _ _=>rfl|fail)
 ·refine fun (h:decide ((j:Int) < 8)=false)=>?_;have hj:j=8:=by have:=of_decide_eq_false h; omega
  subst hj;repeat' (first|refine aA ?_ ?_)
  ·exact (by decide:(0:Int)<=31)
  ·exact (by decide:(0:Int)<=27)
  ·exact (by decide:(0:Int)<=33)
  refine aB (C9 s f) ?_;repeat' (first|apply aA|exact trivial|exact rfl)
end D1
end
section
open Go Go.Eng Go.Proofs D1
set_option maxRecDepth 100000
namespace D2
def sS (t:List UInt8):Nat->Int:=fun i=>bif Nat.blt i (min t.length 8) then ((t.getD i 0).toNat:Int) else 0
def rM (t:List UInt8) (s:Int):Nat->Int
 | 0=>s
 | j+1=>C9 (rM t s j) (sS (t.drop (8 * j)))
theorem P2 (t:List UInt8) (i:Nat):0<=sS t i/\sS t i < 256:=by
 unfold sS;cases Nat.blt i (min t.length 8) with
 | true=>exact ⟨jE _,by have:=(t.getD i 0).toNat_lt; show ((t.getD i 0).toNat:Int) < 256; omega⟩
 | false=>exact ⟨iF _,(by decide:(0:Int) < 256)⟩
theorem P1 (t:List UInt8) {s:Int} (h:0<=s/\s < 18446744073709551616):∀ j,0<=rM t s j/\rM t s j < 18446744073709551616
 | 0=>h
 | _+1=>Vq _ _
def g89:List Nat:=[9,0,1,5,4]
def c89:bH :=
 .seq (.region g89 [(zo 4 (.move (cj 0)))]) (.block 0 (.loop 0 [6,7,8,9,5,12,13,14,15,16,17,18,19,10,11,4] (.seq (.seq (.region g89 [(mv 6 4),(mv 7 0),(zo 8 (.lenStr (.s 7))),(zo 9 (.bin (.leq) (.s 6) (.s 8)))]) (.cond (.s 9) .skip (.exit 0))) (.seq (.block 1 (.seq (.region g89 [(zo 5 (.alloc 144 (.zeros (.u8) 8 .nil)))]) (.seq (.drawn g89 (.pure 1 (mv 13 0) (.pure 2 (mv 14 4) (.pure 3 (zo 15 (.sliceStr (.s 13) (some (.s 14)) none)) (.eff 0 (zo 12 (.arrSl 8 1 0 (.s 5))) [] (.eff 4 (zo 16 (.cpyS (.s 12) (.s 15))) [] .done .none) .none))))) (.region g89 [(mv 17 1),(zo 18 (.load 8 true (.s 5))),(zo 19 (.call (.s 17) [.s 18]))])))) (.region g89 [(mv 10 4),(zo 11 (.bin (.add) (.s 10) (cj 8))),(mv 4 11)])))))
theorem e89:cR Tryz.prog 89 g89 [] [] []=some (c89,[],20):=by kernel_rfl
def Vz:bU where
 X:=List UInt8×Int
 Y:=Unit
 args:=fun x=>.cons (.str x.1) (.cons (.fn 1048666 (.cons (.own 0 0) .nil)) .nil)
 pre:=fun x=>(0<=x.2/\x.2 < 18446744073709551616)/\x.1.length < 4611686018427387904
 h0:=fun x=>[(0,.cells 118 (.cons (.int .u64 x.2) .nil))]
 nx0:=1
 post:=fun _ _=>True
 res:=fun _ _=>.tup .nil
 h1:=fun x _=>[(0,.cells 118 (.cons (.int .u64 (rM x.1 x.2 (x.1.length / 8+1))) .nil))]
 nx1:=1
theorem Tp:Vz.Ok Tryz.prog 89:=by
 refine Eng.bU.okR e89 .nil (fun _=>[(90,.m Ww),(4145728,.own)]) (fun _ _=>aZ.m Vr (aZ.o aZ.nil)) ?_;rintro ⟨t,s⟩ ⟨(h0:0<=s/\s < 18446744073709551616),(ht:t.length < 4611686018427387904)⟩;refine ⟨trivial,?_⟩;refine ⟨⟨Nat,fun j=>8 * j<=t.length+8,fun j=>[(4,.int .i64 ((8 * j:Nat):Int))],fun j=>[(0,.cells 118 (.cons (.int .u64 (rM t s j)) .nil))],fun j=>t.length+8 - 8 * j⟩,0,?_,?_,?_⟩
 ·exact bB _
 ·repeat' (first|apply aA|exact trivial|exact rfl)
 rintro (j:Nat) (k0:8 * j<=t.length+8);have hb:=P1 t h0 j;repeat' (first|refine aA ?_ ?_)
 ·refine fun (h:decide (((8 * j:Nat):Int)<=(t.length:Int))=true)=>?_;have hj:8 * j<=t.length:=by have:=of_decide_eq_true h; omega
  repeat' (first|apply aA|exact trivial)
  ·show (0:Int)<=((8 * j:Nat):Int);omega
  ·show ((8 * j:Nat):Int)<=(t.length:Int);omega
  refine aB (rM t s j,sS (t.drop (8 * j))) (aB [0] ?_);have hbb:∀ i,i < 8->0<=sS (t.drop (8 * j)) i/\sS (t.drop (8 * j)) i < 256:=fun i _=>P2 _ i;repeat' (first|exact hb|exact hbb|apply aA|exact trivial|exact rfl|exact fun _ _=>rfl|fail)
  refine fun (y:Int) (hy:y=C9 (rM t s j) (sS (t.drop (8 * j))))=>?_;have hy':y=rM t s (j+1):=hy;have e8:((8 * j:Nat):Int)+8=((8 * (j+1):Nat):Int):=by omega
  have k1:8 * (j+1)<=t.length+8:=by omega
  have k2:t.length+8 - 8 * (j+1) < t.length+8 - 8 * j:=by omega
  have g1:-9223372036854775808<=((8 * j:Nat):Int)+8:=by omega
  have g2:((8 * j:Nat):Int)+8<=9223372036854775807:=by omega
  repeat' (first|apply aA|(with_reducible first|exact g1|exact g2))
  refine aB (j+1) ?_;repeat' (first|apply aA|exact trivial|exact rfl|(with_reducible first|exact k1|exact k2)|exact hy')
 ·refine fun (h:decide (((8 * j:Nat):Int)<=(t.length:Int))=false)=>?_;have hj:j=t.length / 8+1:=by have:=of_decide_eq_false h; omega
  subst hj;refine aB () ?_;repeat' (first|apply aA|exact trivial|exact rfl)
end D2
end
section
open Go Go.Eng Go.Proofs D1 D2
set_option maxRecDepth 100000
namespace D3
def dgt (n:Nat):UInt8:=if n < 10 then (48+n).toUInt8 else (87+n).toUInt8
def Eh:Nat->Nat->List UInt8->List UInt8
 | 0,_,acc=>acc
 | f+1,n,acc=>if n < 16 then dgt n::acc else Eh f (n / 16) (dgt (n % 16)::acc)
def vM (n:Int):List UInt8:=Eh 16 n.toNat []
theorem Ge:∀ (f n:Nat) (acc:List UInt8),(Eh f n acc).length<=f+acc.length
 | 0,n,acc=>by simp [Eh]
 | f+1,n,acc=>by
  simp only [Eh];split
  ·simp only [aY]; omega
  ·have:=Ge f (n / 16) (dgt (n % 16)::acc);simp only [aY] at this;omega
theorem Ei (n:Int):(vM n).length<=16:=Ge 16 _ []
def fmtS:Eng.Spec where
 X:=Int
 args:=fun n=>.cons (.int .u64 n) (.cons (.int .i64 16) .nil)
 pre:=fun n=>0<=n/\n < 18446744073709551616
 res:=fun n=>.str (vM n)
 inst:=fun
  | .cons (.int _ n) _=>some n
  | _=>none
def Se:Eng.Spec where
 X:=List UInt8×Int
 args:=fun x=>.cons (.str x.1) (.cons (.int .i64 x.2) .nil)
 pre:=fun x=>x.1.length=1/\0<=x.2/\x.2<=16
 res:=fun x=>.str (List.replicate x.2.toNat x.1).flatten
 inst:=fun
  | .cons (.str s) (.cons (.int _ n) _)=>some (s,n)
  | _=>none
def qH (t:List UInt8):Int:=jK .xor .u64 7640891576956012809 (t.length:Int)
def H7 (t:List UInt8):List UInt8 :=
 (List.replicate (16 - ((vM (rM t (qH t) (t.length / 8+1))).length:Int)).toNat [48]).flatten++vM (rM t (qH t) (t.length / 8+1))
def g62:List Nat:=[0,3,4,2]
def c62:bH :=
 .seq (.region g62 [(zo 2 (.move (.c (.str []))))]) (.seq (.region g62 [(mv 5 0),(zo 6 (.lenStr (.s 5))),(zo 7 (.cnv (.u64) (.s 6))),(zo 8 (.bin (.xor) (.c (.int (.u64) 7640891576956012809)) (.s 7))),(zo 3 (.alloc 118 (.cons (.int (.u64) 0) .nil))),⟨none,none,.store 1 (.s 3) (.s 8),[]⟩]) (.seq (.region g62 [(mv 9 0),(zo 10 (.mkfn 1048666 [.s 3])),(zo 11 (.call (.c (.fn 89)) [.s 9,.s 10]))]) (.seq (.region g62 [(ld 12 3),(zo 13 (.call (.c (.fn 91)) [.s 12,cj 16])),(mv 4 13)]) (.seq (.region g62 [(mv 14 4),(zo 15 (.lenStr (.s 14))),(zo 16 (.bin (.sub) (cj 16) (.s 15))),(zo 17 (.call (.c (.fn 92)) [.c (.str [48]),.s 16])),(mv 18 4),(zo 19 (.bin (.add) (.s 17) (.s 18))),(mv 2 19)]) .ret))))
theorem e62:cR Tryz.prog 62 g62 [] [] []=some (c62,[.slot 2],20):=by kernel_rfl
def S0:Eng.Spec where
 X:=List UInt8
 args:=fun t=>.cons (.str t) .nil
 pre:=fun t=>t.length < 4611686018427387904
 res:=fun t=>.str (H7 t)
 inst:=fun
  | .cons (.str s) _=>some s
  | _=>none
theorem Kw (hf:fmtS.Ok Tryz.prog 91) (hr:Se.Ok Tryz.prog 92):S0.Ok Tryz.prog 62:=by
 refine Eng.Spec.okR e62 .nil (fun _=>[(89,.m Vz),(91,.p fmtS),(92,.p Se)]) (fun _ _=>aZ.m Tp (aZ.p hf (aZ.p hr aZ.nil))) ?_;rintro (t:List UInt8) (ht:t.length < 4611686018427387904);have hs:0<=qH t/\qH t < 18446744073709551616:=Fl _ _;have hb:=P1 t hs (t.length / 8+1);have hl:=Ei (rM t (qH t) (t.length / 8+1));refine ⟨trivial,?_⟩;repeat' (first|refine aA ?_ ?_)
 ·show (0:Int)<=(t.length:Int);omega
 ·show (t.length:Int)<=18446744073709551615;omega
 have q1:-9223372036854775808<=(16:Int) - ((vM (rM t (qH t) (t.length / 8+1))).length:Int):=by omega
 have q2:(16:Int) - ((vM (rM t (qH t) (t.length / 8+1))).length:Int)<=9223372036854775807:=by omega
 have q3:0<=(16:Int) - ((vM (rM t (qH t) (t.length / 8+1))).length:Int):=by omega
 have q4:(16:Int) - ((vM (rM t (qH t) (t.length / 8+1))).length:Int)<=16:=by omega
 have rl:∀ n:Nat,(List.replicate n [(48:UInt8)]).flatten.length=n:=by
  intro n;induction n with
  | zero=>rfl
  | succ n ih=>rw [List.replicate_succ,jX,aV,ih]; simp only [aY,dA]; omega
 have q5:(List.replicate ((16:Int) - ((vM (rM t (qH t) (t.length / 8+1))).length:Int)).toNat [(48:UInt8)]).flatten.length+(vM (rM t (qH t) (t.length / 8+1))).length<=9223372036854775807:=by
  rw [rl]; omega
 refine aB (t,qH t) (aB [0] ?_);repeat' (first|exact hs|exact ht|apply aA|exact trivial|exact rfl)
 refine fun (_:Unit) (_:True)=>?_;repeat' (first|exact hb|apply aA|exact trivial|exact rfl|(with_reducible first|exact q1|exact q2|exact q3|exact q4))
 ·exact q5
end D3
end
section
namespace Go.Eng
open Go Go.RowKit Go.Proofs Go.Shelf
theorem uW {P:Program} {f:Nat} {S:Spec} (hc:∀ args w,(callFunc f args).run P w=.ok (.enter f args) w)
  (h:∀ (x:S.X) (w:World) (vs:List Value) (U:Nat->Prop),GV w->S.pre x->R (kP U w) (S.args x) vs ->
   ∃ v,Calls P f vs.toArray w (fun e w'=>e=.returned v/\w'=w)/\∀ E,R E (S.res x) [v]):S.Ok P f:=by
 refine ⟨hc,?_⟩;intro x w vs U hU hgv hp hR;obtain ⟨v,h1,h2⟩:=h x w vs U hgv hp hR;refine h1.mono ?_;rintro e w' ⟨rfl,rfl⟩;exact ⟨h2 _,Below.refl _ _⟩
def pN:Spec where
 X:=List UInt8×Int
 args:=fun x=>.cons (.str x.1) (.cons (.int .u8 x.2) .nil)
 pre:=fun _=>True
 res:=fun x=>.int .i64 (Lib.indexByte x.1 x.2.toNat.toUInt8)
 inst:=fun s=>match s with
  | .cons (.str t) (.cons (.int _ c) _)=>some (t,c)
  | _=>none
theorem Ej {P:Program} {ρ:Ren} (L:Lays.n137 P ρ) (hc:∀ args w,(callFunc (ρ.f 137) args).run P w=.ok (.enter (ρ.f 137) args) w):pN.Ok P (ρ.f 137):=by
 refine uW hc ?_;rintro ⟨t,c⟩ w vs U _ _ hR;simp only [pN,R] at hR;obtain ⟨v1,r1,rfl,h1,v2,r2,rfl,h2,rfl⟩:=hR;obtain rfl:=aC.1 h1;obtain rfl:=aC.1 h2;exact ⟨_,Any.strings_IndexByte L ⟨t.toArray⟩ c w,fun E=>by simp only [pN,R]⟩
def pK:Spec where
 X:=List UInt8×List UInt8
 args:=fun x=>.cons (.str x.1) (.cons (.str x.2) .nil)
 pre:=fun _=>True
 res:=fun x=>.bool (Lib.hasPrefix x.1 x.2)
 inst:=fun s=>match s with
  | .cons (.str t) (.cons (.str c) _)=>some (t,c)
  | _=>none
theorem Eg {P:Program} {ρ:Ren} (L:Lays.n99 P ρ) (hc:∀ args w,(callFunc (ρ.f 99) args).run P w=.ok (.enter (ρ.f 99) args) w):pK.Ok P (ρ.f 99):=by
 refine uW hc ?_;rintro ⟨t,c⟩ w vs U _ _ hR;simp only [pK,R] at hR;obtain ⟨v1,r1,rfl,h1,v2,r2,rfl,h2,rfl⟩:=hR;obtain rfl:=aC.1 h1;obtain rfl:=aC.1 h2;exact ⟨_,Any.strings_HasPrefix L ⟨t.toArray⟩ ⟨c.toArray⟩ w,fun E=>by simp only [pK,R]⟩
end Go.Eng
end
section
namespace Go.Eng
open Go Go.RowKit Go.Proofs Go.Shelf
theorem uV {P:Program} {f:Nat} {S:Spec} (hc:∀ args w,(callFunc f args).run P w=.ok (.enter f args) w)
  (h:∀ (x:S.X) (w:World) (vs:List Value) (U:Nat->Prop),GV w->S.pre x->R (kP U w) (S.args x) vs ->
   ∃ v,Calls P f vs.toArray w (fun e w'=>e=.returned v/\Eng.Below w.heap.size w w')/\∀ E,R E (S.res x) [v]):S.Ok P f:=by
 refine ⟨hc,?_⟩;intro x w vs U hU hgv hp hR;obtain ⟨v,h1,h2⟩:=h x w vs U hgv hp hR;refine h1.mono ?_;rintro e w' ⟨rfl,hb⟩;exact ⟨h2 _,hb⟩
end Go.Eng
end
section
namespace Go.Eng
open Go Go.RowKit Go.Proofs Go.Shelf Go.Sort
theorem oD {P:Program} {f:Nat} {S:Spec} (hc:∀ args w,(callFunc f args).run P w=.ok (.enter f args) w)
  (h:∀ (x:S.X) (w:World) (vs:List Value) (U:Nat->Prop),(∀ b,U b->b < w.heap.size/\Plain w b)->GV w->S.pre x->R (kP U w) (S.args x) vs ->
   Calls P f vs.toArray w fun e w'=>∃ v,e=.returned v/\Below w.heap.size w w'/\R (kP (Kh S.fresh U w w') w') (S.res x) [v]):S.Ok P f:=by
 refine ⟨hc,?_⟩;intro x w vs U hU hg hp hR;refine (h x w vs U hU hg hp hR).mono ?_;rintro e w' ⟨v,rfl,h1,h2⟩;exact ⟨h2,h1⟩
theorem Oy:pow10=Lib.pow10Tab:=by decide
theorem DLe.no {w w':World} (h:DRN=false):DLe w w':=fun e=>by rw [h] at e; cases e
def B7 (s:List UInt8):Int:=match Lib.atoiAll s with
 | .ok v=>v
 | .range=>Lib.atoiSat s
 | _=>0
def pF:Spec where
 X:=List UInt8
 args:=fun x=>.cons (.str x) .nil
 pre:=fun x=>x.length<=1000000
 res:=fun x=>.tup (.cons (.int .i64 (B7 x)) (.cons .junk .nil))
 inst:=fun s=>match s with
  | .cons (.str t) _=>some t
  | _=>none
theorem Ip (hD:DRN=false) {P:Program} {ρ:Ren} (L:LaysC.n172 P ρ) (h15:ρ.g 15=Qw) (h16:ρ.g 16=Qv) (hc:∀ args w,(callFunc (ρ.f 172) args).run P w=.ok (.enter (ρ.f 172) args) w):pF.Ok P (ρ.f 172):=by
 refine oD hc ?_;intro t w vs U hU hg hp hR;replace hp:t.length<=1000000:=hp;simp only [pF,R] at hR;obtain ⟨v1,r1,rfl,e1,rfl⟩:=hR;obtain rfl:=aC.1 e1;have hsz:ByteArray.size ⟨t.toArray⟩=t.length:=by rw [Lib.size_eq]
 cases hA:Lib.atoiAll t with
 | ok v =>
  refine (Any.strconv_Atoi_ok L ⟨t.toArray⟩ (by rw [hsz]; omega) v hA w).mono ?_;rintro e w' ⟨rfl,hw⟩;refine ⟨_,rfl,?_,?_⟩
  ·rcases hw with rfl|⟨s,rfl⟩
   ·exact Below.refl _ _
   ·exact .rU (Go.Joins.below_bytesWorld _ w _ s (aL _)) (DLe.no hD)
  ·simp only [pF,R,B7,hA];exact ⟨_,rfl,_,_,rfl,rfl,_,_,rfl,⟨_,rfl⟩,rfl⟩
 | range =>
  obtain ⟨ev,h1,h2⟩:=hg.r;refine (Any.strconv_Atoi_range L ⟨t.toArray⟩ (by rw [hsz]; omega) hA ev w (by rw [h16]; exact h1) h2).mono ?_;rintro e w' ⟨N,rfl,_,_,hb⟩;refine ⟨_,rfl,.rU hb (DLe.no hD),?_⟩;simp only [pF,R,B7,hA];exact ⟨_,rfl,_,_,rfl,rfl,_,_,rfl,⟨_,rfl⟩,rfl⟩
 | _ =>
  obtain ⟨ev,h1,h2⟩:=hg.s;refine (Any.strconv_Atoi_syntax L ⟨t.toArray⟩ (by rw [hsz]; omega) hA ev w (by rw [h15]; exact h1) h2).mono ?_;rintro e w' ⟨N,rfl,_,_,hb⟩;refine ⟨_,rfl,.rU hb (DLe.no hD),?_⟩;simp only [pF,R,B7,hA];exact ⟨_,rfl,_,_,rfl,rfl,_,_,rfl,⟨_,rfl⟩,rfl⟩
def Gn:Spec where
 X:=Int
 args:=fun x=>.cons (.int .i64 x) .nil
 pre:=fun x=>-9223372036854775808<=x/\x<=9223372036854775807
 res:=fun x=>.str (Lib.itoa x)
 inst:=fun s=>match s with
  | .cons (.int _ t) _=>some t
  | _=>none
theorem below_grown (hD:DRN=false) (w:World) (k:Nat) (os:Array Obj):Below w.heap.size w (grow (w.drewN k) os) :=
 ⟨rfl,rfl,rfl,by rw [size_grow]; exact Nat.le_add_right _ _,fun i hi=>heap_grow_old (w.drewN k) os hi,DLe.no hD⟩
theorem below_drewN (hD:DRN=false) (w:World) (k:Nat):Below w.heap.size w (w.drewN k):=⟨rfl,rfl,rfl,aL _,fun _ _=>rfl,DLe.no hD⟩
theorem Un (hD : DRN = false) {P : Program} {ρ : Ren} (L : LaysM.n171 P ρ) (hn : P.globalNamed "internal/strconv.uint64pow10" = some Qu) (hc : ∀ args w, (callFunc (ρ.f 171) args).run P w = .ok (.enter (ρ.f 171) args) w) : Gn.Ok P (ρ.f 171) := by
 refine oD hc ?_;rintro n w vs U hU hg ⟨h0,h1⟩ hR;simp only [Gn,R] at hR;obtain ⟨v1,r1,rfl,e1,rfl⟩:=hR;obtain rfl:=aC.1 e1;refine (Any.strconv_Itoa L n h0 h1 w (by rw [<- Oy]; exact hg.tab hn)).mono ?_;rintro e w' ⟨rfl,k,os,rfl⟩;exact ⟨_,rfl,below_grown hD w k os,by simp only [Gn,R]⟩
end Go.Eng
end
section
namespace Go.Proofs
open Go.Shelf
set_option maxRecDepth 100000
def Tryz.mY:Go.Shelf.Ren:=⟨fun|105=>92|212=>111|99=>112|165=>113|166=>60|170=>114|169=>63|263=>133|264=>134|206=>135|240=>88|241=>136|276=>109|277=>153|n=>n,fun|9=>9|3=>3|4=>4|20=>20|0=>0|46=>103|109=>146|5=>5|72=>89|76=>92|51=>163|146=>164|53=>109|148=>166|70=>86|37=>87|75=>91|127=>123|164=>142|80=>45|n=>n,fun n=>n⟩
theorem Tryz.A1:Go.Proofs.Lays.n105 Tryz.prog Tryz.mY:={
 mixed:=by kernel_rfl
 f99:=Tryz.func112.trans (congrArg some (by kernel_rfl))
 f105:=Tryz.func92.trans (congrArg some (by kernel_rfl))
 f165:=Tryz.func113.trans (congrArg some (by kernel_rfl))
 f166:=Tryz.func60.trans (congrArg some (by kernel_rfl))
 f169:=Tryz.func63.trans (congrArg some (by kernel_rfl))
 f170:=Tryz.func114.trans (congrArg some (by kernel_rfl))
 f206:=Tryz.func135.trans (congrArg some (by kernel_rfl))
 f212:=Tryz.func111.trans (congrArg some (by kernel_rfl))
 f240:=Tryz.func88.trans (congrArg some (by kernel_rfl))
 f241:=Tryz.func136.trans (congrArg some (by kernel_rfl))
 f263:=Tryz.func133.trans (congrArg some (by kernel_rfl))
 f264:=Tryz.func134.trans (congrArg some (by kernel_rfl))
 f276:=Tryz.func109.trans (congrArg some (by kernel_rfl))
 f277:=Tryz.func153.trans (congrArg some (by kernel_rfl))
 t0:=Tryz.underlying0
 a0:=Tryz.isAgg0
 z0:=Tryz.sizeOf0
 v0:=Tryz.zeroValue0
 t3:=Tryz.underlying3
 a3:=Tryz.isAgg3
 z3:=Tryz.sizeOf3
 v3:=Tryz.zeroValue3
 t4:=Tryz.underlying4
 a4:=Tryz.isAgg4
 z4:=Tryz.sizeOf4
 v4:=Tryz.zeroValue4
 t5:=Tryz.underlying5
 a5:=Tryz.isAgg5
 z5:=Tryz.sizeOf5
 v5:=Tryz.zeroValue5
 t9:=Tryz.underlying9
 a9:=Tryz.isAgg9
 z9:=Tryz.sizeOf9
 v9:=Tryz.zeroValue9
 t20:=Tryz.underlying20
 a20:=Tryz.isAgg20
 z20:=Tryz.sizeOf20
 v20:=Tryz.zeroValue20
 t37:=Tryz.underlying87
 a37:=Tryz.isAgg87
 z37:=Tryz.sizeOf87
 v37:=Tryz.zeroValue87
 t46:=Tryz.underlying103
 a46:=Tryz.isAgg103
 z46:=Tryz.sizeOf103
 v46:=Tryz.zeroValue103
 t51:=Tryz.underlying163
 a51:=Tryz.isAgg163
 z51:=Tryz.sizeOf163
 v51:=Tryz.zeroValue163
 t53:=Tryz.underlying109
 a53:=Tryz.isAgg109
 z53:=Tryz.sizeOf109
 v53:=Tryz.zeroValue109
 t70:=Tryz.underlying86
 a70:=Tryz.isAgg86
 z70:=Tryz.sizeOf86
 v70:=Tryz.zeroValue86
 t72:=Tryz.underlying89
 a72:=Tryz.isAgg89
 z72:=Tryz.sizeOf89
 v72:=Tryz.zeroValue89
 t75:=Tryz.underlying91
 a75:=Tryz.isAgg91
 z75:=Tryz.sizeOf91
 v75:=Tryz.zeroValue91
 t76:=Tryz.underlying92
 a76:=Tryz.isAgg92
 z76:=Tryz.sizeOf92
 v76:=Tryz.zeroValue92
 t109:=Tryz.underlying146
 a109:=Tryz.isAgg146
 z109:=Tryz.sizeOf146
 v109:=Tryz.zeroValue146
 t127:=Tryz.underlying123
 a127:=Tryz.isAgg123
 z127:=Tryz.sizeOf123
 v127:=Tryz.zeroValue123
 t146:=Tryz.underlying164
 a146:=Tryz.isAgg164
 z146:=Tryz.sizeOf164
 v146:=Tryz.zeroValue164
 t148:=Tryz.underlying166
 a148:=Tryz.isAgg166
 z148:=Tryz.sizeOf166
 v148:=Tryz.zeroValue166
 t164:=Tryz.underlying142
 a164:=Tryz.isAgg142
 z164:=Tryz.sizeOf142
 v164:=Tryz.zeroValue142 }
theorem Tryz.bx:Builder.Extra Tryz.prog Tryz.mY:={
 sizeBuilder:=by kernel_rfl
 liesBuilder:=by kernel_rfl
 t5:=Tryz.underlying5
 a5:=Tryz.isAgg5
 z5:=Tryz.sizeOf5
 v5:=Tryz.zeroValue5
 infoByte:=by kernel_rfl
 cellsByte:=by kernel_rfl
 sizeByte:=by kernel_rfl
 neB5:=by decide }
end Go.Proofs
open Go Go.Eng Go.Proofs D1 D2 D3
set_option maxRecDepth 100000
namespace D4
theorem Sf (s:List UInt8):∀ n,Lib.repeatL s n=(List.replicate n s).flatten
 | 0=>rfl
 | n+1=>by rw [Lib.repeatL,List.replicate_succ,jX,Sf s n]
theorem Zg:Se.Ok Tryz.prog 92:=by
 refine oD (enters_of Tryz.A1.f105 (by kernel_rfl) rfl) ?_;rintro ⟨s,c⟩ w vs U hU hg ⟨(h1:s.length=1),(h2:0<=c),(h3:c<=16)⟩ hR;simp only [Se,R] at hR;obtain ⟨v1,r1,rfl,e1,v2,r2,rfl,e2,rfl⟩:=hR;obtain rfl:=aC.1 e1;obtain rfl:=aC.1 e2;obtain ⟨n,rfl⟩:∃ n:Nat,c=(n:Int):=⟨c.toNat,by omega⟩;have hsz:(ByteArray.mk s.toArray).size=s.length:=rfl;refine (Any.strings_Repeat Tryz.A1 Tryz.bx ⟨s.toArray⟩ n w (by omega) (by rw [hsz,h1]; omega)).mono ?_;rintro e w' ⟨rfl,hb⟩;refine ⟨_,rfl,.rU hb (DLe.no rfl),?_⟩;simp only [Se,R];rw [show ((n:Int)).toNat=n from rfl,<- Sf]
end D4
end
section
namespace Go.Proofs
open Go.Shelf
set_option maxRecDepth 100000
def Tryz.Gu:Go.Shelf.Ren:=⟨fun|171=>52|243=>76|246=>103|283=>126|284=>127|285=>128|286=>129|129=>146|317=>145|318=>147|319=>148|320=>149|337=>171|338=>172|n=>n,fun|3=>3|9=>9|2=>2|4=>4|171=>157|0=>0|53=>109|37=>87|5=>5|173=>160|212=>176|51=>163|20=>20|213=>177|46=>103|232=>211|233=>212|n=>n,fun|17=>0|18=>6|19=>7|n=>n⟩
theorem Tryz.Mi:Go.Proofs.LaysM.n171 Tryz.prog Tryz.Gu:={
 mixed:=by kernel_rfl
 f129:=Tryz.func146.trans (congrArg some (by kernel_rfl))
 f171:=Tryz.func52.trans (congrArg some (by kernel_rfl))
 f243:=Tryz.func76.trans (congrArg some (by kernel_rfl))
 f246:=Tryz.func103.trans (congrArg some (by kernel_rfl))
 f283:=Tryz.func126.trans (congrArg some (by kernel_rfl))
 f284:=Tryz.func127.trans (congrArg some (by kernel_rfl))
 f285:=Tryz.func128.trans (congrArg some (by kernel_rfl))
 f286:=Tryz.func129.trans (congrArg some (by kernel_rfl))
 f317:=Tryz.func145.trans (congrArg some (by kernel_rfl))
 f318:=Tryz.func147.trans (congrArg some (by kernel_rfl))
 f319:=Tryz.func148.trans (congrArg some (by kernel_rfl))
 f320:=Tryz.func149.trans (congrArg some (by kernel_rfl))
 f337:=Tryz.func171.trans (congrArg some (by kernel_rfl))
 f338:=Tryz.func172.trans (congrArg some (by kernel_rfl))
 t0:=Tryz.underlying0
 a0:=Tryz.isAgg0
 z0:=Tryz.sizeOf0
 v0:=Tryz.zeroValue0
 t2:=Tryz.underlying2
 a2:=Tryz.isAgg2
 z2:=Tryz.sizeOf2
 v2:=Tryz.zeroValue2
 t3:=Tryz.underlying3
 a3:=Tryz.isAgg3
 z3:=Tryz.sizeOf3
 v3:=Tryz.zeroValue3
 t4:=Tryz.underlying4
 a4:=Tryz.isAgg4
 z4:=Tryz.sizeOf4
 v4:=Tryz.zeroValue4
 t5:=Tryz.underlying5
 a5:=Tryz.isAgg5
 z5:=Tryz.sizeOf5
 v5:=Tryz.zeroValue5
 t9:=Tryz.underlying9
 a9:=Tryz.isAgg9
 z9:=Tryz.sizeOf9
 v9:=Tryz.zeroValue9
 t20:=Tryz.underlying20
 a20:=Tryz.isAgg20
 z20:=Tryz.sizeOf20
 v20:=Tryz.zeroValue20
 t37:=Tryz.underlying87
 a37:=Tryz.isAgg87
 z37:=Tryz.sizeOf87
 v37:=Tryz.zeroValue87
 t46:=Tryz.underlying103
 a46:=Tryz.isAgg103
 z46:=Tryz.sizeOf103
 v46:=Tryz.zeroValue103
 t51:=Tryz.underlying163
 a51:=Tryz.isAgg163
 z51:=Tryz.sizeOf163
 v51:=Tryz.zeroValue163
 t53:=Tryz.underlying109
 a53:=Tryz.isAgg109
 z53:=Tryz.sizeOf109
 v53:=Tryz.zeroValue109
 t171:=Tryz.underlying157
 a171:=Tryz.isAgg157
 z171:=Tryz.sizeOf157
 v171:=Tryz.zeroValue157
 t173:=Tryz.underlying160
 a173:=Tryz.isAgg160
 z173:=Tryz.sizeOf160
 v173:=Tryz.zeroValue160
 t212:=Tryz.underlying176
 a212:=Tryz.isAgg176
 z212:=Tryz.sizeOf176
 v212:=Tryz.zeroValue176
 t213:=Tryz.underlying177
 a213:=Tryz.isAgg177
 z213:=Tryz.sizeOf177
 t232:=Tryz.underlying211
 a232:=Tryz.isAgg211
 z232:=Tryz.sizeOf211
 v232:=Tryz.zeroValue211
 t233:=Tryz.underlying212
 a233:=Tryz.isAgg212
 z233:=Tryz.sizeOf212
 v233:=Tryz.zeroValue212
 g17:=by kernel_rfl
 g18:=by kernel_rfl
 g19:=by kernel_rfl
 i0:=by kernel_rfl
 i2:=by kernel_rfl
 i3:=by kernel_rfl
 i4:=by kernel_rfl
 i5:=by kernel_rfl
 i9:=by kernel_rfl
 i20:=by kernel_rfl
 i37:=by kernel_rfl
 i46:=by kernel_rfl
 i51:=by kernel_rfl
 i53:=by kernel_rfl
 i171:=by kernel_rfl
 i173:=by kernel_rfl
 i212:=by kernel_rfl
 i232:=by kernel_rfl
 i233:=by kernel_rfl
 m17:=by kernel_rfl
 m18:=by kernel_rfl
 m19:=by kernel_rfl }
end Go.Proofs
open Go Go.Eng Go.Proofs
set_option maxRecDepth 100000
namespace D5
theorem itoa:Gn.Ok Tryz.prog 52:=Un rfl Tryz.Mi (by kernel_rfl) (enters_of Tryz.Mi.f171 (by kernel_rfl) rfl)
end D5
end
section
open Go Go.Eng Go.Proofs T1
set_option maxRecDepth 100000
namespace T2
def iC (b:UInt8):cC:=.i .u8 (b.toNat:Int)
def xY (N:Nat->NO) (n:Nat) (b:UInt8):Option Nat :=
 match N n with
 | .node _ _ m _ _=>match N m with
  | .map l _=>(mget l (iC b)).map (·.1)
  | _=>none
 | _=>none
def atN (N:Nat->NO) (n:Nat):B->Option Nat
 | []=>some n
 | b::t=>match xY N n b with
  | none=>none
  | some v=>atN N v t
def aBf (h:Nat):Option Nat->SV
 | some v=>.fown h v 0
 | none=>.val (.pointer none)
theorem qD {N:Nat->NO} {n a k m:Nat} {sz:Int} {mk:B} {l:List (cC×Nat×Nat)} {q:Nat} (h1:N n=.node a k m sz mk) (h2:N m=.map l q) (b:UInt8):xY N n b=(mget l (iC b)).map (·.1):=by
 simp only [xY,h1,h2]
theorem Rq {V:Type} {l:List (cC×V×Nat)} {k:cC} {v:V} {t:Nat} (h:mget l k=some (v,t)):∃ x∈l,x.1=k/\x.2.1=v:=by
 induction l with
 | nil=>cases h
 | cons x r ih =>
  simp only [mget] at h;split at h
  ·rename_i e;exact ⟨x,aQ,e,congrArg (·.1) (bK h)⟩
  ·obtain ⟨y,hy,h1,h2⟩:=ih h;exact ⟨y,aK _ hy,h1,h2⟩
theorem _root_.T1.Cl.kid {N:Nat->NO} {c n v:Nat} {b:UInt8} (h:Cl N c) (hk:xY N n b=some v):isNode N v:=by
 unfold xY at hk;split at hk
 ·rename_i a k m sz mk h1;split at hk
  ·rename_i l q h2;cases hm:mget l (iC b) with
   | none=>rw [hm] at hk; cases hk
   | some p =>
    rw [hm] at hk;obtain ⟨v',t⟩:=p;obtain rfl:v'=v:=by simpa using hk
    obtain ⟨x,hx,_,rfl⟩:=Rq hm;exact (h.ent _ _ _ h2 x hx).2
  ·cases hk
 ·cases hk
def g56:List Nat:=[8,0,20,1,6,5,4]
def c56:bH :=
 .seq (.region g56 [(zo 4 (.move (.c (.nilptr))))]) (.seq (.seq (.region g56 [(mv 7 0),(zo 8 (.ptrEq false (.s 7) (.c (.nilptr))))]) (.cond (.s 8) (.seq (.region g56 [(zo 4 (.move (.c (.nilptr))))]) .ret) .skip)) (.seq (.region g56 [(mv 9 0),(zo 10 (.nilCheck (.s 9))),(fa 11 0 10),(ld 12 11),(mv 5 12)]) (.seq (.seq (.region g56 [(zo 6 (.move (cj 0)))]) (.block 0 (.loop 0 [13,14,15,16,17,18,19,20,23,24,25,26,27,28,29,30,5,21,22,6] (.seq (.seq (.region g56 [(mv 13 6),(mv 14 1),(zo 15 (.lenStr (.s 14))),(zo 16 (.bin (.lss) (.s 13) (.s 15))),(mv 17 16),(mg 18 17 true 5),(zg 19 17 true (.ptrEq true (.s 18) (.c (.nilptr)))),(zo 20 (.pick (.s 17) (.s 19) cF))]) (.cond (.s 20) .skip (.exit 0))) (.seq (.block 1 (.seq (.drawn [8,0,20,1,6,5,4,30] (.pure 0 (mv 23 5) (.pure 1 (zo 24 (.nilCheck (.s 23))) (.pure 2 (fa 25 1 24) (.pure 4 (mv 27 1) (.pure 5 (mv 28 6) (.pure 6 (zo 29 (.idxStr (.s 27) (.s 28))) (.eff 3 (ld 26 25) [] (.eff 7 (zo 30 (.mlook (.nilptr) false (.i (.u8)) (.s 26) (.s 29))) [] .done .none) .none)))))))) (.region g56 [(mv 5 30)]))) (.region g56 [(mv 21 6),(zo 22 (.bin (.add) (.s 21) (cj 1))),(mv 6 22)])))))) (.seq (.region g56 [(mv 31 5),(mv 4 31)]) .ret))))
theorem e56:cR Tryz.prog 56 g56 [] [26] []=some (c56,[.slot 4],32):=by kernel_rfl
def atS:bU where
 X:=Nat×(Nat->NO)×Nat×B
 Y:=Option Nat
 args:=fun x=>.cons (.own 0 0) (.cons (.str x.2.2.2) .nil)
 pre:=fun x=>Cl x.2.1 x.2.2.1/\isNode x.2.1 x.1/\x.2.2.2.length < 4611686018427387904
 h0:=fun x=>tH 0 1 x.1 x.2.1
 nx0:=2
 post:=fun x y=>y=atN x.2.1 x.1 x.2.2.2
 res:=fun _ y=>aBf 1 y
 h1:=fun x _=>tH 0 1 x.1 x.2.1
 nx1:=2
theorem B6:atS.Ok Tryz.prog 56:=by
 refine Eng.bU.okR e56 .nil (fun _=>[]) (fun _ _=>aZ.nil) ?_;rintro ⟨r,N,c,p⟩ ⟨(hc:Cl N c),(hr:isNode N r),(hp:p.length < 4611686018427387904)⟩;refine ⟨trivial,?_⟩;repeat' (first|apply aA|exact zf|refine zt ?_|fail)
 refine ⟨⟨Nat×Option Nat,fun x=>x.1<=p.length/\(∀ v,x.2=some v->isNode N v)/\(x.2.bind fun v=>atN N v (p.drop x.1))=atN N r p,fun x=>[(6,.int .i64 (x.1:Int)),(5,aBf 1 x.2)],fun _=>[],fun x=>p.length - x.1⟩,(0,some r),?_,?_,?_⟩
 ·exact ⟨bB _,fun v e=>by cases e; exact hr,rfl⟩
 ·repeat' (first|apply aA|exact trivial|exact rfl|exact zm N rfl|fail)
 rintro ⟨i,o⟩ ⟨(k0:i<=p.length),(k1:∀ v,o=some v->isNode N v),(k2:(o.bind fun v=>atN N v (p.drop i))=atN N r p)⟩;cases o with
 | none =>
  have k3:none=atN N r p:=k2;have kt:cS (decide ((i:Int) < (p.length:Int))) (.s 19) cF false false=false:=by rw [dE]; simp
  repeat' (first|refine aA ?_ ?_)
  ·exact fun (h:cS (decide ((i:Int) < (p.length:Int))) (.s 19) cF (!true) false=true)=>Bool.noConfusion (h.symm.trans kt)
  ·refine fun (h:cS (decide ((i:Int) < (p.length:Int))) (.s 19) cF (!true) false=false)=>?_;repeat' (first|apply aA|exact trivial|exact rfl|exact zm N rfl|exact k3|refine aB none ?_|fail)
 | some v =>
  obtain ⟨a,n,m,sz,mk,hv⟩:=k1 v rfl;obtain ⟨l,q,hm⟩:=hc.kids _ _ _ _ _ _ hv;have kt:cS (decide ((i:Int) < (p.length:Int))) (.s 19) cF true false=decide ((i:Int) < (p.length:Int)):=by rw [dE]; simp
  repeat' (first|refine aA ?_ ?_)
  ·refine fun (h:cS (decide ((i:Int) < (p.length:Int))) (.s 19) cF true false=true)=>?_;have h1:i < p.length:=by have:=of_decide_eq_true (kt ▸ h); omega
   have g0:(0:Int)<=(i:Int):=by omega
   have g1:(i:Int) < (p.length:Int):=by omega
   have g2:-9223372036854775808<=(i:Int)+1:=by omega
   have g3:(i:Int)+1<=9223372036854775807:=by omega
   have g4:i+1<=p.length:=h1;have g5:p.length - (i+1) < p.length - i:=by omega
   have hd:p.drop i=p.getD i 0::p.drop (i+1):=by rw [dG h1]; simp [h1]
   have k3:(match xY N v (p.getD i 0) with|none=>none|some v=>atN N v (p.drop (i+1)))=atN N r p:=by rw [<- k2,hd]; rfl
   rw [qD hv hm] at k3;repeat' (first|apply aA|exact trivial|(with_reducible first|exact g0|exact g1))
   refine aB (noO 1 (.node a n m sz mk)) (aA (congrArg (noO 1) hv) ?_);repeat' (first|apply aA|exact trivial)
   refine aB (noO 1 (.map l q)) (aA (congrArg (noO 1) hm) ?_);cases hl:mget l (iC (p.getD i 0)) with
   | none =>
    rw [hl] at k3;have k4:(Option.bind none fun v=>atN N v (p.drop (i+1)))=atN N r p:=k3;refine nY.E0 hl ?_;have k5:∀ v,(none:Option Nat)=some v->isNode N v:=fun v e=>by cases e
    repeat' (first|apply aA|exact trivial|(with_reducible first|exact g2|exact g3))
    refine aB (i+1,none) ?_;repeat' (first|apply aA|exact trivial|exact rfl|exact zm N rfl|(with_reducible first|exact g4|exact k4|exact k5|exact g5))
   | some e =>
    obtain ⟨u,t⟩:=e;rw [hl] at k3;have k4:((some u:Option Nat).bind fun v=>atN N v (p.drop (i+1)))=atN N r p:=k3;refine nY.zT hl ?_;have k5:∀ v,(some u:Option Nat)=some v->isNode N v:=fun w e=>by cases e; exact hc.kid (n:=v) (b:=p.getD i 0) (by rw [qD hv hm,hl]; rfl)
    repeat' (first|apply aA|exact trivial|(with_reducible first|exact g2|exact g3))
    refine aB (i+1,some u) ?_;repeat' (first|apply aA|exact trivial|exact rfl|exact zm N rfl|(with_reducible first|exact g4|exact k4|exact k5|exact g5))
  ·refine fun (h:cS (decide ((i:Int) < (p.length:Int))) (.s 19) cF true false=false)=>?_;have h1:i=p.length:=by have:=of_decide_eq_false (kt ▸ h); omega
   have k3:some v=atN N r p:=by rw [<- k2,h1,gM]; rfl
   repeat' (first|apply aA|exact trivial|exact rfl|exact zm N rfl|exact k3|refine aB (some v) ?_|fail)
end T2
end
section
open Go Go.Eng Go.Proofs T1
set_option maxRecDepth 100000
namespace T3
theorem fB (k:Keep) (hp:List (Nat×aT)) (m:Nat) (s:B):sub k hp (m+3) (idE s) (idE s):=⟨rfl,trivial⟩
def slE (l:List B):SV:=.slice 1 l.length fun i=>idE (l.getD i [])
def Al (l:List B) (v:B):Int:=match (List.range l.length).find? (fun i=>decide (v=l.getD i [])) with
 | some i=>i
 | none=>-1
theorem Ya {l:List B} {v:B} {k:Nat} (hk:k < l.length) (he:v=l.getD k []) (h:∀ j,j < k->v≠l.getD j []):Al l v=k:=by
 unfold Al;rw [dZ.2 ⟨by simpa using he,by simpa using hk,fun j hj=>by simpa using h j hj⟩]
theorem Yb {l:List B} {v:B} (h:∀ j,j < l.length->v≠l.getD j []):Al l v=-1:=by
 unfold Al;rw [fM.2 fun j hj=>by simpa using h j (by simpa using hj)]
theorem Ue {l:List B} {v:B}:decide (0<=Al l v)=decide (v∈l):=by
 rw [cA,decide_eq_true_iff,decide_eq_true_iff];unfold Al;split
 ·rename_i i hi;have:=dZ.1 hi;have h1:i < l.length:=by simpa using this.2.1
  have h2:v=l.getD i []:=by simpa using this.1
  refine ⟨fun _=>?_,fun _=>jE i⟩;rw [h2,aE,aH h1];exact dN h1
 ·rename_i hi;have:=fM.1 hi;constructor
  ·intro h; exact absurd h (by decide)
  ·intro hv;obtain ⟨i,h1,h2⟩:=cU hv;exact absurd (this i (by simpa using h1)) (by simp [h1,h2])
def g96:List Nat:=[7,9,1,0,16,5,8,4]
def c96:bH :=
 .seq (.region g96 [(zo 4 (.move (cj 0)))]) (.seq (.seq (.region g96 [(mv 6 0),(zo 7 (.lenSl (.s 6))),(zo 8 (.move (cj 0)))]) (.block 0 (.loop 0 [9,10,5,11,12,13,14,15,16,17,4,18,8] (.seq (.region g96 [(zo 9 (.bin (.lss) (.s 8) (.s 7)))]) (.seq (.cond (.s 9) .skip (.exit 0)) (.seq (.block 1 (.seq (.region g96 [(mv 10 8),(mv 5 10)]) (.seq (.region g96 [(mv 11 1),(mv 12 0),(mv 13 5),(zo 14 (.idxSl 1 (.s 12) (.s 13))),(ld 15 14),(zo 16 (.bin (.eql) (.s 11) (.s 15)))]) (.cond (.s 16) (.seq (.region g96 [(mv 17 5),(mv 4 17)]) .ret) .skip)))) (.region g96 [(zo 18 (.bin (.add) (.s 8) (cj 1))),(mv 8 18)]))))))) (.seq (.region g96 [(zo 4 (.move (cj (-1))))]) .ret))
theorem e96:cR Tryz.prog 96 g96 [] [] []=some (c96,[.slot 4],19):=by kernel_rfl
def aAv:Eng.Spec where
 X:=List B×B
 args:=fun x=>.cons (slE x.1) (.cons (.str x.2) .nil)
 pre:=fun x=>x.1.length<=1000000
 res:=fun x=>.int .i64 (Al x.1 x.2)
 inst:=fun _=>none
theorem Yr:aAv.Ok Tryz.prog 96:=by
 refine Eng.Spec.okR e96 .nil (fun _=>[]) (fun _ _=>aZ.nil) ?_;rintro ⟨l,v⟩ (hn:l.length<=1000000);refine ⟨trivial,?_⟩;refine ⟨⟨Nat,fun k=>k<=l.length/\∀ j,j < k->v≠l.getD j [],fun k=>[(8,.int .i64 (k:Int))],fun _=>[],fun k=>l.length - k⟩,0,⟨bB _,fun j hj=>absurd hj (bP j)⟩,?_,?_⟩
 ·repeat' (first|apply aA|exact trivial|exact rfl|exact fun (j:Nat) (hj:j < _)=>Or.inl (fB _ _ _ _)|fail)
 rintro (k:Nat) ⟨(hk:k<=l.length),(hf:∀ j,j < k->v≠l.getD j [])⟩;repeat' (first|refine aA ?_ ?_)
 ·refine fun (hg:decide ((k:Int) < (l.length:Int))=true)=>?_;have h1:(k:Int) < (l.length:Int):=of_decide_eq_true hg;have h0:(0:Int)<=(k:Int):=by omega
  have b1:-9223372036854775808<=(k:Int)+1:=by omega
  have b2:(k:Int)+1<=9223372036854775807:=by omega
  have hkl:k < l.length:=by omega
  repeat' (first|refine aA ?_ ?_)
  ·exact h0
  ·exact h1
  ·refine fun (hv:decide (v=l.getD (k:Int).toNat [])=true)=>?_;have e:(k:Int)=Al l v:=(Ya hkl (of_decide_eq_true hv) hf).symm;repeat' (first|apply aA|exact rfl|exact e)
  ·refine fun (hv:decide (v=l.getD (k:Int).toNat [])=false)=>?_;have hne:v≠l.getD k []:=of_decide_eq_false hv;repeat' (first|refine aA ?_ ?_)
   ·exact b1
   ·exact b2
   refine aB (k+1) ?_;repeat' (first|apply aA|exact trivial|exact rfl)
   ·exact hkl
   ·refine fun j hj=>?_;by_cases e:j=k
    ·rw [e]; exact hne
    ·exact hf j (by omega)
   ·exact fun (j:Nat) (hj:j < _)=>Or.inl (fB _ _ _ _)
   ·show l.length - (k+1) < l.length - k;omega
 ·refine fun (hg:decide ((k:Int) < (l.length:Int))=false)=>?_;have h1:¬ (k:Int) < (l.length:Int):=of_decide_eq_false hg;have hkl:k=l.length:=by omega
  subst hkl;have e:-1=Al l v:=(Yb hf).symm;repeat' (first|apply aA|exact rfl|exact e)
def aAu:bU:=aAv.mof Int (fun x y=>y=Al x.1 x.2) (fun _ y=>.int .i64 y)
theorem Yq:aAu.Ok Tryz.prog 96:=Eng.Spec.pR Yr fun _ _=>⟨_,rfl,rfl⟩
def g66:List Nat:=[0,1,4]
def c66:bH :=
 .seq (.region g66 [(zo 4 (.move cF))]) (.seq (.region g66 [(mv 5 0),(mv 6 1),(zo 7 (.call (.c (.fn 96)) [.s 5,.s 6])),(zo 8 (.bin (.geq) (.s 7) (cj 0))),(mv 4 8)]) .ret)
theorem e66:cR Tryz.prog 66 g66 [] [] []=some (c66,[.slot 4],9):=by kernel_rfl
def aAb:Eng.Spec where
 X:=List B×B
 args:=fun x=>.cons (slE x.1) (.cons (.str x.2) .nil)
 pre:=fun x=>x.1.length<=1000000
 res:=fun x=>.bool (decide (x.2∈x.1))
 inst:=fun _=>none
theorem Xt:aAb.Ok Tryz.prog 66:=by
 refine Eng.Spec.okR e66 .nil (fun _=>[(96,.m aAu)]) (fun _ _=>aZ.m Yq aZ.nil) ?_;rintro ⟨l,v⟩ (hn:l.length<=1000000);refine ⟨trivial,?_⟩;refine aB (l,v) (aB [] ?_);repeat' (first|apply aA|exact trivial|exact rfl|exact fun (j:Nat) (hj:j < _)=>Or.inl (fB _ _ _ _)|exact hn)
 refine fun (y:Int) (hy:y=Al l v)=>?_;have e:decide (0<=y)=decide (v∈l):=by rw [hy]; exact Ue
 repeat' (first|exact e)
def aAa:bU:=aAb.mof Bool (fun x y=>y=decide (x.2∈x.1)) (fun _ y=>.bool y)
theorem Xr:aAa.Ok Tryz.prog 66:=Eng.Spec.pR Xt fun _ _=>⟨_,rfl,rfl⟩
end T3
end
