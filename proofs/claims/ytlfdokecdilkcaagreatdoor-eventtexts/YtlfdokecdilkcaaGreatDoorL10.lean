/- A part of the proof. -/
import Derived.Test.YtlfdokecdilkcaaGreatDoorEngLib
import Derived.Test.YtlfdokecdilkcaaGreatDoorV2
import Derived.Test.YtlfdokecdilkcaaGreatDoorV3
section
namespace Go.Eng
open Go Go.RowKit
noncomputable def O2 (T:Tb) (l:List bU):List Nat->St->(St->Prop)->Prop :=
 @List.rec bU (fun _=>List Nat->St->(St->Prop)->Prop) (fun _ st k=>k st)
  (fun o _ ih lab st k =>
   match o.guard with
   | none=>evO T st o.op fun s st'=>yD o.dst lab s st' fun st''=>ih lab st'' k
   | some (d0,w) =>
    bif zQ T (some (d0,w)) st o.op then
     bif Cx (d0::lab) o.dst then False else
     gZ st.fr 10 d0 w (evE T (some (d0,w)) st (fun s st'=>stF st' fun st'=>yD o.dst (d0::lab) s st' fun st''=>ih (d0::lab) st'' k) o.op)
      (yD o.dst (d0::lab) (.tup .nil) st fun st''=>ih (d0::lab) st'' k)
    else
    match o.dst with
    | none=>False
    | some d=>bif bX (d0::lab) d then False else
     match evP T.fs (some (d0,w)) st o.op with
     | .fail=>(aH st.fr 10 d0 w->False)/\stP st fun fr hp nx=>ih (d0::lab) ⟨(d,.gd d0 w .junk)::fr,hp,nx⟩ k
     | .ok v=>bG v fun v=>stP st fun fr hp nx=>ih (d0::lab) ⟨(d,.gd d0 w v)::fr,hp,nx⟩ k
     | .side p v=>(aH st.fr 10 d0 w->p)/\bG v fun v=>stP st fun fr hp nx=>ih (d0::lab) ⟨(d,.gd d0 w v)::fr,hp,nx⟩ k) l
theorem Ix (T:Tb):∀ l,O2 T l=mN T l:=by
 intro l
 induction l with
 | nil=>funext lab st k; simp only [mN]; rfl
 | cons o r ih =>
  funext lab st k
  rw [mN]
  rw [<- ih]
  rfl
noncomputable def T0 (T:Tb) (t:cG):List (Nat×SV)->List (Nat×aE)->Nat->(St->Prop)->Prop :=
 @cG.rec (fun _=>List (Nat×SV)->List (Nat×aE)->Nat->(St->Prop)->Prop) (fun fr hp nx k=>k ⟨fr,hp,nx⟩) (fun _ _ _ _=>True)
  (fun _ o _ ih fr hp nx k=>match o.dst with
   | none=>False
   | some d=>match o.guard with
    | none=>match evP T.fs none ⟨fr,hp,nx⟩ o.op with
     | .fail=>False
     | .ok v=>eN v fun v=>ih ((d,v)::fr) hp nx k
     | .side p v=>p/\eN v fun v=>ih ((d,v)::fr) hp nx k
    | some (d0,w)=>match evP T.fs (some (d0,w)) ⟨fr,hp,nx⟩ o.op with
     | .fail=>(aH fr 10 d0 w->False)/\ih ((d,.gd d0 w .junk)::fr) hp nx k
     | .ok v=>bG v fun v=>ih ((d,.gd d0 w v)::fr) hp nx k
     | .side p v=>(aH fr 10 d0 w->p)/\bG v fun v=>ih ((d,.gd d0 w v)::fr) hp nx k)
  (fun _ o stab _ _ ih1 ih2 fr hp nx k =>
   (match o.guard with
    | none=>evE T none ⟨fr,hp,nx⟩ (fun s st'=>stK st' fun hp' nx'=>mA T.fs fr hp nx hp' nx' stab/\qG o.dst s fr fun fr'=>ih1 fr' hp' nx' k) o.op
    | some (d0,w)=>gZ fr 10 d0 w (evE T (some (d0,w)) ⟨fr,hp,nx⟩ (fun s st'=>stK st' fun hp' nx'=>mA T.fs fr hp nx hp' nx' stab/\qG o.dst s fr fun fr'=>ih1 fr' hp' nx' k) o.op)
      (qG o.dst (.tup .nil) fr fun fr'=>ih1 fr' hp nx k)) /\
   ih2 fr hp nx k) t
theorem Mn (T:Tb):∀ t,T0 T t=evD T t:=by
 intro t
 induction t with
 | done=>funext fr hp nx k; simp only [evD]; rfl
 | none=>funext fr hp nx k; simp only [evD]; rfl
 | pure i o r ih=>funext fr hp nx k; rw [evD,<- ih]; rfl
 | eff i o s a b ih1 ih2=>funext fr hp nx k; rw [evD,<- ih1,<- ih2]; rfl
noncomputable def Tz (c:aD):Tb->St->(oA->St->Prop)->Prop :=
 @aD.rec (fun _=>Tb->St->(oA->St->Prop)->Prop)
  (fun _ st k=>k .normal st)
  (fun keep ops T st k=>O2 T ops [] st fun st'=>match st' with
   | ⟨fr0,hp,nx⟩=>jJ fr0 keep fun fr=>k .normal ⟨fr,hp,nx⟩)
  (fun keep t T st k=>match st with
   | ⟨fr,hp,nx⟩=>T0 T t fr hp nx fun st'=>match st' with
    | ⟨fr0,hp,nx⟩=>jJ fr0 keep fun fr=>k .normal ⟨fr,hp,nx⟩)
  (fun _ _ iha ihb T st k=>iha T st fun e st' =>
   match e with
   | .normal=>ihb T st' k
   | .exit id=>k (.exit id) st'
   | .ret=>k .ret st')
  (fun c _ _ iha ihb T st k =>
   match c with
   | .c (.bool true)=>iha T st k
   | .c (.bool false)=>ihb T st k
   | .c _=>False
   | .s n=>match look st.fr n with
    | .bool p=>(p=true->iha T st k)/\(p=false->ihb T st k)
    | _=>False)
  (fun id _ iha T st k=>iha T st fun e st' =>
   match e with
   | .normal=>k .normal st'
   | .exit j=>bif Nat.beq j id then k .normal st' else k (.exit j) st'
   | .ret=>k .ret st')
  (fun _ asg _ iha T st k =>
   ∃ V:Inv,∃ x:V.X,V.I x/\gE T.bnd asg st (V.fr x) (V.hp x) (fun h=>pC T.np T.bnd st h) /\
    ∀ x,V.I x->gE T.bnd asg st (V.fr x) (V.hp x) fun h=>stF h fun h=>iha T h fun e st' =>
     match e with
     | .normal=>∃ x',V.I x'/\gE T.bnd asg st (V.fr x') (V.hp x') (fun h'=>pC T.np T.bnd st' h')/\V.meas x' < V.meas x
     | .exit id=>k (.exit id) st'
     | .ret=>k .ret st')
  (fun id _ st k=>k (.exit id) st)
  (fun _ st k=>k .ret st)
  (fun _ asg _ iha T st k =>
   ∃ V:Inv,(iha T st fun e st' =>
    match e with
    | .normal=>∃ x,V.I x/\gE T.bnd asg st (V.fr x) (V.hp x) (fun h=>pC T.np T.bnd st' h)
    | .exit id=>k (.exit id) st'
    | .ret=>k .ret st') /\
   ∀ x,V.I x->gE T.bnd asg st (V.fr x) (V.hp x) fun h=>stF h fun h=>k .normal h)
  (fun _ f gid _ gn ps _ _ ihg iha ihb T st k =>
   match gx none st.fr f with
   | .fn kf caps=>bif Nat.beq kf gid && Nat.blt kf FM then bif Nat.blt st.nx FB then
     match st with
     | ⟨fr,hp,nx⟩=>jQ (.cons (.yield nx) caps) gn /\
      ihg
       ⟨T.fs,(T.dep,fun id np bnd dep args hp' nx' K =>
        match get? hp' id with
        | some (.hid l 0)=>bif Nat.beq l T.dep then
          tX ps args fr fun fr1=>iha ⟨T.fs,T.ys,np,bnd,dep⟩ ⟨fr1,hp',nx'⟩ fun e st1 =>
           match e with
           | .normal=>match st1 with
            | ⟨fr2,hp2,nx2⟩=>match get? hp2 id with
             | some (.hid l 0)=>bif Nat.beq l T.dep then
               qD hp2 id (.hid T.dep 1) fun hp3=>ihb ⟨T.fs,T.ys,np,bnd,dep⟩ ⟨fr2,hp3,nx2⟩ fun e st2 =>
                match st2 with
                | ⟨_,hp4,nx4⟩=>match get? hp4 id with
                 | some (.hid l 1)=>bif Nat.beq l T.dep then qD hp4 id (.hid T.dep (Dd e)) fun hp5=>K (sV e) hp5 nx4 else False
                 | _=>False
              else False
             | _=>False
           | _=>False
         else False
        | _=>False)::T.ys,gI hp,nx+1,T.dep+1⟩
       ⟨jC (.cons (.yield nx) caps) 0,(nx,.hid T.dep 0)::hp,nx+1⟩ fun e st' =>
        match e with
        | .exit _=>False
        | _=>match st' with
         | ⟨_,hp',nx'⟩=>bif kC T.dep (drop? hp' nx) then
          match get? hp' nx with
          | some (.hid l pd)=>bif Nat.beq l T.dep then
            match pd with
            | 0=>k .normal ⟨fr,drop? hp' nx,nx'⟩
            | 1=>False
            | 2=>k .ret ⟨fr,drop? hp' nx,nx'⟩
            | n+3=>k (.exit n) ⟨fr,drop? hp' nx,nx'⟩
           else False
          | _=>False
         else False
    else False else False
   | _=>False) c
theorem Mm:∀ c,Tz c=evC c:=by
 intro c
 induction c with
 | skip=>funext T st k; simp only [evC]; rfl
 | region keep ops=>funext T st k; rw [evC,<- Ix]; rfl
 | drawn keep t=>funext T st k; rw [evC,<- Mn]; rfl
 | seq a b iha ihb=>funext T st k; rw [evC,<- iha,<- ihb]; rfl
 | cond c a b iha ihb=>funext T st k; rw [evC.eq_def]; simp only []; rw [<- iha,<- ihb]; rfl
 | block id a iha=>funext T st k; rw [evC,<- iha]; rfl
 | loop i asg a iha=>funext T st k; rw [evC,<- iha]; rfl
 | exit id=>funext T st k; simp only [evC]; rfl
 | ret=>funext T st k; simp only [evC]; rfl
 | join i asg a iha=>funext T st k; rw [evC,<- iha]; rfl
 | range i f gid g gn ps a b ihg iha ihb=>funext T st k; rw [evC,<- ihg,<- iha,<- ihb]; rfl
noncomputable def sL (np:List Nat) (tab:List (Nat×cK)) (sc:aD) (res:List aR) (args:SV) (hp:List (Nat×aE)) (nx:Nat) (K:SV->St->Prop):Prop :=
 Tz sc ⟨tab,[],np,0,0⟩ ⟨jC args 0,hp,nx⟩ fun e st =>
  match e with
  | .exit _=>False
  | _=>B3 st res fun l=>K (sB l) st
noncomputable def O0 (tab:List (Nat×cK)) (sc:aD) (res:List aR) (fresh:Bool) (args want:SV):Prop :=
 sL [] tab sc res args [] 0 fun sv st=>sub (match fresh with|true=>.strict|false=>.free) st.hp 200 sv want
theorem vH {np:List Nat} {tab:List (Nat×cK)} {sc:aD} {res:List aR} {args:SV} {hp:List (Nat×aE)} {nx:Nat} {K:SV->St->Prop} (h:sL np tab sc res args hp nx K):Ef np tab sc res args hp nx K:=by
 unfold sL at h
 rw [Mm] at h
 exact h
def tR:Nat->SV->Bool
 | 0,_=>false
 | _+1,.int ..=>true
 | _+1,.bool ..=>true
 | _+1,.str ..=>true
 | _+1,.nil=>true
 | n+1,.cons h t=>tR n h && tR n t
 | _+1,_=>false
theorem K2 (k:Keep) (hp:List (Nat×aE)):∀ (n:Nat) (s:SV),tR n s=true->sub k hp n s s:=by
 intro n
 induction n with
 | zero=>intro s h; cases h
 | succ n ih =>
  intro s h
  cases s with
  | cons a b =>
   simp only [tR,Bool.and_eq_true] at h
   exact ⟨ih a h.1,ih b h.2⟩
  | int=>exact ⟨rfl,rfl⟩
  | bool=>rfl
  | str=>rfl
  | nil=>trivial
  | _=>cases h
theorem lz {k:Keep} {hp:List (Nat×aE)} {m n:Nat} {f:Nat->SV} (h:∀ j,tR m (f j)=true):∀ j,j < n->uK k (sub k hp m) (f j) (f j):=fun j _=>Or.inl (K2 k hp m _ (h j))
theorem Spec.okR {P:Program} {f:Nat} {S:Spec} {G joins hint:List Nat} {rg:List (Nat×Nat×aD×Nat)} {sc:aD} {res:List aR} {n:Nat} (hc:aK P f G joins hint rg=some (sc,res,n)) (hrg:aF P rg)
  (tab:S.X->List (Nat×cK)) (htab:∀ x,S.pre x->aA P (tab x))
  (h:∀ x,S.pre x->jQ (S.args x) n/\O0 (tab x) sc res S.fresh (S.args x) (S.res x)):S.Ok P f :=
 Spec.dG hc hrg tab htab fun x hx=>⟨(h x hx).1,vH (h x hx).2⟩
theorem bJ.okR {P:Program} {f:Nat} {S:bJ} {G joins hint:List Nat} {rg:List (Nat×Nat×aD×Nat)} {sc:aD} {res:List aR} {n:Nat} (hc:aK P f G joins hint rg=some (sc,res,n)) (hrg:aF P rg)
  (tab:S.X->List (Nat×cK)) (htab:∀ x,S.pre x->aA P (tab x))
  (h:∀ x,S.pre x->jQ (S.args x) n/\sL (upto S.nx0) (tab x) sc res (S.args x) (S.h0 x) S.nx0 fun sv st=>∃ y,S.post x y/\yL (upto S.nx0) S.fresh sv st (S.res x y) (S.h1 x y) S.nx1):S.Ok P f :=
 bJ.dG hc hrg tab htab fun x hx=>⟨(h x hx).1,vH (h x hx).2⟩
end Go.Eng
end
section
open Go Go.Eng Go.Proofs L1 L2 L3 L4 L6
set_option maxRecDepth 100000
namespace L8
structure Tk where
  kind:Int
  off:Int
  n:Int
  text:List UInt8
def tkL (t:Tk):SV:=.cons (.int .i64 t.kind) (.cons (.int .i64 t.off) (.cons (.int .i64 t.n) (.cons (.str t.text) .nil)))
abbrev NR:=Tk×Int×Int
def tk0:Tk:=⟨0,0,0,[]⟩
def sl3:SV:=.cons (.cons (.int .i64 3) .nil) (.cons (.cons (.int .i64 4) .nil) (.cons (.cons (.int .i64 5) .nil) .nil))
def sl1:SV:=.cons (.cons (.int .i64 4) .nil) .nil
def cs3:Nat->Int:=((sX (.slit 1 sl3)).getD (0,fun _=>0)).2
def cs1:Nat->Int:=((sX (.slit 1 sl1)).getD (0,fun _=>0)).2
def gB (t:List UInt8) (f:Nat->Int) (i:Int):Int:=i+(whl ⟨t,f,i,3,cs3⟩:Nat)
def gP (t:List UInt8) (f:Nat->Int) (i:Int):Int:=i+(whl ⟨t,f,i,1,cs1⟩:Nat)
def kO (t:List UInt8) (i j:Int):List UInt8:=(t.drop i.toNat).take (j.toNat - i.toNat)
def qAt (t:List UInt8) (i:Int):Int:=Lib.indexAny (t.drop (i+1).toNat) [34,10]
def nxV (t:List UInt8) (f:Nat->Int) (i:Int):NR :=
  if atV t f i=3 then
    (if gB t f i - i > 24 then (tk0,0,2) else (⟨1,i,0,kO t i (gB t f i)⟩,gB t f i,0))
  else if atV t f i=4 then
    (if ((decide (gP t f i - i > 13) || decide (atV t f (gP t f i)=3)) || decide (atV t f (gP t f i)=5))=true then (tk0,0,4) else (⟨2,i,aM (kO t i (gP t f i)),kO t i (gP t f i)⟩,gP t f i,0))
  else if atV t f i=6 then
    (if (decide (qAt t i < 0) || decide ((((t.drop (i+1).toNat).getD (qAt t i).toNat 0).toNat:Int)=10))=true then (tk0,0,6)
     else if qAt t i > 400 then (tk0,0,2) else (⟨3,i,0,(t.drop (i+1).toNat).take (qAt t i).toNat⟩,i+qAt t i+2,0))
  else if atV t f i=7\/atV t f i=8 then
    (if Lib.hasPrefix (t.drop (i+1).toNat) [61]=true then (⟨4,i,0,kO t i (i+2)⟩,i+2,0)
     else if atV t f i=7 then (tk0,0,3) else (⟨4,i,0,kO t i (i+1)⟩,i+1,0))
  else if atV t f i=9 then (⟨4,i,0,kO t i (i+1)⟩,i+1,0)
  else (tk0,0,3)
def g158:List Nat:=[19,21,23,25,18,28,37,8,10,67,11,9,107,110,13,14,128,7,142,0,1,4,5,6]
def c158:aD :=
  .seq (.region g158 [(zo 4 (.alloc 131 (.cons (.int .i64 0) (.cons (.int .i64 0) (.cons (.int .i64 0) (.cons (.str []) .nil)))))),(zo 5 (.move (.c (.int .i64 0)))),(zo 6 (.move (.c (.int .i64 0))))]) (.seq (.seq (.region g158 [(zo 15 (.move (.s 0))),(zo 16 (.move (.s 1))),(zo 17 (.call (.c (.fn 189)) [.s 15,.s 16])),(zo 7 (.move (.s 17)))]) (.seq (.region g158 [(zo 18 (.move (.s 7)))]) (.block 0 (.seq (.block 5 (.seq (.block 4 (.seq (.block 3 (.seq (.block 2 (.seq (.block 1 (.seq (.seq (.seq (.region g158 [(zo 20 (.bin (.eql) (.s 18) (.c (.int .i64 3)))),(zo 19 (.move (.s 20)))]) (.cond (.s 19) (.exit 1) .skip)) (.seq (.seq (.region g158 [(zo 22 (.bin (.eql) (.s 18) (.c (.int .i64 4)))),(zo 21 (.move (.s 22)))]) (.cond (.s 21) (.exit 2) .skip)) (.seq (.seq (.region g158 [(zo 24 (.bin (.eql) (.s 18) (.c (.int .i64 6)))),(zo 23 (.move (.s 24)))]) (.cond (.s 23) (.exit 3) .skip)) (.seq (.seq (.seq (.region g158 [(zo 26 (.bin (.eql) (.s 18) (.c (.int .i64 7)))),(zo 25 (.move (.s 26)))]) (.cond (.s 25) .skip (.region g158 [(zo 27 (.bin (.eql) (.s 18) (.c (.int .i64 8)))),(zo 25 (.move (.s 27)))]))) (.cond (.s 25) (.exit 4) .skip)) (.seq (.region g158 [(zo 29 (.bin (.eql) (.s 18) (.c (.int .i64 9)))),(zo 28 (.move (.s 29)))]) (.cond (.s 28) (.exit 5) .skip)))))) (.exit 0))) (.seq (.seq (.region g158 [(zo 30 (.move (.s 0))),(zo 31 (.move (.s 1))),(zo 32 (.buildSl 3 1 3 (.cons (.int .i64 0) .nil) [(0,1,.c (.int .i64 3)),(1,1,.c (.int .i64 4)),(2,1,.c (.int .i64 5))])),(zo 33 (.call (.c (.fn 188)) [.s 30,.s 31,.s 32])),(zo 8 (.move (.s 33)))]) (.seq (.seq (.region g158 [(zo 34 (.move (.s 8))),(zo 35 (.move (.s 1))),(zo 36 (.bin (.sub) (.s 34) (.s 35))),(zo 37 (.bin (.gtr) (.s 36) (.c (.int .i64 24))))]) (.cond (.s 37) (.seq (.region g158 [(zo 38 (.build (.cons (.int .i64 0) (.cons (.int .i64 0) (.cons (.int .i64 0) (.cons (.str []) .nil)))) [])),⟨none,none,.store 4 (.s 4) (.s 38),[]⟩,(zo 5 (.move (.c (.int .i64 0)))),(zo 6 (.move (.c (.int .i64 2))))]) .ret) .skip)) (.seq (.region g158 [(zo 39 (.move (.s 1))),(zo 40 (.move (.s 0))),(zo 41 (.nilCheck (.s 40))),(zo 42 (.fldA 0 (.s 41))),(zo 43 (.load 1 false (.s 42))),(zo 44 (.move (.s 1))),(zo 45 (.move (.s 8))),(zo 46 (.sliceStr (.s 43) (some (.s 44)) (some (.s 45)))),(zo 47 (.build (.cons (.int .i64 0) (.cons (.int .i64 0) (.cons (.int .i64 0) (.cons (.str []) .nil)))) [(0,1,.c (.int .i64 1)),(1,1,.s 39),(3,1,.s 46)])),(zo 48 (.move (.s 8))),⟨none,none,.store 4 (.s 4) (.s 47),[]⟩,(zo 5 (.move (.s 48))),(zo 6 (.move (.c (.int .i64 0))))]) .ret))) (.exit 0)))) (.seq (.seq (.region g158 [(zo 49 (.move (.s 0))),(zo 50 (.move (.s 1))),(zo 51 (.buildSl 3 1 1 (.cons (.int .i64 0) .nil) [(0,1,.c (.int .i64 4))])),(zo 52 (.call (.c (.fn 188)) [.s 49,.s 50,.s 51])),(zo 9 (.move (.s 52)))]) (.seq (.seq (.region g158 [(zo 53 (.move (.s 0))),(zo 54 (.move (.s 9))),(zo 55 (.call (.c (.fn 189)) [.s 53,.s 54])),(zo 10 (.move (.s 55)))]) (.seq (.region g158 [(zo 56 (.move (.s 9))),(zo 57 (.move (.s 1))),(zo 58 (.bin (.sub) (.s 56) (.s 57))),(zo 59 (.bin (.gtr) (.s 58) (.c (.int .i64 13)))),(zo 60 (.move (.s 59))),(zg 61 60 false (.move (.s 10))),(zg 62 60 false (.bin (.eql) (.s 61) (.c (.int .i64 3)))),(zo 63 (.pick (.s 60) (.c (.bool true)) (.s 62))),(zo 64 (.move (.s 63))),(zg 65 64 false (.move (.s 10))),(zg 66 64 false (.bin (.eql) (.s 65) (.c (.int .i64 5)))),(zo 67 (.pick (.s 64) (.c (.bool true)) (.s 66)))]) (.cond (.s 67) (.seq (.region g158 [(zo 68 (.build (.cons (.int .i64 0) (.cons (.int .i64 0) (.cons (.int .i64 0) (.cons (.str []) .nil)))) [])),⟨none,none,.store 4 (.s 4) (.s 68),[]⟩,(zo 5 (.move (.c (.int .i64 0)))),(zo 6 (.move (.c (.int .i64 4))))]) .ret) .skip))) (.seq (.region g158 [(zo 70 (.move (.s 0))),(zo 71 (.nilCheck (.s 70))),(zo 72 (.fldA 0 (.s 71))),(zo 73 (.load 1 false (.s 72))),(zo 74 (.move (.s 1))),(zo 75 (.move (.s 9))),(zo 76 (.sliceStr (.s 73) (some (.s 74)) (some (.s 75)))),(zo 77 (.call (.c (.fn 120)) [.s 76])),(zo 69 (.move (.s 77))),(zo 78 (.extract 0 (.s 69))),(zo 79 (.extract 1 (.s 69))),(zo 11 (.move (.s 78))),(zo 12 (.move (.s 79)))]) (.seq (.region g158 [(zo 80 (.move (.s 1))),(zo 81 (.move (.s 11))),(zo 82 (.move (.s 0))),(zo 83 (.nilCheck (.s 82))),(zo 84 (.fldA 0 (.s 83))),(zo 85 (.load 1 false (.s 84))),(zo 86 (.move (.s 1))),(zo 87 (.move (.s 9))),(zo 88 (.sliceStr (.s 85) (some (.s 86)) (some (.s 87)))),(zo 89 (.build (.cons (.int .i64 0) (.cons (.int .i64 0) (.cons (.int .i64 0) (.cons (.str []) .nil)))) [(0,1,.c (.int .i64 2)),(1,1,.s 80),(2,1,.s 81),(3,1,.s 88)])),(zo 90 (.move (.s 9))),⟨none,none,.store 4 (.s 4) (.s 89),[]⟩,(zo 5 (.move (.s 90))),(zo 6 (.move (.c (.int .i64 0))))]) .ret)))) (.exit 0)))) (.seq (.seq (.region g158 [(zo 91 (.move (.s 0))),(zo 92 (.nilCheck (.s 91))),(zo 93 (.fldA 0 (.s 92))),(zo 94 (.load 1 false (.s 93))),(zo 95 (.move (.s 1))),(zo 96 (.bin (.add) (.s 95) (.c (.int .i64 1)))),(zo 97 (.sliceStr (.s 94) (some (.s 96)) none)),(zo 13 (.move (.s 97)))]) (.seq (.region g158 [(zo 98 (.move (.s 13))),(zo 99 (.call (.c (.fn 191)) [.s 98,.c (.str [34,10])])),(zo 14 (.move (.s 99)))]) (.seq (.seq (.region g158 [(zo 100 (.move (.s 14))),(zo 101 (.bin (.lss) (.s 100) (.c (.int .i64 0)))),(zo 102 (.move (.s 101))),(zg 103 102 false (.move (.s 13))),(zg 104 102 false (.move (.s 14))),(zg 105 102 false (.idxStr (.s 103) (.s 104))),(zg 106 102 false (.bin (.eql) (.s 105) (.c (.int (.u8) 10)))),(zo 107 (.pick (.s 102) (.c (.bool true)) (.s 106)))]) (.cond (.s 107) (.seq (.region g158 [(zo 108 (.build (.cons (.int .i64 0) (.cons (.int .i64 0) (.cons (.int .i64 0) (.cons (.str []) .nil)))) [])),⟨none,none,.store 4 (.s 4) (.s 108),[]⟩,(zo 5 (.move (.c (.int .i64 0)))),(zo 6 (.move (.c (.int .i64 6))))]) .ret) .skip)) (.seq (.seq (.region g158 [(zo 109 (.move (.s 14))),(zo 110 (.bin (.gtr) (.s 109) (.c (.int .i64 400))))]) (.cond (.s 110) (.seq (.region g158 [(zo 111 (.build (.cons (.int .i64 0) (.cons (.int .i64 0) (.cons (.int .i64 0) (.cons (.str []) .nil)))) [])),⟨none,none,.store 4 (.s 4) (.s 111),[]⟩,(zo 5 (.move (.c (.int .i64 0)))),(zo 6 (.move (.c (.int .i64 2))))]) .ret) .skip)) (.seq (.region g158 [(zo 112 (.move (.s 1))),(zo 113 (.move (.s 13))),(zo 114 (.move (.s 14))),(zo 115 (.sliceStr (.s 113) none (some (.s 114)))),(zo 116 (.build (.cons (.int .i64 0) (.cons (.int .i64 0) (.cons (.int .i64 0) (.cons (.str []) .nil)))) [(0,1,.c (.int .i64 3)),(1,1,.s 112),(3,1,.s 115)])),(zo 117 (.move (.s 1))),(zo 118 (.move (.s 14))),(zo 119 (.bin (.add) (.s 117) (.s 118))),(zo 120 (.bin (.add) (.s 119) (.c (.int .i64 2)))),⟨none,none,.store 4 (.s 4) (.s 116),[]⟩,(zo 5 (.move (.s 120))),(zo 6 (.move (.c (.int .i64 0))))]) .ret))))) (.exit 0)))) (.seq (.seq (.region g158 [(zo 121 (.move (.s 0))),(zo 122 (.nilCheck (.s 121))),(zo 123 (.fldA 0 (.s 122))),(zo 124 (.load 1 false (.s 123))),(zo 125 (.move (.s 1))),(zo 126 (.bin (.add) (.s 125) (.c (.int .i64 1)))),(zo 127 (.sliceStr (.s 124) (some (.s 126)) none)),(zo 128 (.call (.c (.fn 192)) [.s 127,.c (.str [61])]))]) (.cond (.s 128) (.seq (.region g158 [(zo 129 (.move (.s 1))),(zo 130 (.move (.s 0))),(zo 131 (.nilCheck (.s 130))),(zo 132 (.fldA 0 (.s 131))),(zo 133 (.load 1 false (.s 132))),(zo 134 (.move (.s 1))),(zo 135 (.move (.s 1))),(zo 136 (.bin (.add) (.s 135) (.c (.int .i64 2)))),(zo 137 (.sliceStr (.s 133) (some (.s 134)) (some (.s 136)))),(zo 138 (.build (.cons (.int .i64 0) (.cons (.int .i64 0) (.cons (.int .i64 0) (.cons (.str []) .nil)))) [(0,1,.c (.int .i64 4)),(1,1,.s 129),(3,1,.s 137)])),(zo 139 (.move (.s 1))),(zo 140 (.bin (.add) (.s 139) (.c (.int .i64 2)))),⟨none,none,.store 4 (.s 4) (.s 138),[]⟩,(zo 5 (.move (.s 140))),(zo 6 (.move (.c (.int .i64 0))))]) .ret) .skip)) (.seq (.region g158 [(zo 141 (.move (.s 7))),(zo 142 (.bin (.eql) (.s 141) (.c (.int .i64 7))))]) (.cond (.s 142) (.seq (.region g158 [(zo 143 (.build (.cons (.int .i64 0) (.cons (.int .i64 0) (.cons (.int .i64 0) (.cons (.str []) .nil)))) [])),⟨none,none,.store 4 (.s 4) (.s 143),[]⟩,(zo 5 (.move (.c (.int .i64 0)))),(zo 6 (.move (.c (.int .i64 3))))]) .ret) .skip))))) (.seq (.seq (.region g158 [(zo 144 (.move (.s 1))),(zo 145 (.move (.s 0))),(zo 146 (.nilCheck (.s 145))),(zo 147 (.fldA 0 (.s 146))),(zo 148 (.load 1 false (.s 147))),(zo 149 (.move (.s 1))),(zo 150 (.move (.s 1))),(zo 151 (.bin (.add) (.s 150) (.c (.int .i64 1)))),(zo 152 (.sliceStr (.s 148) (some (.s 149)) (some (.s 151)))),(zo 153 (.build (.cons (.int .i64 0) (.cons (.int .i64 0) (.cons (.int .i64 0) (.cons (.str []) .nil)))) [(0,1,.c (.int .i64 4)),(1,1,.s 144),(3,1,.s 152)])),(zo 154 (.move (.s 1))),(zo 155 (.bin (.add) (.s 154) (.c (.int .i64 1)))),⟨none,none,.store 4 (.s 4) (.s 153),[]⟩,(zo 5 (.move (.s 155))),(zo 6 (.move (.c (.int .i64 0))))]) .ret) (.exit 0)))))) (.seq (.region g158 [(zo 156 (.build (.cons (.int .i64 0) (.cons (.int .i64 0) (.cons (.int .i64 0) (.cons (.str []) .nil)))) [])),⟨none,none,.store 4 (.s 4) (.s 156),[]⟩,(zo 5 (.move (.c (.int .i64 0)))),(zo 6 (.move (.c (.int .i64 3))))]) .ret))
def r158:List aR:=[.cell 4 4 true,.slot 5,.slot 6]
def k158:List (Nat×Nat×aD×Nat):=[]
theorem e158:aK Tryz.prog 158 g158 [] [] k158=some (c158,r158,157):=by kernel_rfl
theorem q158:aF Tryz.prog k158:=aF.nil
def Pg:Eng.Spec where
  X:=AtX
  args:=atS.args
  pre:=fun x=>0<=x.2.2/\x.2.2 < (x.1.length:Int)/\x.1.length<=1000000
  res:=fun x=>.tup (.cons (.agg (tkL (nxV x.1 x.2.1 x.2.2).1)) (.cons (.int .i64 (nxV x.1 x.2.1 x.2.2).2.1) (.cons (.int .i64 (nxV x.1 x.2.1 x.2.2).2.2) .nil)))
  inst:=atS.inst
theorem eqs {r:NR} {a b c:Int} {s:List UInt8} {d e:Int} (h:r=(⟨a,b,c,s⟩,d,e)):a=r.1.kind/\b=r.1.off/\c=r.1.n/\s=r.1.text/\d=r.2.1/\e=r.2.2:=by subst h; exact ⟨rfl,rfl,rfl,rfl,rfl,rfl⟩
theorem Px (cs:List UInt8):∀ l:List UInt8,Lib.indexAny l cs < (l.length:Int)\/Lib.indexAny l cs=-1:=by
  intro l
  induction l with
  | nil=>exact .inr rfl
  | cons b l ih =>
    simp only [Lib.indexAny]
    split
    · left; simp only [List.length_cons]; omega
    · split
      · exact .inr rfl
      · rename_i h
        left
        simp only [List.length_cons]
        rcases ih with ih|ih
        · omega
        · exact absurd (by simp [ih]) h
theorem qbd {t:List UInt8} {i:Int} (h:¬ qAt t i < 0):0<=qAt t i/\qAt t i < ((t.drop (i+1).toNat).length:Int):=by
  have:=Px [34,10] (t.drop (i+1).toNat)
  unfold qAt at h ⊢
  omega
theorem xW {l:List UInt8} (h:Lib.hasPrefix l [61]=true):1<=l.length:=by
  cases l with
  | nil=>exact absurd h (by decide)
  | cons=>simp
theorem Nn:Pg.Ok Tryz.prog 158:=by
  refine Eng.Spec.okR e158 q158 (fun _=>[(188,.p Td),(189,.p atS),(120,.p fF),(191,.p iH),(192,.p iL)]) (fun _ _=>aA.p Lk (aA.p H6 (aA.p V2.atoi (aA.p V3.indexAny (aA.p L5.hasPrefix aA.nil))))) ?_
  rintro ⟨t,f,i⟩ ⟨(h0:0<=i),(h1:i < (t.length:Int)),(h2:t.length<=1000000)⟩
  refine ⟨trivial,?_⟩
  have w0:whl ⟨t,f,i,3,cs3⟩<=t.length - i.toNat:=nX
  have d0:whl ⟨t,f,i,1,cs1⟩<=t.length - i.toNat:=nX
  have w1:i<=gB t f i:=by unfold gB; omega
  have w2:gB t f i<=(t.length:Int):=by unfold gB; omega
  have w3:-9223372036854775808<=gB t f i - i:=by omega
  have w4:gB t f i - i<=9223372036854775807:=by omega
  have d1:i<=gP t f i:=by unfold gP; omega
  have d2:gP t f i<=(t.length:Int):=by unfold gP; omega
  have d3:-9223372036854775808<=gP t f i - i:=by omega
  have d4:gP t f i - i<=9223372036854775807:=by omega
  have d5:0<=gP t f i:=by omega
  have p1:-9223372036854775808<=i+1:=by omega
  have p2:i+1<=9223372036854775807:=by omega
  have p3:0<=i+1:=by omega
  have p4:i+1<=(t.length:Int):=by omega
  have p5:-9223372036854775808<=i+2:=by omega
  have p6:i+2<=9223372036854775807:=by omega
  have p7:i<=i+2:=by omega
  have p8:i<=i+1:=by omega
  have h1':i<=(t.length:Int):=by omega
  have h3:(1:Nat)<=1000000:=by decide
  have h4:(3:Nat)<=1000000:=by decide
  have q0:(kO t i (gP t f i)).length<=1000000:=by
    unfold kO; rw [List.length_take,List.length_drop]; omega
  have q1:(t.drop (i+1).toNat).length<=1000000:=by rw [List.length_drop]; omega
  repeat' (first|apply And.intro|exact trivial|exact rfl|exact fun (j:Nat) (_:j < 256)=>rfl|exact h0)
  · refine fun (hc:decide (atV t f i=3)=true)=>?_
    have hc:=of_decide_eq_true hc
    repeat' (first|apply And.intro|exact trivial|exact rfl|exact fun (j:Nat) (_:j < 256)=>rfl|exact h0|exact h1'|exact h2|exact h4|exact w3|exact w4)
    · refine fun (hg:decide (24 < gB t f i - i)=true)=>?_
      have hg:=of_decide_eq_true hg
      have e:=eqs (show nxV t f i=(⟨0,0,0,[]⟩,0,2) by unfold nxV; rw [if_pos hc,if_pos hg]; rfl)
      obtain ⟨e1,e2,e3,e4,e5,e6⟩:=e
      repeat' (first|apply And.intro|exact trivial|exact rfl|exact e1|exact e2|exact e3|exact e4|exact e5|exact e6)
    · refine fun (hg:decide (24 < gB t f i - i)=false)=>?_
      have hg:=of_decide_eq_false hg
      have e:=eqs (show nxV t f i=(⟨1,i,0,kO t i (gB t f i)⟩,gB t f i,0) by unfold nxV; rw [if_pos hc,if_neg hg])
      obtain ⟨e1,e2,e3,e4,e5,e6⟩:=e
      repeat' (first|apply And.intro|exact trivial|exact rfl|exact e1|exact e2|exact e3|exact e4|exact e5|exact e6|exact h0|exact w1|exact w2)
  · refine fun (hc:decide (atV t f i=3)=false)=>?_
    have hc3:=of_decide_eq_false hc
    repeat' (first|apply And.intro|exact trivial|exact rfl|exact fun (j:Nat) (_:j < 256)=>rfl|exact h0)
    · refine fun (hc:decide (atV t f i=4)=true)=>?_
      have hc:=of_decide_eq_true hc
      repeat' (first|apply And.intro|exact trivial|exact rfl|exact fun (j:Nat) (_:j < 256)=>rfl|exact h0|exact h1'|exact h2|exact h3|exact d3|exact d4|exact d5)
      · refine fun (hg:aG (aG (decide (13 < gP t f i - i)) _ _ _ (decide (atV t f (gP t f i)=3))) _ _ _ (decide (atV t f (gP t f i)=5))=true)=>?_
        rw [aI,aI] at hg
        have e:=eqs (show nxV t f i=(⟨0,0,0,[]⟩,0,4) by unfold nxV; rw [if_neg hc3,if_pos hc,if_pos hg]; rfl)
        obtain ⟨e1,e2,e3,e4,e5,e6⟩:=e
        repeat' (first|apply And.intro|exact trivial|exact rfl|exact e1|exact e2|exact e3|exact e4|exact e5|exact e6)
      · refine fun (hg:aG (aG (decide (13 < gP t f i - i)) _ _ _ (decide (atV t f (gP t f i)=3))) _ _ _ (decide (atV t f (gP t f i)=5))=false)=>?_
        rw [aI,aI] at hg
        have e:=eqs (show nxV t f i=(⟨2,i,aM (kO t i (gP t f i)),kO t i (gP t f i)⟩,gP t f i,0) by unfold nxV; rw [if_neg hc3,if_pos hc,if_neg (ne_true_of_eq_false hg)])
        obtain ⟨e1,e2,e3,e4,e5,e6⟩:=e
        repeat' (first|apply And.intro|exact trivial|exact rfl|exact e1|exact e2|exact e3|exact e4|exact e5|exact e6|exact h0|exact d1|exact d2|exact q0)
    · refine fun (hc:decide (atV t f i=4)=false)=>?_
      have hc4:=of_decide_eq_false hc
      repeat' (first|apply And.intro|exact trivial|exact rfl|exact fun (j:Nat) (_:j < 256)=>rfl|exact h0)
      · refine fun (hc:decide (atV t f i=6)=true)=>?_
        have hc:=of_decide_eq_true hc
        repeat' (first|apply And.intro|exact trivial|exact rfl|exact fun (j:Nat) (_:j < 256)=>rfl|exact p1|exact p2|exact p3|exact p4|exact q1)
        · exact fun (hg:decide (qAt t i < 0)=false)=>qbd (of_decide_eq_false hg)
        · refine fun (hg:aG (decide (qAt t i < 0)) _ _ _ (decide ((((t.drop (i+1).toNat).getD (qAt t i).toNat 0).toNat:Int)=10))=true)=>?_
          rw [aI] at hg
          have e:=eqs (show nxV t f i=(⟨0,0,0,[]⟩,0,6) by unfold nxV; rw [if_neg hc3,if_neg hc4,if_pos hc,if_pos hg]; rfl)
          obtain ⟨e1,e2,e3,e4,e5,e6⟩:=e
          repeat' (first|apply And.intro|exact trivial|exact rfl|exact e1|exact e2|exact e3|exact e4|exact e5|exact e6)
        · refine fun (hg:aG (decide (qAt t i < 0)) _ _ _ (decide ((((t.drop (i+1).toNat).getD (qAt t i).toNat 0).toNat:Int)=10))=false)=>?_
          rw [aI] at hg
          have hq:¬ qAt t i < 0:=of_decide_eq_false (Bool.or_eq_false_iff.1 hg).1
          have hq1:=qbd hq
          have hq2:0<=qAt t i/\qAt t i<=((t.drop (i+1).toNat).length:Int):=⟨hq1.1,Int.le_of_lt hq1.2⟩
          have b1:-9223372036854775808<=i+qAt t i:=by have:=hq2.2; omega
          have b2:i+qAt t i<=9223372036854775807:=by have:=hq2.2; omega
          have b3:-9223372036854775808<=i+qAt t i+2:=by have:=hq2.2; omega
          have b4:i+qAt t i+2<=9223372036854775807:=by have:=hq2.2; omega
          repeat' (first|apply And.intro|exact trivial|exact rfl)
          · refine fun (hk:decide (400 < qAt t i)=true)=>?_
            have hk:=of_decide_eq_true hk
            have e:=eqs (show nxV t f i=(⟨0,0,0,[]⟩,0,2) by unfold nxV; rw [if_neg hc3,if_neg hc4,if_pos hc,if_neg (ne_true_of_eq_false hg),if_pos hk]; rfl)
            obtain ⟨e1,e2,e3,e4,e5,e6⟩:=e
            repeat' (first|apply And.intro|exact trivial|exact rfl|exact e1|exact e2|exact e3|exact e4|exact e5|exact e6)
          · refine fun (hk:decide (400 < qAt t i)=false)=>?_
            have hk:=of_decide_eq_false hk
            have e:=eqs (show nxV t f i=(⟨3,i,0,(t.drop (i+1).toNat).take (qAt t i).toNat⟩,i+qAt t i+2,0) by unfold nxV; rw [if_neg hc3,if_neg hc4,if_pos hc,if_neg (ne_true_of_eq_false hg),if_neg hk])
            obtain ⟨e1,e2,e3,e4,e5,e6⟩:=e
            repeat' (first|apply And.intro|exact trivial|exact rfl|exact e1|exact e2|exact e3|exact e4|exact e5|exact e6|exact hq2.1|exact hq2.2|exact b1|exact b2|exact b3|exact b4)
      · refine fun (hc:decide (atV t f i=6)=false)=>?_
        have hc6:=of_decide_eq_false hc
        repeat' (first|apply And.intro|exact trivial|exact rfl|exact fun (j:Nat) (_:j < 256)=>rfl)
        · refine fun (hc:decide (atV t f i=7)=true)=>?_
          have hc7:=of_decide_eq_true hc
          repeat' (first|apply And.intro|exact trivial|exact rfl)
          rotate_left
          · refine fun (h:decide (atV t f i=7)=false)=>?_
            exact absurd hc7 (of_decide_eq_false h)
          refine fun (_:decide (atV t f i=7)=true)=>?_
          repeat' (first|apply And.intro|exact trivial|exact rfl|exact p1|exact p2|exact p3|exact p4)
          · refine fun (hp:Lib.hasPrefix (t.drop (i+1).toNat) [61]=true)=>?_
            have hpl:=xW hp
            have p9:i+2<=(t.length:Int):=by rw [List.length_drop] at hpl; omega
            have e:=eqs (show nxV t f i=(⟨4,i,0,kO t i (i+2)⟩,i+2,0) by unfold nxV; rw [if_neg hc3,if_neg hc4,if_neg hc6,if_pos (.inl hc7),if_pos hp])
            obtain ⟨e1,e2,e3,e4,e5,e6⟩:=e
            repeat' (first|apply And.intro|exact trivial|exact rfl|exact e1|exact e2|exact e3|exact e4|exact e5|exact e6|exact p5|exact p6|exact h0|exact p7|exact p9)
          · refine fun (hp:Lib.hasPrefix (t.drop (i+1).toNat) [61]=false)=>?_
            repeat' (first|apply And.intro|exact trivial|exact rfl)
            · refine fun (_:decide (atV t f i=7)=true)=>?_
              have e:=eqs (show nxV t f i=(⟨0,0,0,[]⟩,0,3) by unfold nxV; rw [if_neg hc3,if_neg hc4,if_neg hc6,if_pos (.inl hc7),if_neg (ne_true_of_eq_false hp),if_pos hc7]; rfl)
              obtain ⟨e1,e2,e3,e4,e5,e6⟩:=e
              repeat' (first|apply And.intro|exact trivial|exact rfl|exact e1|exact e2|exact e3|exact e4|exact e5|exact e6)
            · refine fun (h7:decide (atV t f i=7)=false)=>?_
              exact absurd hc7 (of_decide_eq_false h7)
        · refine fun (hc:decide (atV t f i=7)=false)=>?_
          have hc7:=of_decide_eq_false hc
          repeat' (first|apply And.intro|exact trivial|exact rfl)
          · refine fun (hc:decide (atV t f i=8)=true)=>?_
            have hc8:=of_decide_eq_true hc
            repeat' (first|apply And.intro|exact trivial|exact rfl|exact p1|exact p2|exact p3|exact p4)
            · refine fun (hp:Lib.hasPrefix (t.drop (i+1).toNat) [61]=true)=>?_
              have hpl:=xW hp
              have p9:i+2<=(t.length:Int):=by rw [List.length_drop] at hpl; omega
              have e:=eqs (show nxV t f i=(⟨4,i,0,kO t i (i+2)⟩,i+2,0) by unfold nxV; rw [if_neg hc3,if_neg hc4,if_neg hc6,if_pos (.inr hc8),if_pos hp])
              obtain ⟨e1,e2,e3,e4,e5,e6⟩:=e
              repeat' (first|apply And.intro|exact trivial|exact rfl|exact e1|exact e2|exact e3|exact e4|exact e5|exact e6|exact p5|exact p6|exact h0|exact p7|exact p9)
            · refine fun (hp:Lib.hasPrefix (t.drop (i+1).toNat) [61]=false)=>?_
              repeat' (first|apply And.intro|exact trivial|exact rfl)
              · refine fun (h7:decide (atV t f i=7)=true)=>?_
                exact absurd (of_decide_eq_true h7) hc7
              · refine fun (_:decide (atV t f i=7)=false)=>?_
                have e:=eqs (show nxV t f i=(⟨4,i,0,kO t i (i+1)⟩,i+1,0) by unfold nxV; rw [if_neg hc3,if_neg hc4,if_neg hc6,if_pos (.inr hc8),if_neg (ne_true_of_eq_false hp),if_neg hc7])
                obtain ⟨e1,e2,e3,e4,e5,e6⟩:=e
                repeat' (first|apply And.intro|exact trivial|exact rfl|exact e1|exact e2|exact e3|exact e4|exact e5|exact e6|exact p1|exact p2|exact h0|exact p8|exact p4)
          refine fun (hc:decide (atV t f i=8)=false)=>?_
          have hc8:=of_decide_eq_false hc
          repeat' (first|apply And.intro|exact trivial|exact rfl)
          · refine fun (hc:decide (atV t f i=9)=true)=>?_
            have hc9:=of_decide_eq_true hc
            have e:=eqs (show nxV t f i=(⟨4,i,0,kO t i (i+1)⟩,i+1,0) by unfold nxV; rw [if_neg hc3,if_neg hc4,if_neg hc6,if_neg (by omega),if_pos hc9])
            obtain ⟨e1,e2,e3,e4,e5,e6⟩:=e
            repeat' (first|apply And.intro|exact trivial|exact rfl|exact e1|exact e2|exact e3|exact e4|exact e5|exact e6|exact p1|exact p2|exact h0|exact p8|exact p4)
          · refine fun (hc:decide (atV t f i=9)=false)=>?_
            have hc9:=of_decide_eq_false hc
            have e:=eqs (show nxV t f i=(⟨0,0,0,[]⟩,0,3) by unfold nxV; rw [if_neg hc3,if_neg hc4,if_neg hc6,if_neg (by omega),if_neg hc9]; rfl)
            obtain ⟨e1,e2,e3,e4,e5,e6⟩:=e
            repeat' (first|apply And.intro|exact trivial|exact rfl|exact e1|exact e2|exact e3|exact e4|exact e5|exact e6)
end L8
end
section
namespace EL
open Go Go.Eng
theorem aY {k:Keep} {f:SV->SV->Prop} {s t:SV} (h:s=t) (hs:f t t):uK k f s t:=by
 subst h; exact Or.inl hs
theorem Eu {T:Type} {g:T->SV} {d:T} {L M:List T} {e:Nat->SV} (he:∀ i,i < M.length->e i=g (M.getD i d)) {n:Nat} (hn:n=L.length) {N:List T} (hN:N=L++M) {j:Nat} (hj:j < L.length+M.length):gD n (fun i=>g (L.getD i d)) e j=g (N.getD j d):=by
 subst hn hN
 unfold gD
 by_cases h:j < L.length
 ·rw [show Nat.blt j L.length=true from Nat.ble_eq_true_of_le h,cond_true]
  show g (L.getD j d)=_
  rw [List.getD_eq_getElem?_getD,List.getD_eq_getElem?_getD,List.getElem?_append_left h]
 ·have:Nat.blt j L.length=false:=by
   cases hb:Nat.blt j L.length with
   | false=>rfl
   | true=>exact absurd (Nat.le_of_ble_eq_true hb) h
  rw [this,cond_false,he _ (by omega),List.getD_eq_getElem?_getD,List.getD_eq_getElem?_getD,List.getElem?_append_right (by omega)]
theorem xH {T:Type} {g:T->SV} {d:T} {L:List T} {q:T} {e:Nat->SV} (he:e 0=g q) {n:Nat} (hn:n=L.length) {N:List T} (hN:N=L++[q]) {j:Nat} (hj:j < L.length+1):gD n (fun i=>g (L.getD i d)) e j=g (N.getD j d):=by
 refine Eu (M:=[q]) (fun i hi=>?_) hn hN hj
 have:i=0:=by simpa using hi
 subst this
 exact he
theorem lE {T:Type} {g:T->SV} {f:Nat->T} {n:Nat} {e:Nat->SV} (he:e 0=g (f n)) {j:Nat} (hj:j < n+1):gD n (fun i=>g (f i)) e j=g (f j):=by
 unfold gD
 by_cases h:j < n
 ·rw [show Nat.blt j n=true from Nat.ble_eq_true_of_le h,cond_true]
 ·have:Nat.blt j n=false:=by
   cases hb:Nat.blt j n with
   | false=>rfl
   | true=>exact absurd (Nat.le_of_ble_eq_true hb) h
  rw [this,cond_false,show j - n=0 by omega,he,show j=n by omega]
end EL
end
section
open Go Go.Eng Go.Proofs L1 L2 L3 L4 L6 L8
set_option maxRecDepth 100000
namespace L9
theorem V1 {t:List UInt8} {f:Nat->Int} (h3:f 10≠2):∀ (m:Nat) {j:Int},0<=j->j<=(t.length:Int)->j<=tl t f m j/\tl t f m j<=(t.length:Int):=by
 intro m
 induction m with
 | zero=>intro j h0 h1; exact ⟨Int.le_refl _,h1⟩
 | succ m ih =>
  intro j h0 h1
  unfold tl
  split
  ·rename_i hg
   split
   ·exact ⟨h1,Int.le_refl _⟩
   ·rename_i hn
    have:=Ph h0 h1 h3 hg hn
    have w:=Bb (f:=f) (t:=t) (j:=j+nl t j) (by omega) (by omega)
    have:=ih (j:=w1 t f (j+nl t j)) (by omega) (by omega)
    omega
  ·exact ⟨Int.le_refl _,h1⟩
theorem Ca {t:List UInt8} {f:Nat->Int} (h3:f 10≠2) {j:Int} (h0:0<=j) (h1:j<=(t.length:Int)):j<=gap t f j/\gap t f j<=(t.length:Int):=by
 have w:=Bb (f:=f) h0 h1
 have:=V1 (t:=t) h3 (t.length+1) (j:=w1 t f j) (by omega) w.2
 unfold gap
 omega
theorem E9 {t:List UInt8} {f:Nat->Int} {i:Int} {n:Nat} {cs:Nat->Int} (h0:0<=i) (h1:i < (t.length:Int)) (j:Nat) (hj:j < n) (h:cs j=atV t f i):1<=whl ⟨t,f,i,n,cs⟩:=by
 have:=uH (t:=t) (f:=f) (i:=i) (n:=n) (cs:=cs) (k:=0) h0 (Nat.zero_le _)
 rw [aJ] at this
 simp only [Int.ofNat_zero,Int.add_zero,decide_eq_true h1,Bool.true_and] at this
 rw [show decide (∃ j,j < n/\cs j=atV t f i)=true from decide_eq_true ⟨j,hj,h⟩] at this
 exact of_decide_eq_true this.symm
theorem Vc {t:List UInt8} {f:Nat->Int} {i:Int} (h0:0<=i) (h1:i < (t.length:Int)) (h:(nxV t f i).2.2=0):i < (nxV t f i).2.1/\(nxV t f i).2.1<=(t.length:Int):=by
 have w0:whl ⟨t,f,i,3,cs3⟩<=t.length - i.toNat:=nX
 have d0:whl ⟨t,f,i,1,cs1⟩<=t.length - i.toNat:=nX
 unfold nxV at h ⊢
 split
 ·rename_i hc
  rw [if_pos hc] at h
  have:=E9 (f:=f) (cs:=cs3) h0 h1 0 (by decide:0 < 3) (by rw [hc]; rfl)
  split
  ·rename_i hg; rw [if_pos hg] at h; exact absurd h (by decide)
  ·show i < gB t f i/\gB t f i<=_
   unfold gB; omega
 ·rename_i hc
  rw [if_neg hc] at h
  split
  ·rename_i hc
   rw [if_pos hc] at h
   have:=E9 (f:=f) (cs:=cs1) h0 h1 0 (by decide:0 < 1) (by rw [hc]; rfl)
   split
   ·rename_i hg; rw [if_pos hg] at h; exact absurd h (by decide)
   ·show i < gP t f i/\gP t f i<=_
    unfold gP; omega
  ·rename_i hc
   rw [if_neg hc] at h
   split
   ·rename_i hc
    rw [if_pos hc] at h
    split
    ·rename_i hg; rw [if_pos hg] at h; exact absurd h (by decide)
    ·rename_i hg
     rw [if_neg hg] at h
     split
     ·rename_i hg; rw [if_pos hg] at h; exact absurd h (by decide)
     ·have hq:=qbd (t:=t) (i:=i) (of_decide_eq_false (Bool.or_eq_false_iff.1 (Bool.eq_false_iff.2 hg)).1)
      rw [List.length_drop] at hq
      show i < i+qAt t i+2/\i+qAt t i+2<=_
      omega
   ·rename_i hc
    rw [if_neg hc] at h
    split
    ·rename_i hc
     rw [if_pos hc] at h
     split
     ·rename_i hp
      have hpl:=xW hp
      rw [List.length_drop] at hpl
      show i < i+2/\i+2<=_
      omega
     ·rename_i hp
      rw [if_neg hp] at h
      split
      ·rename_i hg; rw [if_pos hg] at h; exact absurd h (by decide)
      ·show i < i+1/\i+1<=_
       omega
    ·rename_i hc
     rw [if_neg hc] at h
     split
     ·show i < i+1/\i+1<=_
      omega
     ·rename_i hg; rw [if_neg hg] at h; exact absurd h (by decide)
def erV (r:NR) (n:Nat):Int:=if r.2.2=0/\n=5000 then 2 else r.2.2
def lx (t:List UInt8):Nat->Int->List Tk->List Tk×Int×Int
 | 0,_,out=>(out,0,0)
 | m+1,i,out=>if i < (t.length:Int) then
   (if erV (nxV t cls i) out.length=0 then lx t m (gap t cls (nxV t cls i).2.1) (out++[(nxV t cls i).1]) else ([],erV (nxV t cls i) out.length,i))
  else (out,0,0)
theorem oV {t:List UInt8} {m:Nat} {i:Int} {out:List Tk}:lx t (m+1) i out=if i < (t.length:Int) then
   (if erV (nxV t cls i) out.length=0 then lx t m (gap t cls (nxV t cls i).2.1) (out++[(nxV t cls i).1]) else ([],erV (nxV t cls i) out.length,i))
  else (out,0,0):=rfl
def eP (t:List UInt8):List Tk×Int×Int:=if 20000 < t.length then ([],2,-1) else lx t (t.length+1) (gap t cls 0) []
def Wq (l:List Tk):SV:=.slice 4 l.length fun i=>tkL (l.getD i tk0)
def Rg:Eng.Spec where
 X:=List UInt8
 args:=fun t=>.cons (.str t) .nil
 pre:=fun t=>t.length<=1000000
 res:=fun t=>.tup (.cons (Wq (eP t).1) (.cons (.int .i64 (eP t).2.1) (.cons (.int .i64 (eP t).2.2) .nil)))
 inst:=fun
  | .cons (.str t) _=>some t
  | _=>none
theorem K3 (k:Keep) (hp:List (Nat×aE)) (m:Nat) (t:Tk):sub k hp (m+6) (tkL t) (tkL t):=⟨⟨rfl,rfl⟩,⟨rfl,rfl⟩,⟨rfl,rfl⟩,rfl,trivial⟩
theorem Oj {k:Keep} {hp:List (Nat×aE)} {m:Nat} {a b:Tk} (h:a=b):sub k hp (m+6) (tkL a) (tkL b):=by subst h; exact K3 ..
def g123:List Nat:=[13,0,21,36,38,10,8,9,5,7,6,2,3,4]
def c123:aD :=
 .seq (.region g123 [(zo 2 (.move (.c (.nilsl)))),(zo 3 (.move (.c (.int .i64 0)))),(zo 4 (.move (.c (.int .i64 0))))]) (.seq (.seq (.region g123 [(zo 11 (.move (.s 0))),(zo 12 (.lenStr (.s 11))),(zo 13 (.bin (.gtr) (.s 12) (.c (.int .i64 20000))))]) (.cond (.s 13) (.seq (.region g123 [(zo 2 (.move (.c (.nilsl)))),(zo 3 (.move (.c (.int .i64 2)))),(zo 4 (.move (.c (.int .i64 (-1)))))]) .ret) .skip)) (.seq (.region g123 [(zo 14 (.move (.s 0))),(zo 15 (.call (.c (.fn 156)) [])),(zo 16 (.build (.cons (.str []) (.zeros .i64 256 .nil)) [(0,1,.s 14),(1,256,.s 15)])),(zo 5 (.alloc 159 (.cons (.str []) (.zeros .i64 256 .nil)))),⟨none,none,.store 257 (.s 5) (.s 16),[]⟩]) (.seq (.region g123 [(zo 6 (.move (.c (.nilsl))))]) (.seq (.seq (.region g123 [(zo 17 (.call (.c (.fn 157)) [.s 5,.c (.int .i64 0)])),(zo 7 (.move (.s 17)))]) (.block 0 (.loop 0 [18,19,20,21,25,26,24,27,28,29,8,9,30,31,32,33,34,35,36,10,37,38,39,40,2,3,4,41,42,43,44,6,45,22,23,7] (.seq (.seq (.region g123 [(zo 18 (.move (.s 7))),(zo 19 (.move (.s 0))),(zo 20 (.lenStr (.s 19))),(zo 21 (.bin (.lss) (.s 18) (.s 20)))]) (.cond (.s 21) .skip (.exit 0))) (.seq (.block 1 (.seq (.region g123 [(zo 25 (.move (.s 7))),(zo 26 (.call (.c (.fn 158)) [.s 5,.s 25])),(zo 24 (.move (.s 26))),(zo 27 (.extract 0 (.s 24))),(zo 28 (.extract 1 (.s 24))),(zo 29 (.extract 2 (.s 24))),(zo 8 (.alloc 131 (.cons (.int .i64 0) (.cons (.int .i64 0) (.cons (.int .i64 0) (.cons (.str []) .nil)))))),⟨none,none,.store 4 (.s 8) (.s 27),[]⟩,(zo 9 (.move (.s 28))),(zo 10 (.move (.s 29)))]) (.seq (.seq (.region g123 [(zo 30 (.move (.s 10))),(zo 31 (.bin (.eql) (.s 30) (.c (.int .i64 0)))),(zo 32 (.move (.s 31))),(zg 33 32 true (.move (.s 6))),(zg 34 32 true (.lenSl (.s 33))),(zg 35 32 true (.bin (.eql) (.s 34) (.c (.int .i64 5000)))),(zo 36 (.pick (.s 32) (.s 35) (.c (.bool false))))]) (.cond (.s 36) (.region g123 [(zo 10 (.move (.c (.int .i64 2))))]) .skip)) (.seq (.seq (.region g123 [(zo 37 (.move (.s 10))),(zo 38 (.bin (.neq) (.s 37) (.c (.int .i64 0))))]) (.cond (.s 38) (.seq (.region g123 [(zo 39 (.move (.s 10))),(zo 40 (.move (.s 7))),(zo 2 (.move (.c (.nilsl)))),(zo 3 (.move (.s 39))),(zo 4 (.move (.s 40)))]) .ret) .skip)) (.seq (.region g123 [(zo 41 (.move (.s 6))),(zo 42 (.load 4 true (.s 8))),(zo 43 (.buildSl 131 4 1 (.cons (.int .i64 0) (.cons (.int .i64 0) (.cons (.int .i64 0) (.cons (.str []) .nil)))) [(0,4,.s 42)])),(zo 44 (.app 131 4 40 (.s 41) (.s 43))),(zo 6 (.move (.s 44)))]) (.region g123 [(zo 45 (.move (.s 9))),(zo 7 (.move (.s 45)))])))))) (.region g123 [(zo 22 (.move (.s 7))),(zo 23 (.call (.c (.fn 157)) [.s 5,.s 22])),(zo 7 (.move (.s 23)))])))))) (.seq (.region g123 [(zo 46 (.move (.s 6))),(zo 2 (.move (.s 46))),(zo 3 (.move (.c (.int .i64 0)))),(zo 4 (.move (.c (.int .i64 0))))]) .ret)))))
def r123:List aR:=[.slot 2,.slot 3,.slot 4]
def k123:List (Nat×Nat×aD×Nat):=[]
theorem e123:aK Tryz.prog 123 g123 [] [] k123=some (c123,r123,47):=by kernel_rfl
theorem q123:aF Tryz.prog k123:=aF.nil
theorem Rh:Rg.Ok Tryz.prog 123:=by
 refine Eng.Spec.okR e123 q123 (fun _=>[(156,.p Tn),(157,.p T9),(158,.p Pg)]) (fun _ _=>aA.p P9 (aA.p Q3 (aA.p Nn aA.nil))) ?_
 intro (t:List UInt8) (h0:t.length<=1000000)
 have h3:cls 10≠2:=by decide
 refine ⟨trivial,?_⟩
 repeat' (first|apply And.intro|exact trivial|exact rfl|exact fun (j:Nat) (_:j < 256)=>rfl)
 ·refine fun (hg:decide (20000 < (t.length:Int))=true)=>?_
  have hg:=of_decide_eq_true hg
  have e:eP t=([],2,-1):=if_pos (by omega)
  have e1:0=(eP t).1.length:=by rw [e]; rfl
  have e2:2=(eP t).2.1:=by rw [e]
  have e3:-1=(eP t).2.2:=by rw [e]
  repeat' (first|apply And.intro|exact trivial|exact rfl|exact e1.symm|exact e2|exact e3)
 ·refine fun (hg:decide (20000 < (t.length:Int))=false)=>?_
  have hg:=of_decide_eq_false hg
  have e:eP t=lx t (t.length+1) (gap t cls 0) []:=if_neg (by omega)
  have b0:(0:Int)<=0:=by decide
  have b1:(0:Int)<=(t.length:Int):=by omega
  repeat' (first|apply And.intro|exact trivial|exact rfl|exact fun (j:Nat) (_:j < 256)=>rfl|exact b0|exact b1|exact h0|exact h3)
  have g0:=Ca (t:=t) h3 b0 b1
  refine ⟨⟨Nat×Int×List Tk,fun x=>(0<=x.2.1/\x.2.1<=(t.length:Int))/\(t.length:Int) - x.2.1 < x.1/\x.2.2.length<=5000/\lx t x.1 x.2.1 x.2.2=eP t,
   fun x=>[(7,.int .i64 x.2.1),(6,.lsl 20 4 x.2.2.length)],fun x=>[(20,.arr 131 4 x.2.2.length fun i=>tkL (x.2.2.getD i tk0))],fun x=>x.1⟩,(t.length+1,gap t cls 0,[]),?_,?_,?_⟩
  ·exact ⟨⟨Int.le_trans b0 g0.1,g0.2⟩,by show (t.length:Int) - gap t cls 0 < ((t.length+1:Nat):Int); have:=g0.1; omega,Nat.zero_le _,e.symm⟩
  ·repeat' (first|apply And.intro|exact trivial|exact rfl|exact fun (j:Nat) (_:j < 256)=>rfl)
  rintro ⟨m,j,out⟩ ⟨⟨(k0:0<=j),(k1:j<=(t.length:Int))⟩,(k2:(t.length:Int) - j < m),(k3:out.length<=5000),(k4:lx t m j out=eP t)⟩
  obtain ⟨m,rfl⟩:∃ q,m=q+1:=⟨m - 1,by omega⟩
  repeat' (first|apply And.intro|exact trivial|exact rfl|exact fun (j:Nat) (_:j < 256)=>rfl)
  ·refine fun (hg:decide (j < (t.length:Int))=true)=>?_
   have k5:=of_decide_eq_true hg
   rw [oV,if_pos k5] at k4
   repeat' (first|apply And.intro|exact trivial|exact rfl|exact fun (j:Nat) (_:j < 256)=>rfl|exact k0|exact k5|exact h0)
   ·refine fun (hp:aG (decide ((nxV t cls j).2.2=0)) (.s 35) (.c (.bool false)) (decide ((out.length:Int)=5000)) false=true)=>?_
    rw [aJ,Bool.and_eq_true,decide_eq_true_eq,decide_eq_true_eq] at hp
    have e1:erV (nxV t cls j) out.length=2:=if_pos ⟨hp.1,by omega⟩
    rw [e1,if_neg (by decide)] at k4
    have f1:0=(eP t).1.length:=by rw [<- k4]; rfl
    have f2:2=(eP t).2.1:=by rw [<- k4]
    have f3:j=(eP t).2.2:=by rw [<- k4]
    repeat' (first|apply And.intro|exact trivial|exact rfl)
    ·refine fun (_:(!decide ((2:Int)=0))=true)=>?_
     repeat' (first|apply And.intro|exact trivial|exact rfl|exact f1.symm|exact f2|exact f3)
    ·exact fun (h:(!decide ((2:Int)=0))=false)=>absurd h (by decide)
   ·refine fun (hp:aG (decide ((nxV t cls j).2.2=0)) (.s 35) (.c (.bool false)) (decide ((out.length:Int)=5000)) false=false)=>?_
    rw [aJ] at hp
    repeat' (first|apply And.intro|exact trivial|exact rfl)
    ·refine fun (he:(!decide ((nxV t cls j).2.2=0))=true)=>?_
     have he:(nxV t cls j).2.2≠0:=by simpa using he
     have e1:erV (nxV t cls j) out.length=(nxV t cls j).2.2:=if_neg fun h=>he h.1
     rw [e1,if_neg he] at k4
     have f1:0=(eP t).1.length:=by rw [<- k4]; rfl
     have f2:(nxV t cls j).2.2=(eP t).2.1:=by rw [<- k4]
     have f3:j=(eP t).2.2:=by rw [<- k4]
     repeat' (first|apply And.intro|exact trivial|exact rfl|exact f1.symm|exact f2|exact f3)
    ·refine fun (he:(!decide ((nxV t cls j).2.2=0))=false)=>?_
     have he:(nxV t cls j).2.2=0:=by simpa using he
     have hn:out.length≠5000:=fun h=>by rw [he,h] at hp; exact absurd hp (by decide)
     have e1:erV (nxV t cls j) out.length=(nxV t cls j).2.2:=if_neg fun h=>hn h.2
     rw [e1,if_pos he] at k4
     have hb:=Vc k0 k5 he
     have c0:0<=(nxV t cls j).2.1:=by omega
     have hgb:=Ca h3 c0 hb.2
     repeat' (first|apply And.intro|exact trivial|exact rfl|exact fun (j:Nat) (_:j < 256)=>rfl|exact c0|exact hb.2|exact h0|exact h3)
     ·show out.length+1<=9223372036854775807
      omega
     ·show (out.length+1) * 40<=140737488355328
      omega
     refine Exists.intro (m,gap t cls (nxV t cls j).2.1,out++[(nxV t cls j).1]) ?_
     have r0:0<=gap t cls (nxV t cls j).2.1:=by omega
     have r1:(t.length:Int) - gap t cls (nxV t cls j).2.1 < (m:Int):=by omega
     have r2:(out++[(nxV t cls j).1]).length<=5000:=by rw [List.length_append]; show out.length+1<=5000; omega
     have r3:out.length+1=(out++[(nxV t cls j).1]).length:=by rw [List.length_append]; rfl
     repeat' (first|apply And.intro|exact trivial|exact rfl|exact fun (j:Nat) (_:j < 256)=>rfl|exact r0|exact hgb.2|exact r1|exact r2|exact k4|exact r3)
     ·exact fun (i:Nat) (hi:i < out.length+1)=>EL.aY (EL.xH (g:=tkL) (d:=tk0) (L:=out) (q:=(nxV t cls j).1) (N:=out++[(nxV t cls j).1]) rfl rfl rfl hi) (K3 ..)
     ·exact Nat.lt_succ_self m
  ·refine fun (hg:decide (j < (t.length:Int))=false)=>?_
   have k5:=of_decide_eq_false hg
   rw [oV,if_neg k5] at k4
   have e1:out.length=(eP t).1.length:=by rw [<- k4]
   have e2:0=(eP t).2.1:=by rw [<- k4]
   have e3:0=(eP t).2.2:=by rw [<- k4]
   repeat' (first|apply And.intro|exact trivial|exact rfl|exact e1|exact e2|exact e3)
   ·exact Nat.le_of_eq (Nat.zero_add _)
   ·exact fun (i:Nat) (_:i < out.length)=>Or.inl (Oj (by rw [<- k4,Nat.zero_add]))
end L9
end
section
open Go Go.Eng Go.Proofs L1 L2 L3 L4 L6 L8 L9
set_option maxRecDepth 100000
namespace L10
def dF (s:List UInt8):Bool:=(((decide ((eP s).2.1=0) && decide (((eP s).1.length:Int)=1)) && decide (((eP s).1.getD 0 tk0).kind=1)) && decide (((eP s).1.getD 0 tk0).text=s))
def g82:List Nat:=[4,3,0,2]
def c82:aD :=
 .seq (.region g82 [(zo 2 (.move (.c (.bool false))))]) (.seq (.region g82 [(zo 7 (.move (.s 0))),(zo 8 (.call (.c (.fn 123)) [.s 7])),(zo 6 (.move (.s 8))),(zo 9 (.extract 0 (.s 6))),(zo 10 (.extract 1 (.s 6))),(zo 11 (.extract 2 (.s 6))),(zo 3 (.move (.s 9))),(zo 4 (.move (.s 10))),(zo 5 (.move (.s 11)))]) (.seq (.region g82 [(zo 12 (.move (.s 4))),(zo 13 (.bin (.eql) (.s 12) (.c (.int .i64 0)))),(zo 14 (.move (.s 13))),(zg 15 14 true (.move (.s 3))),(zg 16 14 true (.lenSl (.s 15))),(zg 17 14 true (.bin (.eql) (.s 16) (.c (.int .i64 1)))),(zo 18 (.pick (.s 14) (.s 17) (.c (.bool false)))),(zo 19 (.move (.s 18))),(zg 20 19 true (.move (.s 3))),(zg 21 19 true (.idxSl 4 (.s 20) (.c (.int .i64 0)))),(zg 22 19 true (.fldA 0 (.s 21))),(zg 23 19 true (.load 1 false (.s 22))),(zg 24 19 true (.bin (.eql) (.s 23) (.c (.int .i64 1)))),(zo 25 (.pick (.s 19) (.s 24) (.c (.bool false)))),(zo 26 (.move (.s 25))),(zg 27 26 true (.move (.s 3))),(zg 28 26 true (.idxSl 4 (.s 27) (.c (.int .i64 0)))),(zg 29 26 true (.fldA 3 (.s 28))),(zg 30 26 true (.load 1 false (.s 29))),(zg 31 26 true (.move (.s 0))),(zg 32 26 true (.bin (.eql) (.s 30) (.s 31))),(zo 33 (.pick (.s 26) (.s 32) (.c (.bool false)))),(zo 2 (.move (.s 33)))]) .ret))
def r82:List aR:=[.slot 2]
def k82:List (Nat×Nat×aD×Nat):=[]
theorem e82:aK Tryz.prog 82 g82 [] [] k82=some (c82,r82,34):=by kernel_rfl
theorem q82:aF Tryz.prog k82:=aF.nil
def Ey:Eng.Spec where
 X:=List UInt8
 args:=fun t=>.cons (.str t) .nil
 pre:=fun t=>t.length<=1000000
 res:=fun t=>.bool (dF t)
 inst:=Rg.inst
theorem xN:Ey.Ok Tryz.prog 82:=by
 refine Eng.Spec.okR e82 q82 (fun _=>[(123,.p Rg)]) (fun _ _=>aA.p Rh aA.nil) ?_
 intro (t:List UInt8) (h0:t.length<=1000000)
 refine ⟨trivial,?_⟩
 have gl:aG (decide ((eP t).2.1=0)) (.s 17) (.c (.bool false)) (decide (((eP t).1.length:Int)=1)) false=true->0<=(0:Int)/\(0:Int) < ((eP t).1.length:Int):=fun h=>by
  rw [aJ,Bool.and_eq_true,decide_eq_true_eq,decide_eq_true_eq] at h
  omega
 have gl2:∀ b:Bool,aG (aG (decide ((eP t).2.1=0)) (.s 17) (.c (.bool false)) (decide (((eP t).1.length:Int)=1)) false) (.s 24) (.c (.bool false)) b false=true->0<=(0:Int)/\(0:Int) < ((eP t).1.length:Int):=fun b h=>by
  rw [aJ,Bool.and_eq_true] at h
  exact gl h.1
 have e:aG (aG (aG (decide ((eP t).2.1=0)) (.s 17) (.c (.bool false)) (decide (((eP t).1.length:Int)=1)) false) (.s 24) (.c (.bool false)) (decide (((eP t).1.getD 0 tk0).kind=1)) false) (.s 32) (.c (.bool false)) (decide (((eP t).1.getD 0 tk0).text=t)) false=dF t:=by
  rw [aJ,aJ,aJ]; rfl
 repeat' (first|apply And.intro|exact trivial|exact rfl|exact h0)
 ·exact gl
 ·exact gl2 _
def Ag (n:Nat):Bool:=(decide (97<=n) && decide (n<=122)) || (decide (65<=n) && decide (n<=90))
def Wg (n:Nat):Bool:=decide (48<=n) && decide (n<=57)
def wC (n:Nat):Bool:=Ag n || Wg n || decide (n=95)
theorem Mb {n:Nat} (h:n < 256):decide (cls n=3)=Ag n:=by
 have e:(List.range 256).all (fun n=>decide (cls n=3) == Ag n)=true:=by kernel_rfl
 simpa using List.all_eq_true.1 e n (List.mem_range.2 h)
theorem Ie {n:Nat} (h:n < 256):decide (cls n=3\/cls n=4\/cls n=5)=wC n:=by
 have e:(List.range 256).all (fun n=>decide (cls n=3\/cls n=4\/cls n=5) == wC n)=true:=by kernel_rfl
 simpa using List.all_eq_true.1 e n (List.mem_range.2 h)
def idB (s:List UInt8):Bool:=decide (s.length<=24) && (match s with
 | []=>false
 | b::_=>Ag b.toNat) && s.all fun b=>wC b.toNat
theorem Rj {t:List UInt8}:∀ (m:Nat) (i:Int) (out:List Tk),(lx t m i out).1=[]\/out <+: (lx t m i out).1:=by
 intro m
 induction m with
 | zero=>intro i out; exact .inr (List.prefix_refl _)
 | succ m ih =>
  intro i out
  rw [oV]
  split
  ·split
   ·rcases ih (gap t cls (nxV t cls i).2.1) (out++[(nxV t cls i).1]) with h|h
    ·exact .inl h
    ·exact .inr ((List.prefix_append _ _).trans h)
   ·exact .inl rfl
  ·exact .inr (List.prefix_refl _)
theorem has3 {b:UInt8}:mO cls 3 cs3 b=wC b.toNat:=by
 rw [<- Ie b.toNat_lt]
 unfold mO
 rw [Bool.eq_iff_iff,decide_eq_true_iff,decide_eq_true_iff]
 constructor
 ·rintro ⟨j,hj,h⟩
  match j,hj with
  | 0,_=>left; exact h.symm
  | 1,_=>right; left; exact h.symm
  | 2,_=>right; right; exact h.symm
 ·rintro (h|h|h)
  ·exact ⟨0,by decide,h.symm⟩
  ·exact ⟨1,by decide,h.symm⟩
  ·exact ⟨2,by decide,h.symm⟩
theorem Oo {t:List UInt8} (h:t.all (fun b=>wC b.toNat)=true):whl ⟨t,cls,0,3,cs3⟩=t.length:=by
 unfold whl
 show ((t.drop 0).takeWhile (mO cls 3 cs3)).length=_
 rw [List.drop_zero]
 induction t with
 | nil=>rfl
 | cons b t ih =>
  rw [List.all_cons,Bool.and_eq_true] at h
  rw [List.takeWhile_cons_of_pos (by rw [has3]; exact h.1),List.length_cons,List.length_cons,ih h.2]
theorem Lv {t:List UInt8} (h:whl ⟨t,cls,0,3,cs3⟩=t.length):t.all (fun b=>wC b.toNat)=true:=by
 unfold whl at h
 replace h:((t.drop 0).takeWhile (mO cls 3 cs3)).length=t.length:=h
 rw [List.drop_zero] at h
 have:=(List.takeWhile_prefix (mO cls 3 cs3) (l:=t)).eq_of_length h
 rw [List.all_eq_true]
 intro b hb
 rw [<- this] at hb
 rw [<- has3]
 exact List.all_eq_true.1 (List.all_takeWhile (p:=mO cls 3 cs3) (l:=t)) b hb
theorem Jq (t:List UInt8) (i:Int) (out:List Tk):lx t (t.length+1) i out=if i < (t.length:Int) then
   (if erV (nxV t cls i) out.length=0 then lx t t.length (gap t cls (nxV t cls i).2.1) (out++[(nxV t cls i).1]) else ([],erV (nxV t cls i) out.length,i))
  else (out,0,0):=oV
theorem Nx {t:List UInt8} {f:Nat->Int} {i:Int} (h:(nxV t f i).1.kind=1):atV t f i=3/\nxV t f i=(⟨1,i,0,kO t i (gB t f i)⟩,gB t f i,0)/\gB t f i - i<=24:=by
 unfold nxV at h ⊢
 by_cases hc:atV t f i=3
 ·rw [if_pos hc] at h ⊢
  by_cases hg:gB t f i - i > 24
  ·rw [if_pos hg] at h; exact absurd h (by decide)
  ·rw [if_neg hg]; exact ⟨hc,rfl,by omega⟩
 ·exfalso
  rw [if_neg hc] at h
  by_cases h4:atV t f i=4
  ·rw [if_pos h4] at h
   split at h <;> exact absurd h (by first|decide|(show (2:Int)≠1; decide))
  ·rw [if_neg h4] at h
   by_cases h6:atV t f i=6
   ·rw [if_pos h6] at h
    split at h
    ·exact absurd h (by decide)
    ·split at h
     ·exact absurd h (by decide)
     ·exact absurd h (by show (3:Int)≠1; decide)
   ·rw [if_neg h6] at h
    by_cases h7:atV t f i=7\/atV t f i=8
    ·rw [if_pos h7] at h
     split at h
     ·exact absurd h (by show (4:Int)≠1; decide)
     ·split at h
      ·exact absurd h (by decide)
      ·exact absurd h (by show (4:Int)≠1; decide)
    ·rw [if_neg h7] at h
     split at h
     ·exact absurd h (by show (4:Int)≠1; decide)
     ·exact absurd h (by decide)
theorem Bn {b:UInt8} {s:List UInt8}:decide (atV (b::s) cls 0=3)=Ag b.toNat:=by
 rw [<- Mb b.toNat_lt]
 congr 1
theorem P0 (t:List UInt8):atV t cls (t.length:Int)=0:=by
 unfold atV
 rw [decide_eq_true (Int.le_refl _),cond_true]
theorem Mx (t:List UInt8):gap t cls (t.length:Int)=(t.length:Int):=by
 have w:w1 t cls (t.length:Int)=(t.length:Int):=by
  have:=Bb (f:=cls) (t:=t) (j:=(t.length:Int)) (by omega) (Int.le_refl _)
  omega
 unfold gap
 rw [w]
 show (if atV t cls (t.length:Int)=2 then _ else _)=_
 rw [P0,if_neg (by decide)]
theorem My {b:UInt8} {s:List UInt8} (h:Ag b.toNat=true):gap (b::s) cls 0=0:=by
 have h3:atV (b::s) cls 0=3:=by rw [<- Bn (s:=s)] at h; exact of_decide_eq_true h
 have w:w1 (b::s) cls 0=0:=by
  unfold w1 whl
  show (0:Int)+((((b::s).drop 0).takeWhile (mO cls 1 fun _=>1)).length:Nat)=0
  have:mO cls 1 (fun _=>1) b=false:=by
   unfold mO
   rw [decide_eq_false_iff_not]
   rintro ⟨_,_,h⟩
   have:cls b.toNat=3:=h3
   have h':(1:Int)=cls b.toNat:=h
   omega
  rw [List.drop_zero,List.takeWhile_cons_of_neg (by rw [this]; decide)]
  rfl
 unfold gap
 rw [w]
 show (if atV (b::s) cls 0=2 then _ else _)=_
 rw [h3,if_neg (by decide)]
theorem M1 {s:List UInt8} (h:idB s=true):eP s=([⟨1,0,0,s⟩],0,0):=by
 unfold idB at h
 simp only [Bool.and_eq_true,decide_eq_true_eq] at h
 obtain ⟨⟨h1,h2⟩,h3⟩:=h
 cases s with
 | nil=>exact absurd h2 (by decide)
 | cons b s =>
  have hl:Ag b.toNat=true:=h2
  have h3':atV (b::s) cls 0=3:=by rw [<- Bn (s:=s)] at hl; exact of_decide_eq_true hl
  have hw:gB (b::s) cls 0=((b::s).length:Int):=by unfold gB; rw [Oo h3]; omega
  have hn:nxV (b::s) cls 0=(⟨1,0,0,b::s⟩,((b::s).length:Int),0):=by
   unfold nxV
   rw [if_pos h3',hw,if_neg (by omega)]
   unfold kO
   simp
  unfold eP
  rw [if_neg (by omega),My hl,Jq,if_pos (by show (0:Int) < ((s.length+1:Nat):Int); omega),hn]
  have e0:erV (((⟨1,0,0,b::s⟩,((b::s).length:Int),0):NR)) ([]:List Tk).length=0:=by
   unfold erV
   rw [if_neg (by simp)]
  rw [if_pos e0]
  show lx (b::s) (s.length+1) (gap (b::s) cls ((b::s).length:Int)) [⟨1,0,0,b::s⟩]=_
  rw [Mx,oV,if_neg (by omega)]
theorem Nh (s:List UInt8):dF s=idB s:=by
 rw [Bool.eq_iff_iff]
 constructor
 ·intro h
  unfold dF at h
  simp only [Bool.and_eq_true,decide_eq_true_eq] at h
  obtain ⟨⟨⟨h1,h2⟩,h3⟩,h4⟩:=h
  unfold eP at h1 h2 h3 h4
  by_cases hl:20000 < s.length
  ·rw [if_pos hl] at h1; exact absurd h1 (by decide)
  ·rw [if_neg hl,Jq] at h1 h2 h3 h4
   by_cases hg:gap s cls 0 < (s.length:Int)
   ·rw [if_pos hg] at h1 h2 h3 h4
    by_cases he:erV (nxV s cls (gap s cls 0)) ([]:List Tk).length=0
    ·rw [if_pos he] at h1 h2 h3 h4
     have hp:=Rj (t:=s) s.length (gap s cls (nxV s cls (gap s cls 0)).2.1) ([]++[(nxV s cls (gap s cls 0)).1])
     generalize (lx s s.length (gap s cls (nxV s cls (gap s cls 0)).2.1) ([]++[(nxV s cls (gap s cls 0)).1])).1=l at hp h2 h3 h4
     rcases hp with hp|⟨r,hp⟩
     ·rw [hp] at h2; exact absurd h2 (by decide)
     ·rw [<- hp] at h3 h4
      have h3:(nxV s cls (gap s cls 0)).1.kind=1:=h3
      have h4:(nxV s cls (gap s cls 0)).1.text=s:=h4
      obtain ⟨k1,k2,k3⟩:=Nx h3
      have hb:=Ca (t:=s) (f:=cls) (by decide) (j:=0) (by decide) (by omega)
      have w0:whl ⟨s,cls,gap s cls 0,3,cs3⟩<=s.length - (gap s cls 0).toNat:=nX
      have w2:gap s cls 0<=gB s cls (gap s cls 0):=by unfold gB; omega
      have w3:gB s cls (gap s cls 0)<=(s.length:Int):=by unfold gB; omega
      rw [k2] at h4
      have h5:(kO s (gap s cls 0) (gB s cls (gap s cls 0))).length=s.length:=congrArg List.length h4
      unfold kO at h5
      rw [List.length_take,List.length_drop] at h5
      have g0:gap s cls 0=0:=by omega
      rw [g0] at k1 k3 w3 h5
      have w4:gB s cls 0=(s.length:Int):=by rw [g0] at w2; omega
      have hw:whl ⟨s,cls,0,3,cs3⟩=s.length:=by unfold gB at w4; omega
      have hall:=Lv hw
      unfold idB
      simp only [Bool.and_eq_true,decide_eq_true_eq]
      refine ⟨⟨by omega,?_⟩,hall⟩
      cases s with
      | nil=>exact absurd k1 (by decide)
      | cons b s =>
       show Ag b.toNat=true
       rw [<- Bn (s:=s)]
       exact decide_eq_true k1
    ·rw [if_neg he] at h2; exact absurd h2 (by show ¬ ((0:Nat):Int)=1; decide)
   ·rw [if_neg hg] at h2; exact absurd h2 (by decide)
 ·intro h
  unfold dF
  rw [M1 h]
  simp
end L10
end
