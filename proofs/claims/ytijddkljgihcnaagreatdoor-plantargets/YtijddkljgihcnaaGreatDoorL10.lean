/- A part of the proof. -/
import Derived.Test.YtijddkljgihcnaaGreatDoorL5
import Derived.Test.YtijddkljgihcnaaGreatDoorV2
import Derived.Test.YtijddkljgihcnaaGreatDoorV3
section
namespace Go.Eng
open Go Go.RowKit
noncomputable def N8 (T:Tb) (l:List bK):List Nat->St->(St->Prop)->Prop :=
 @List.rec bK (fun _=>List Nat->St->(St->Prop)->Prop) (fun _ st k=>k st)
  (fun o _ ih lab st k =>
   match o.guard with
   | none=>evO T st o.op fun s st'=>xG o.dst lab s st' fun st''=>ih lab st'' k
   | some (d0,w) =>
    bif yV T (some (d0,w)) st o.op then
     bif Cd (d0::lab) o.dst then False else
     gD st.fr 10 d0 w (evE T (some (d0,w)) st (fun s st'=>stF st' fun st'=>xG o.dst (d0::lab) s st' fun st''=>ih (d0::lab) st'' k) o.op)
      (xG o.dst (d0::lab) (.tup .nil) st fun st''=>ih (d0::lab) st'' k)
    else
    match o.dst with
    | none=>False
    | some d=>bif bV (d0::lab) d then False else
     match evP T.fs (some (d0,w)) st o.op with
     | .fail=>(bD st.fr 10 d0 w->False)/\stP st fun fr hp nx=>ih (d0::lab) ⟨(d,.gd d0 w .junk)::fr,hp,nx⟩ k
     | .ok v=>bF v fun v=>stP st fun fr hp nx=>ih (d0::lab) ⟨(d,.gd d0 w v)::fr,hp,nx⟩ k
     | .side p v=>(bD st.fr 10 d0 w->p)/\bF v fun v=>stP st fun fr hp nx=>ih (d0::lab) ⟨(d,.gd d0 w v)::fr,hp,nx⟩ k) l
theorem H5 (T:Tb):∀ l,N8 T l=lX T l:=by
 intro l
 induction l with
 | nil=>funext lab st k; simp only [lX]; rfl
 | cons o r ih =>
  funext lab st k
  rw [lX]
  rw [<- ih]
  rfl
noncomputable def Ua (T:Tb) (t:cD):List (Nat×SV)->List (Nat×aG)->Nat->(St->Prop)->Prop :=
 @cD.rec (fun _=>List (Nat×SV)->List (Nat×aG)->Nat->(St->Prop)->Prop) (fun fr hp nx k=>k ⟨fr,hp,nx⟩) (fun _ _ _ _=>True)
  (fun _ o _ ih fr hp nx k=>match o.dst with
   | none=>False
   | some d=>match o.guard with
    | none=>match evP T.fs none ⟨fr,hp,nx⟩ o.op with
     | .fail=>False
     | .ok v=>dR v fun v=>ih ((d,v)::fr) hp nx k
     | .side p v=>p/\dR v fun v=>ih ((d,v)::fr) hp nx k
    | some (d0,w)=>match evP T.fs (some (d0,w)) ⟨fr,hp,nx⟩ o.op with
     | .fail=>(bD fr 10 d0 w->False)/\ih ((d,.gd d0 w .junk)::fr) hp nx k
     | .ok v=>bF v fun v=>ih ((d,.gd d0 w v)::fr) hp nx k
     | .side p v=>(bD fr 10 d0 w->p)/\bF v fun v=>ih ((d,.gd d0 w v)::fr) hp nx k)
  (fun _ o stab _ _ ih1 ih2 fr hp nx k =>
   (match o.guard with
    | none=>evE T none ⟨fr,hp,nx⟩ (fun s st'=>stK st' fun hp' nx'=>lK T.fs fr hp nx hp' nx' stab/\qB o.dst s fr fun fr'=>ih1 fr' hp' nx' k) o.op
    | some (d0,w)=>gD fr 10 d0 w (evE T (some (d0,w)) ⟨fr,hp,nx⟩ (fun s st'=>stK st' fun hp' nx'=>lK T.fs fr hp nx hp' nx' stab/\qB o.dst s fr fun fr'=>ih1 fr' hp' nx' k) o.op)
      (qB o.dst (.tup .nil) fr fun fr'=>ih1 fr' hp nx k)) /\
   ih2 fr hp nx k) t
theorem Ma (T:Tb):∀ t,Ua T t=evD T t:=by
 intro t
 induction t with
 | done=>funext fr hp nx k; simp only [evD]; rfl
 | none=>funext fr hp nx k; simp only [evD]; rfl
 | pure i o r ih=>funext fr hp nx k; rw [evD,<- ih]; rfl
 | eff i o s a b ih1 ih2=>funext fr hp nx k; rw [evD,<- ih1,<- ih2]; rfl
noncomputable def T9 (c:aH):Tb->St->(mG->St->Prop)->Prop :=
 @aH.rec (fun _=>Tb->St->(mG->St->Prop)->Prop)
  (fun _ st k=>k .normal st)
  (fun keep ops T st k=>N8 T ops [] st fun st'=>match st' with
   | ⟨fr0,hp,nx⟩=>iQ fr0 keep fun fr=>k .normal ⟨fr,hp,nx⟩)
  (fun keep t T st k=>match st with
   | ⟨fr,hp,nx⟩=>Ua T t fr hp nx fun st'=>match st' with
    | ⟨fr0,hp,nx⟩=>iQ fr0 keep fun fr=>k .normal ⟨fr,hp,nx⟩)
  (fun _ _ iha ihb T st k=>iha T st fun e st' =>
   match e with
   | .normal=>ihb T st' k
   | .exit id=>k (.exit id) st'
   | .ret=>k .ret st')
  (fun c _ _ iha ihb T st k =>
   match c with
   | .c (.bool true)=>iha T st k
   | .c (.bool false)=>ihb T st k
   | .c _=>False
   | .s n=>match look st.fr n with
    | .bool p=>(p=true->iha T st k)/\(p=false->ihb T st k)
    | _=>False)
  (fun id _ iha T st k=>iha T st fun e st' =>
   match e with
   | .normal=>k .normal st'
   | .exit j=>bif Nat.beq j id then k .normal st' else k (.exit j) st'
   | .ret=>k .ret st')
  (fun _ asg _ iha T st k =>
   ∃ V:Inv,∃ x:V.X,V.I x/\fJ T.bnd asg st (V.fr x) (V.hp x) (fun h=>oM T.np T.bnd st h) /\
    ∀ x,V.I x->fJ T.bnd asg st (V.fr x) (V.hp x) fun h=>stF h fun h=>iha T h fun e st' =>
     match e with
     | .normal=>∃ x',V.I x'/\fJ T.bnd asg st (V.fr x') (V.hp x') (fun h'=>oM T.np T.bnd st' h')/\V.meas x' < V.meas x
     | .exit id=>k (.exit id) st'
     | .ret=>k .ret st')
  (fun id _ st k=>k (.exit id) st)
  (fun _ st k=>k .ret st)
  (fun _ asg _ iha T st k =>
   ∃ V:Inv,(iha T st fun e st' =>
    match e with
    | .normal=>∃ x,V.I x/\fJ T.bnd asg st (V.fr x) (V.hp x) (fun h=>oM T.np T.bnd st' h)
    | .exit id=>k (.exit id) st'
    | .ret=>k .ret st') /\
   ∀ x,V.I x->fJ T.bnd asg st (V.fr x) (V.hp x) fun h=>stF h fun h=>k .normal h)
  (fun _ f gid _ gn ps _ _ ihg iha ihb T st k =>
   match gx none st.fr f with
   | .fn kf caps=>bif Nat.beq kf gid && Nat.blt kf FM then bif Nat.blt st.nx FB then
     match st with
     | ⟨fr,hp,nx⟩=>iW (.cons (.yield nx) caps) gn /\
      ihg
       ⟨T.fs,(T.dep,fun id np bnd dep args hp' nx' K =>
        match get? hp' id with
        | some (.hid l 0)=>bif Nat.beq l T.dep then
          tG ps args fr fun fr1=>iha ⟨T.fs,T.ys,np,bnd,dep⟩ ⟨fr1,hp',nx'⟩ fun e st1 =>
           match e with
           | .normal=>match st1 with
            | ⟨fr2,hp2,nx2⟩=>match get? hp2 id with
             | some (.hid l 0)=>bif Nat.beq l T.dep then
               pX hp2 id (.hid T.dep 1) fun hp3=>ihb ⟨T.fs,T.ys,np,bnd,dep⟩ ⟨fr2,hp3,nx2⟩ fun e st2 =>
                match st2 with
                | ⟨_,hp4,nx4⟩=>match get? hp4 id with
                 | some (.hid l 1)=>bif Nat.beq l T.dep then pX hp4 id (.hid T.dep (Cq e)) fun hp5=>K (pJ e) hp5 nx4 else False
                 | _=>False
              else False
             | _=>False
           | _=>False
         else False
        | _=>False)::T.ys,fO hp,nx+1,T.dep+1⟩
       ⟨iI (.cons (.yield nx) caps) 0,(nx,.hid T.dep 0)::hp,nx+1⟩ fun e st' =>
        match e with
        | .exit _=>False
        | _=>match st' with
         | ⟨_,hp',nx'⟩=>bif jI T.dep (drop? hp' nx) then
          match get? hp' nx with
          | some (.hid l pd)=>bif Nat.beq l T.dep then
            match pd with
            | 0=>k .normal ⟨fr,drop? hp' nx,nx'⟩
            | 1=>False
            | 2=>k .ret ⟨fr,drop? hp' nx,nx'⟩
            | n+3=>k (.exit n) ⟨fr,drop? hp' nx,nx'⟩
           else False
          | _=>False
         else False
    else False else False
   | _=>False) c
theorem L7:∀ c,T9 c=evC c:=by
 intro c
 induction c with
 | skip=>funext T st k; simp only [evC]; rfl
 | region keep ops=>funext T st k; rw [evC,<- H5]; rfl
 | drawn keep t=>funext T st k; rw [evC,<- Ma]; rfl
 | seq a b iha ihb=>funext T st k; rw [evC,<- iha,<- ihb]; rfl
 | cond c a b iha ihb=>funext T st k; rw [evC.eq_def]; simp only []; rw [<- iha,<- ihb]; rfl
 | block id a iha=>funext T st k; rw [evC,<- iha]; rfl
 | loop i asg a iha=>funext T st k; rw [evC,<- iha]; rfl
 | exit id=>funext T st k; simp only [evC]; rfl
 | ret=>funext T st k; simp only [evC]; rfl
 | join i asg a iha=>funext T st k; rw [evC,<- iha]; rfl
 | range i f gid g gn ps a b ihg iha ihb=>funext T st k; rw [evC,<- ihg,<- iha,<- ihb]; rfl
noncomputable def vU (np:List Nat) (tab:List (Nat×cL)) (sc:aH) (res:List fY) (args:SV) (hp:List (Nat×aG)) (nx:Nat) (K:SV->St->Prop):Prop :=
 T9 sc ⟨tab,[],np,0,0⟩ ⟨iI args 0,hp,nx⟩ fun e st =>
  match e with
  | .exit _=>False
  | _=>Bm st res fun l=>K (rX l) st
noncomputable def Ub (tab:List (Nat×cL)) (sc:aH) (res:List fY) (fresh:Bool) (args want:SV):Prop :=
 vU [] tab sc res args [] 0 fun sv st=>sub (match fresh with|true=>.strict|false=>.free) st.hp 200 sv want
theorem uO {np:List Nat} {tab:List (Nat×cL)} {sc:aH} {res:List fY} {args:SV} {hp:List (Nat×aG)} {nx:Nat} {K:SV->St->Prop} (h:vU np tab sc res args hp nx K):Dx np tab sc res args hp nx K:=by
 unfold vU at h
 rw [L7] at h
 exact h
def tD:Nat->SV->Bool
 | 0,_=>false
 | _+1,.int ..=>true
 | _+1,.bool ..=>true
 | _+1,.str ..=>true
 | _+1,.nil=>true
 | n+1,.cons h t=>tD n h && tD n t
 | _+1,_=>false
theorem Ko (k:Keep) (hp:List (Nat×aG)):∀ (n:Nat) (s:SV),tD n s=true->sub k hp n s s:=by
 intro n
 induction n with
 | zero=>intro s h; cases h
 | succ n ih =>
  intro s h
  cases s with
  | cons a b =>
   simp only [tD,Bool.and_eq_true] at h
   exact ⟨ih a h.1,ih b h.2⟩
  | int=>exact ⟨rfl,rfl⟩
  | bool=>rfl
  | str=>rfl
  | nil=>trivial
  | _=>cases h
theorem lz {k:Keep} {hp:List (Nat×aG)} {m n:Nat} {f:Nat->SV} (h:∀ j,tD m (f j)=true):∀ j,j < n->oQ k (sub k hp m) (f j) (f j):=fun j _=>Or.inl (Ko k hp m _ (h j))
theorem Spec.okR {P:Program} {f:Nat} {S:Spec} {G joins hint:List Nat} {rg:List (Nat×Nat×aH×Nat)} {sc:aH} {res:List fY} {n:Nat} (hc:aI P f G joins hint rg=some (sc,res,n)) (hrg:eZ P rg)
  (tab:S.X->List (Nat×cL)) (htab:∀ x,S.pre x->aA P (tab x))
  (h:∀ x,S.pre x->iW (S.args x) n/\Ub (tab x) sc res S.fresh (S.args x) (S.res x)):S.Ok P f :=
 Spec.cY hc hrg tab htab fun x hx=>⟨(h x hx).1,uO (h x hx).2⟩
theorem bZ.okR {P:Program} {f:Nat} {S:bZ} {G joins hint:List Nat} {rg:List (Nat×Nat×aH×Nat)} {sc:aH} {res:List fY} {n:Nat} (hc:aI P f G joins hint rg=some (sc,res,n)) (hrg:eZ P rg)
  (tab:S.X->List (Nat×cL)) (htab:∀ x,S.pre x->aA P (tab x))
  (h:∀ x,S.pre x->iW (S.args x) n/\vU (upto S.nx0) (tab x) sc res (S.args x) (S.h0 x) S.nx0 fun sv st=>∃ y,S.post x y/\Db (upto S.nx0) S.fresh sv st (S.res x y) (S.h1 x y) S.nx1):S.Ok P f :=
 bZ.cY hc hrg tab htab fun x hx=>⟨(h x hx).1,uO (h x hx).2⟩
end Go.Eng
end
section
open Go Go.Eng Go.Proofs L1 L2 L3 L4 L6
set_option maxRecDepth 100000
namespace L8
structure Tk where
 kind:Int
 off:Int
 n:Int
 text:List UInt8
def tkL (t:Tk):SV:=.cons (.int .i64 t.kind) (.cons (.int .i64 t.off) (.cons (.int .i64 t.n) (.cons (.str t.text) .nil)))
abbrev NR:=Tk×Int×Int
def tk0:Tk:=⟨0,0,0,[]⟩
def sl3:SV:=.cons (.cons (.int .i64 3) .nil) (.cons (.cons (.int .i64 4) .nil) (.cons (.cons (.int .i64 5) .nil) .nil))
def sl1:SV:=.cons (.cons (.int .i64 4) .nil) .nil
def cs3:Nat->Int:=((sP (.slit 1 sl3)).getD (0,fun _=>0)).2
def cs1:Nat->Int:=((sP (.slit 1 sl1)).getD (0,fun _=>0)).2
def mD (t:List UInt8) (f:Nat->Int) (i:Int):Int:=i+(whl ⟨t,f,i,3,cs3⟩:Nat)
def fZ (t:List UInt8) (f:Nat->Int) (i:Int):Int:=i+(whl ⟨t,f,i,1,cs1⟩:Nat)
def mZ (t:List UInt8) (i j:Int):List UInt8:=(t.drop i.toNat).take (j.toNat - i.toNat)
def qAt (t:List UInt8) (i:Int):Int:=Lib.indexAny (t.drop (i+1).toNat) [34,10]
def nxV (t:List UInt8) (f:Nat->Int) (i:Int):NR :=
 if atV t f i=3 then
  (if mD t f i - i > 24 then (tk0,0,2) else (⟨1,i,0,mZ t i (mD t f i)⟩,mD t f i,0))
 else if atV t f i=4 then
  (if ((decide (fZ t f i - i > 13) || decide (atV t f (fZ t f i)=3)) || decide (atV t f (fZ t f i)=5))=true then (tk0,0,4) else (⟨2,i,uJ (mZ t i (fZ t f i)),mZ t i (fZ t f i)⟩,fZ t f i,0))
 else if atV t f i=6 then
  (if (decide (qAt t i < 0) || decide ((((t.drop (i+1).toNat).getD (qAt t i).toNat 0).toNat:Int)=10))=true then (tk0,0,6)
   else if qAt t i > 400 then (tk0,0,2) else (⟨3,i,0,(t.drop (i+1).toNat).take (qAt t i).toNat⟩,i+qAt t i+2,0))
 else if atV t f i=7\/atV t f i=8 then
  (if Lib.hasPrefix (t.drop (i+1).toNat) [61]=true then (⟨4,i,0,mZ t i (i+2)⟩,i+2,0)
   else if atV t f i=7 then (tk0,0,3) else (⟨4,i,0,mZ t i (i+1)⟩,i+1,0))
 else if atV t f i=9 then (⟨4,i,0,mZ t i (i+1)⟩,i+1,0)
 else (tk0,0,3)
def g93:List Nat:=[19,21,23,25,18,28,37,8,10,67,11,9,107,110,13,14,128,7,142,0,1,4,5,6]
def c93:aH :=
 .seq (.region g93 [(zo 4 (.alloc 113 (.cons (.int .i64 0) (.cons (.int .i64 0) (.cons (.int .i64 0) (.cons (.str []) .nil)))))),(zo 5 (.move (cj 0))),(zo 6 (.move (cj 0)))]) (.seq (.seq (.region g93 [(mv 15 0),(mv 16 1),(zo 17 (.call (.c (.fn 129)) [.s 15,.s 16])),(mv 7 17)]) (.seq (.region g93 [(mv 18 7)]) (.block 0 (.seq (.block 5 (.seq (.block 4 (.seq (.block 3 (.seq (.block 2 (.seq (.block 1 (.seq (.seq (.seq (.region g93 [(zo 20 (.bin (.eql) (.s 18) (cj 3))),(mv 19 20)]) (.cond (.s 19) (.exit 1) .skip)) (.seq (.seq (.region g93 [(zo 22 (.bin (.eql) (.s 18) (cj 4))),(mv 21 22)]) (.cond (.s 21) (.exit 2) .skip)) (.seq (.seq (.region g93 [(zo 24 (.bin (.eql) (.s 18) (cj 6))),(mv 23 24)]) (.cond (.s 23) (.exit 3) .skip)) (.seq (.seq (.seq (.region g93 [(zo 26 (.bin (.eql) (.s 18) (cj 7))),(mv 25 26)]) (.cond (.s 25) .skip (.region g93 [(zo 27 (.bin (.eql) (.s 18) (cj 8))),(mv 25 27)]))) (.cond (.s 25) (.exit 4) .skip)) (.seq (.region g93 [(zo 29 (.bin (.eql) (.s 18) (cj 9))),(mv 28 29)]) (.cond (.s 28) (.exit 5) .skip)))))) (.exit 0))) (.seq (.seq (.region g93 [(mv 30 0),(mv 31 1),(zo 32 (.buildSl 3 1 3 (.cons (.int .i64 0) .nil) [(0,1,cj 3),(1,1,cj 4),(2,1,cj 5)])),(zo 33 (.call (.c (.fn 128)) [.s 30,.s 31,.s 32])),(mv 8 33)]) (.seq (.seq (.region g93 [(mv 34 8),(mv 35 1),(zo 36 (.bin (.sub) (.s 34) (.s 35))),(zo 37 (.bin (.gtr) (.s 36) (cj 24)))]) (.cond (.s 37) (.seq (.region g93 [(zo 38 (.build (.cons (.int .i64 0) (.cons (.int .i64 0) (.cons (.int .i64 0) (.cons (.str []) .nil)))) [])),⟨none,none,.store 4 (.s 4) (.s 38),[]⟩,(zo 5 (.move (cj 0))),(zo 6 (.move (cj 2)))]) .ret) .skip)) (.seq (.region g93 [(mv 39 1),(mv 40 0),(zo 41 (.nilCheck (.s 40))),(fa 42 0 41),(ld 43 42),(mv 44 1),(mv 45 8),(zo 46 (.sliceStr (.s 43) (some (.s 44)) (some (.s 45)))),(zo 47 (.build (.cons (.int .i64 0) (.cons (.int .i64 0) (.cons (.int .i64 0) (.cons (.str []) .nil)))) [(0,1,cj 1),(1,1,.s 39),(3,1,.s 46)])),(mv 48 8),⟨none,none,.store 4 (.s 4) (.s 47),[]⟩,(mv 5 48),(zo 6 (.move (cj 0)))]) .ret))) (.exit 0)))) (.seq (.seq (.region g93 [(mv 49 0),(mv 50 1),(zo 51 (.buildSl 3 1 1 (.cons (.int .i64 0) .nil) [(0,1,cj 4)])),(zo 52 (.call (.c (.fn 128)) [.s 49,.s 50,.s 51])),(mv 9 52)]) (.seq (.seq (.region g93 [(mv 53 0),(mv 54 9),(zo 55 (.call (.c (.fn 129)) [.s 53,.s 54])),(mv 10 55)]) (.seq (.region g93 [(mv 56 9),(mv 57 1),(zo 58 (.bin (.sub) (.s 56) (.s 57))),(zo 59 (.bin (.gtr) (.s 58) (cj 13))),(mv 60 59),(mg 61 60 false 10),(zg 62 60 false (.bin (.eql) (.s 61) (cj 3))),(zo 63 (.pick (.s 60) cT (.s 62))),(mv 64 63),(mg 65 64 false 10),(zg 66 64 false (.bin (.eql) (.s 65) (cj 5))),(zo 67 (.pick (.s 64) cT (.s 66)))]) (.cond (.s 67) (.seq (.region g93 [(zo 68 (.build (.cons (.int .i64 0) (.cons (.int .i64 0) (.cons (.int .i64 0) (.cons (.str []) .nil)))) [])),⟨none,none,.store 4 (.s 4) (.s 68),[]⟩,(zo 5 (.move (cj 0))),(zo 6 (.move (cj 4)))]) .ret) .skip))) (.seq (.region g93 [(mv 70 0),(zo 71 (.nilCheck (.s 70))),(fa 72 0 71),(ld 73 72),(mv 74 1),(mv 75 9),(zo 76 (.sliceStr (.s 73) (some (.s 74)) (some (.s 75)))),(zo 77 (.call (.c (.fn 131)) [.s 76])),(mv 69 77),(zo 78 (.extract 0 (.s 69))),(zo 79 (.extract 1 (.s 69))),(mv 11 78),(mv 12 79)]) (.seq (.region g93 [(mv 80 1),(mv 81 11),(mv 82 0),(zo 83 (.nilCheck (.s 82))),(fa 84 0 83),(ld 85 84),(mv 86 1),(mv 87 9),(zo 88 (.sliceStr (.s 85) (some (.s 86)) (some (.s 87)))),(zo 89 (.build (.cons (.int .i64 0) (.cons (.int .i64 0) (.cons (.int .i64 0) (.cons (.str []) .nil)))) [(0,1,cj 2),(1,1,.s 80),(2,1,.s 81),(3,1,.s 88)])),(mv 90 9),⟨none,none,.store 4 (.s 4) (.s 89),[]⟩,(mv 5 90),(zo 6 (.move (cj 0)))]) .ret)))) (.exit 0)))) (.seq (.seq (.region g93 [(mv 91 0),(zo 92 (.nilCheck (.s 91))),(fa 93 0 92),(ld 94 93),(mv 95 1),(zo 96 (.bin (.add) (.s 95) (cj 1))),(zo 97 (.sliceStr (.s 94) (some (.s 96)) none)),(mv 13 97)]) (.seq (.region g93 [(mv 98 13),(zo 99 (.call (.c (.fn 132)) [.s 98,.c (.str [34,10])])),(mv 14 99)]) (.seq (.seq (.region g93 [(mv 100 14),(zo 101 (.bin (.lss) (.s 100) (cj 0))),(mv 102 101),(mg 103 102 false 13),(mg 104 102 false 14),(zg 105 102 false (.idxStr (.s 103) (.s 104))),(zg 106 102 false (.bin (.eql) (.s 105) (.c (.int (.u8) 10)))),(zo 107 (.pick (.s 102) cT (.s 106)))]) (.cond (.s 107) (.seq (.region g93 [(zo 108 (.build (.cons (.int .i64 0) (.cons (.int .i64 0) (.cons (.int .i64 0) (.cons (.str []) .nil)))) [])),⟨none,none,.store 4 (.s 4) (.s 108),[]⟩,(zo 5 (.move (cj 0))),(zo 6 (.move (cj 6)))]) .ret) .skip)) (.seq (.seq (.region g93 [(mv 109 14),(zo 110 (.bin (.gtr) (.s 109) (cj 400)))]) (.cond (.s 110) (.seq (.region g93 [(zo 111 (.build (.cons (.int .i64 0) (.cons (.int .i64 0) (.cons (.int .i64 0) (.cons (.str []) .nil)))) [])),⟨none,none,.store 4 (.s 4) (.s 111),[]⟩,(zo 5 (.move (cj 0))),(zo 6 (.move (cj 2)))]) .ret) .skip)) (.seq (.region g93 [(mv 112 1),(mv 113 13),(mv 114 14),(zo 115 (.sliceStr (.s 113) none (some (.s 114)))),(zo 116 (.build (.cons (.int .i64 0) (.cons (.int .i64 0) (.cons (.int .i64 0) (.cons (.str []) .nil)))) [(0,1,cj 3),(1,1,.s 112),(3,1,.s 115)])),(mv 117 1),(mv 118 14),(zo 119 (.bin (.add) (.s 117) (.s 118))),(zo 120 (.bin (.add) (.s 119) (cj 2))),⟨none,none,.store 4 (.s 4) (.s 116),[]⟩,(mv 5 120),(zo 6 (.move (cj 0)))]) .ret))))) (.exit 0)))) (.seq (.seq (.region g93 [(mv 121 0),(zo 122 (.nilCheck (.s 121))),(fa 123 0 122),(ld 124 123),(mv 125 1),(zo 126 (.bin (.add) (.s 125) (cj 1))),(zo 127 (.sliceStr (.s 124) (some (.s 126)) none)),(zo 128 (.call (.c (.fn 133)) [.s 127,.c (.str [61])]))]) (.cond (.s 128) (.seq (.region g93 [(mv 129 1),(mv 130 0),(zo 131 (.nilCheck (.s 130))),(fa 132 0 131),(ld 133 132),(mv 134 1),(mv 135 1),(zo 136 (.bin (.add) (.s 135) (cj 2))),(zo 137 (.sliceStr (.s 133) (some (.s 134)) (some (.s 136)))),(zo 138 (.build (.cons (.int .i64 0) (.cons (.int .i64 0) (.cons (.int .i64 0) (.cons (.str []) .nil)))) [(0,1,cj 4),(1,1,.s 129),(3,1,.s 137)])),(mv 139 1),(zo 140 (.bin (.add) (.s 139) (cj 2))),⟨none,none,.store 4 (.s 4) (.s 138),[]⟩,(mv 5 140),(zo 6 (.move (cj 0)))]) .ret) .skip)) (.seq (.region g93 [(mv 141 7),(zo 142 (.bin (.eql) (.s 141) (cj 7)))]) (.cond (.s 142) (.seq (.region g93 [(zo 143 (.build (.cons (.int .i64 0) (.cons (.int .i64 0) (.cons (.int .i64 0) (.cons (.str []) .nil)))) [])),⟨none,none,.store 4 (.s 4) (.s 143),[]⟩,(zo 5 (.move (cj 0))),(zo 6 (.move (cj 3)))]) .ret) .skip))))) (.seq (.seq (.region g93 [(mv 144 1),(mv 145 0),(zo 146 (.nilCheck (.s 145))),(fa 147 0 146),(ld 148 147),(mv 149 1),(mv 150 1),(zo 151 (.bin (.add) (.s 150) (cj 1))),(zo 152 (.sliceStr (.s 148) (some (.s 149)) (some (.s 151)))),(zo 153 (.build (.cons (.int .i64 0) (.cons (.int .i64 0) (.cons (.int .i64 0) (.cons (.str []) .nil)))) [(0,1,cj 4),(1,1,.s 144),(3,1,.s 152)])),(mv 154 1),(zo 155 (.bin (.add) (.s 154) (cj 1))),⟨none,none,.store 4 (.s 4) (.s 153),[]⟩,(mv 5 155),(zo 6 (.move (cj 0)))]) .ret) (.exit 0)))))) (.seq (.region g93 [(zo 156 (.build (.cons (.int .i64 0) (.cons (.int .i64 0) (.cons (.int .i64 0) (.cons (.str []) .nil)))) [])),⟨none,none,.store 4 (.s 4) (.s 156),[]⟩,(zo 5 (.move (cj 0))),(zo 6 (.move (cj 3)))]) .ret))
theorem e93:aI Tryz.prog 93 g93 [] [] []=some (c93,[.cell 4 4 true,.slot 5,.slot 6],157):=by kernel_rfl
def Ow:Eng.Spec where
 X:=AtX
 args:=atS.args
 pre:=fun x=>0<=x.2.2/\x.2.2 < (x.1.length:Int)/\x.1.length<=1000000
 res:=fun x=>.tup (.cons (.agg (tkL (nxV x.1 x.2.1 x.2.2).1)) (.cons (.int .i64 (nxV x.1 x.2.1 x.2.2).2.1) (.cons (.int .i64 (nxV x.1 x.2.1 x.2.2).2.2) .nil)))
 inst:=atS.inst
theorem eqs {r:NR} {a b c:Int} {s:List UInt8} {d e:Int} (h:r=(⟨a,b,c,s⟩,d,e)):a=r.1.kind/\b=r.1.off/\c=r.1.n/\s=r.1.text/\d=r.2.1/\e=r.2.2:=by subst h; exact ⟨rfl,rfl,rfl,rfl,rfl,rfl⟩
theorem Pf (cs:List UInt8):∀ l:List UInt8,Lib.indexAny l cs < (l.length:Int)\/Lib.indexAny l cs=-1:=by
 intro l
 induction l with
 | nil=>exact .inr rfl
 | cons b l ih =>
  simp only [Lib.indexAny]
  split
  ·left; simp only [List.length_cons]; omega
  ·split
   ·exact .inr rfl
   ·rename_i h
    left
    simp only [List.length_cons]
    rcases ih with ih|ih
    ·omega
    ·exact absurd (by simp [ih]) h
theorem qbd {t:List UInt8} {i:Int} (h:¬ qAt t i < 0):0<=qAt t i/\qAt t i < ((t.drop (i+1).toNat).length:Int):=by
 have:=Pf [34,10] (t.drop (i+1).toNat)
 unfold qAt at h ⊢
 omega
theorem xA {l:List UInt8} (h:Lib.hasPrefix l [61]=true):1<=l.length:=by
 cases l with
 | nil=>exact absurd h (by decide)
 | cons=>simp
theorem My:Ow.Ok Tryz.prog 93:=by
 refine Eng.Spec.okR e93 .nil (fun _=>[(128,.p Tn),(129,.p atS),(131,.p gW),(132,.p gU),(133,.p gZ)]) (fun _ _=>aA.p K6 (aA.p Hb (aA.p V2.atoi (aA.p V3.indexAny (aA.p L5.hasPrefix aA.nil))))) ?_
 rintro ⟨t,f,i⟩ ⟨(h0:0<=i),(h1:i < (t.length:Int)),(h2:t.length<=1000000)⟩
 refine ⟨trivial,?_⟩
 have w0:whl ⟨t,f,i,3,cs3⟩<=t.length - i.toNat:=qG
 have d0:whl ⟨t,f,i,1,cs1⟩<=t.length - i.toNat:=qG
 have w1:i<=mD t f i:=by unfold mD; omega
 have w2:mD t f i<=(t.length:Int):=by unfold mD; omega
 have w3:-9223372036854775808<=mD t f i - i:=by omega
 have w4:mD t f i - i<=9223372036854775807:=by omega
 have d1:i<=fZ t f i:=by unfold fZ; omega
 have d2:fZ t f i<=(t.length:Int):=by unfold fZ; omega
 have d3:-9223372036854775808<=fZ t f i - i:=by omega
 have d4:fZ t f i - i<=9223372036854775807:=by omega
 have d5:0<=fZ t f i:=by omega
 have p1:-9223372036854775808<=i+1:=by omega
 have p2:i+1<=9223372036854775807:=by omega
 have p3:0<=i+1:=by omega
 have p4:i+1<=(t.length:Int):=by omega
 have p5:-9223372036854775808<=i+2:=by omega
 have p6:i+2<=9223372036854775807:=by omega
 have p7:i<=i+2:=by omega
 have p8:i<=i+1:=by omega
 have h1':i<=(t.length:Int):=by omega
 have h3:(1:Nat)<=1000000:=by decide
 have h4:(3:Nat)<=1000000:=by decide
 have q0:(mZ t i (fZ t f i)).length<=1000000:=by
  unfold mZ; rw [List.length_take,List.length_drop]; omega
 have q1:(t.drop (i+1).toNat).length<=1000000:=by rw [List.length_drop]; omega
 repeat' (first|apply And.intro|exact trivial|exact rfl|exact fun (j:Nat) (_:j < 256)=>rfl|exact h0)
 ·refine fun (hc:decide (atV t f i=3)=true)=>?_
  have hc:=of_decide_eq_true hc
  repeat' (first|apply And.intro|exact trivial|exact rfl|exact fun (j:Nat) (_:j < 256)=>rfl|exact h0|exact h1'|exact h2|exact h4|exact w3|exact w4)
  ·refine fun (hg:decide (24 < mD t f i - i)=true)=>?_
   have hg:=of_decide_eq_true hg
   have e:=eqs (show nxV t f i=(⟨0,0,0,[]⟩,0,2) by unfold nxV; rw [if_pos hc,if_pos hg]; rfl)
   obtain ⟨e1,e2,e3,e4,e5,e6⟩:=e
   repeat' (first|apply And.intro|exact trivial|exact rfl|exact e1|exact e2|exact e3|exact e4|exact e5|exact e6)
  ·refine fun (hg:decide (24 < mD t f i - i)=false)=>?_
   have hg:=of_decide_eq_false hg
   have e:=eqs (show nxV t f i=(⟨1,i,0,mZ t i (mD t f i)⟩,mD t f i,0) by unfold nxV; rw [if_pos hc,if_neg hg])
   obtain ⟨e1,e2,e3,e4,e5,e6⟩:=e
   repeat' (first|apply And.intro|exact trivial|exact rfl|exact e1|exact e2|exact e3|exact e4|exact e5|exact e6|exact h0|exact w1|exact w2)
 ·refine fun (hc:decide (atV t f i=3)=false)=>?_
  have hc3:=of_decide_eq_false hc
  repeat' (first|apply And.intro|exact trivial|exact rfl|exact fun (j:Nat) (_:j < 256)=>rfl|exact h0)
  ·refine fun (hc:decide (atV t f i=4)=true)=>?_
   have hc:=of_decide_eq_true hc
   repeat' (first|apply And.intro|exact trivial|exact rfl|exact fun (j:Nat) (_:j < 256)=>rfl|exact h0|exact h1'|exact h2|exact h3|exact d3|exact d4|exact d5)
   ·refine fun (hg:aE (aE (decide (13 < fZ t f i - i)) _ _ _ (decide (atV t f (fZ t f i)=3))) _ _ _ (decide (atV t f (fZ t f i)=5))=true)=>?_
    rw [aD,aD] at hg
    have e:=eqs (show nxV t f i=(⟨0,0,0,[]⟩,0,4) by unfold nxV; rw [if_neg hc3,if_pos hc,if_pos hg]; rfl)
    obtain ⟨e1,e2,e3,e4,e5,e6⟩:=e
    repeat' (first|apply And.intro|exact trivial|exact rfl|exact e1|exact e2|exact e3|exact e4|exact e5|exact e6)
   ·refine fun (hg:aE (aE (decide (13 < fZ t f i - i)) _ _ _ (decide (atV t f (fZ t f i)=3))) _ _ _ (decide (atV t f (fZ t f i)=5))=false)=>?_
    rw [aD,aD] at hg
    have e:=eqs (show nxV t f i=(⟨2,i,uJ (mZ t i (fZ t f i)),mZ t i (fZ t f i)⟩,fZ t f i,0) by unfold nxV; rw [if_neg hc3,if_pos hc,if_neg (ne_true_of_eq_false hg)])
    obtain ⟨e1,e2,e3,e4,e5,e6⟩:=e
    repeat' (first|apply And.intro|exact trivial|exact rfl|exact e1|exact e2|exact e3|exact e4|exact e5|exact e6|exact h0|exact d1|exact d2|exact q0)
  ·refine fun (hc:decide (atV t f i=4)=false)=>?_
   have hc4:=of_decide_eq_false hc
   repeat' (first|apply And.intro|exact trivial|exact rfl|exact fun (j:Nat) (_:j < 256)=>rfl|exact h0)
   ·refine fun (hc:decide (atV t f i=6)=true)=>?_
    have hc:=of_decide_eq_true hc
    repeat' (first|apply And.intro|exact trivial|exact rfl|exact fun (j:Nat) (_:j < 256)=>rfl|exact p1|exact p2|exact p3|exact p4|exact q1)
    ·exact fun (hg:decide (qAt t i < 0)=false)=>qbd (of_decide_eq_false hg)
    ·refine fun (hg:aE (decide (qAt t i < 0)) _ _ _ (decide ((((t.drop (i+1).toNat).getD (qAt t i).toNat 0).toNat:Int)=10))=true)=>?_
     rw [aD] at hg
     have e:=eqs (show nxV t f i=(⟨0,0,0,[]⟩,0,6) by unfold nxV; rw [if_neg hc3,if_neg hc4,if_pos hc,if_pos hg]; rfl)
     obtain ⟨e1,e2,e3,e4,e5,e6⟩:=e
     repeat' (first|apply And.intro|exact trivial|exact rfl|exact e1|exact e2|exact e3|exact e4|exact e5|exact e6)
    ·refine fun (hg:aE (decide (qAt t i < 0)) _ _ _ (decide ((((t.drop (i+1).toNat).getD (qAt t i).toNat 0).toNat:Int)=10))=false)=>?_
     rw [aD] at hg
     have hq:¬ qAt t i < 0:=of_decide_eq_false (Bool.or_eq_false_iff.1 hg).1
     have hq1:=qbd hq
     have hq2:0<=qAt t i/\qAt t i<=((t.drop (i+1).toNat).length:Int):=⟨hq1.1,Int.le_of_lt hq1.2⟩
     have b1:-9223372036854775808<=i+qAt t i:=by have:=hq2.2; omega
     have b2:i+qAt t i<=9223372036854775807:=by have:=hq2.2; omega
     have b3:-9223372036854775808<=i+qAt t i+2:=by have:=hq2.2; omega
     have b4:i+qAt t i+2<=9223372036854775807:=by have:=hq2.2; omega
     repeat' (first|apply And.intro|exact trivial|exact rfl)
     ·refine fun (hk:decide (400 < qAt t i)=true)=>?_
      have hk:=of_decide_eq_true hk
      have e:=eqs (show nxV t f i=(⟨0,0,0,[]⟩,0,2) by unfold nxV; rw [if_neg hc3,if_neg hc4,if_pos hc,if_neg (ne_true_of_eq_false hg),if_pos hk]; rfl)
      obtain ⟨e1,e2,e3,e4,e5,e6⟩:=e
      repeat' (first|apply And.intro|exact trivial|exact rfl|exact e1|exact e2|exact e3|exact e4|exact e5|exact e6)
     ·refine fun (hk:decide (400 < qAt t i)=false)=>?_
      have hk:=of_decide_eq_false hk
      have e:=eqs (show nxV t f i=(⟨3,i,0,(t.drop (i+1).toNat).take (qAt t i).toNat⟩,i+qAt t i+2,0) by unfold nxV; rw [if_neg hc3,if_neg hc4,if_pos hc,if_neg (ne_true_of_eq_false hg),if_neg hk])
      obtain ⟨e1,e2,e3,e4,e5,e6⟩:=e
      repeat' (first|apply And.intro|exact trivial|exact rfl|exact e1|exact e2|exact e3|exact e4|exact e5|exact e6|exact hq2.1|exact hq2.2|exact b1|exact b2|exact b3|exact b4)
   ·refine fun (hc:decide (atV t f i=6)=false)=>?_
    have hc6:=of_decide_eq_false hc
    repeat' (first|apply And.intro|exact trivial|exact rfl|exact fun (j:Nat) (_:j < 256)=>rfl)
    ·refine fun (hc:decide (atV t f i=7)=true)=>?_
     have hc7:=of_decide_eq_true hc
     repeat' (first|apply And.intro|exact trivial|exact rfl)
     rotate_left
     ·refine fun (h:decide (atV t f i=7)=false)=>?_
      exact absurd hc7 (of_decide_eq_false h)
     refine fun (_:decide (atV t f i=7)=true)=>?_
     repeat' (first|apply And.intro|exact trivial|exact rfl|exact p1|exact p2|exact p3|exact p4)
     ·refine fun (hp:Lib.hasPrefix (t.drop (i+1).toNat) [61]=true)=>?_
      have hpl:=xA hp
      have p9:i+2<=(t.length:Int):=by rw [List.length_drop] at hpl; omega
      have e:=eqs (show nxV t f i=(⟨4,i,0,mZ t i (i+2)⟩,i+2,0) by unfold nxV; rw [if_neg hc3,if_neg hc4,if_neg hc6,if_pos (.inl hc7),if_pos hp])
      obtain ⟨e1,e2,e3,e4,e5,e6⟩:=e
      repeat' (first|apply And.intro|exact trivial|exact rfl|exact e1|exact e2|exact e3|exact e4|exact e5|exact e6|exact p5|exact p6|exact h0|exact p7|exact p9)
     ·refine fun (hp:Lib.hasPrefix (t.drop (i+1).toNat) [61]=false)=>?_
      repeat' (first|apply And.intro|exact trivial|exact rfl)
      ·refine fun (_:decide (atV t f i=7)=true)=>?_
       have e:=eqs (show nxV t f i=(⟨0,0,0,[]⟩,0,3) by unfold nxV; rw [if_neg hc3,if_neg hc4,if_neg hc6,if_pos (.inl hc7),if_neg (ne_true_of_eq_false hp),if_pos hc7]; rfl)
       obtain ⟨e1,e2,e3,e4,e5,e6⟩:=e
       repeat' (first|apply And.intro|exact trivial|exact rfl|exact e1|exact e2|exact e3|exact e4|exact e5|exact e6)
      ·refine fun (h7:decide (atV t f i=7)=false)=>?_
       exact absurd hc7 (of_decide_eq_false h7)
    ·refine fun (hc:decide (atV t f i=7)=false)=>?_
     have hc7:=of_decide_eq_false hc
     repeat' (first|apply And.intro|exact trivial|exact rfl)
     ·refine fun (hc:decide (atV t f i=8)=true)=>?_
      have hc8:=of_decide_eq_true hc
      repeat' (first|apply And.intro|exact trivial|exact rfl|exact p1|exact p2|exact p3|exact p4)
      ·refine fun (hp:Lib.hasPrefix (t.drop (i+1).toNat) [61]=true)=>?_
       have hpl:=xA hp
       have p9:i+2<=(t.length:Int):=by rw [List.length_drop] at hpl; omega
       have e:=eqs (show nxV t f i=(⟨4,i,0,mZ t i (i+2)⟩,i+2,0) by unfold nxV; rw [if_neg hc3,if_neg hc4,if_neg hc6,if_pos (.inr hc8),if_pos hp])
       obtain ⟨e1,e2,e3,e4,e5,e6⟩:=e
       repeat' (first|apply And.intro|exact trivial|exact rfl|exact e1|exact e2|exact e3|exact e4|exact e5|exact e6|exact p5|exact p6|exact h0|exact p7|exact p9)
      ·refine fun (hp:Lib.hasPrefix (t.drop (i+1).toNat) [61]=false)=>?_
       repeat' (first|apply And.intro|exact trivial|exact rfl)
       ·refine fun (h7:decide (atV t f i=7)=true)=>?_
        exact absurd (of_decide_eq_true h7) hc7
       ·refine fun (_:decide (atV t f i=7)=false)=>?_
        have e:=eqs (show nxV t f i=(⟨4,i,0,mZ t i (i+1)⟩,i+1,0) by unfold nxV; rw [if_neg hc3,if_neg hc4,if_neg hc6,if_pos (.inr hc8),if_neg (ne_true_of_eq_false hp),if_neg hc7])
        obtain ⟨e1,e2,e3,e4,e5,e6⟩:=e
        repeat' (first|apply And.intro|exact trivial|exact rfl|exact e1|exact e2|exact e3|exact e4|exact e5|exact e6|exact p1|exact p2|exact h0|exact p8|exact p4)
     refine fun (hc:decide (atV t f i=8)=false)=>?_
     have hc8:=of_decide_eq_false hc
     repeat' (first|apply And.intro|exact trivial|exact rfl)
     ·refine fun (hc:decide (atV t f i=9)=true)=>?_
      have hc9:=of_decide_eq_true hc
      have e:=eqs (show nxV t f i=(⟨4,i,0,mZ t i (i+1)⟩,i+1,0) by unfold nxV; rw [if_neg hc3,if_neg hc4,if_neg hc6,if_neg (by omega),if_pos hc9])
      obtain ⟨e1,e2,e3,e4,e5,e6⟩:=e
      repeat' (first|apply And.intro|exact trivial|exact rfl|exact e1|exact e2|exact e3|exact e4|exact e5|exact e6|exact p1|exact p2|exact h0|exact p8|exact p4)
     ·refine fun (hc:decide (atV t f i=9)=false)=>?_
      have hc9:=of_decide_eq_false hc
      have e:=eqs (show nxV t f i=(⟨0,0,0,[]⟩,0,3) by unfold nxV; rw [if_neg hc3,if_neg hc4,if_neg hc6,if_neg (by omega),if_neg hc9]; rfl)
      obtain ⟨e1,e2,e3,e4,e5,e6⟩:=e
      repeat' (first|apply And.intro|exact trivial|exact rfl|exact e1|exact e2|exact e3|exact e4|exact e5|exact e6)
end L8
end
section
namespace EL
open Go Go.Eng
theorem aV {k:Keep} {f:SV->SV->Prop} {s t:SV} (h:s=t) (hs:f t t):oQ k f s t:=by
 subst h; exact Or.inl hs
theorem Mq {T:Type} {g:T->SV} {d:T} {L M:List T} {e:Nat->SV} (he:∀ i,i < M.length->e i=g (M.getD i d)) {n:Nat} (hn:n=L.length) {N:List T} (hN:N=L++M) {j:Nat} (hj:j < L.length+M.length):cU n (fun i=>g (L.getD i d)) e j=g (N.getD j d):=by
 subst hn hN
 unfold cU
 by_cases h:j < L.length
 ·rw [show Nat.blt j L.length=true from Nat.ble_eq_true_of_le h,cond_true]
  show g (L.getD j d)=_
  rw [List.getD_eq_getElem?_getD,List.getD_eq_getElem?_getD,List.getElem?_append_left h]
 ·have:Nat.blt j L.length=false:=by
   cases hb:Nat.blt j L.length with
   | false=>rfl
   | true=>exact absurd (Nat.le_of_ble_eq_true hb) h
  rw [this,cond_false,he _ (by omega),List.getD_eq_getElem?_getD,List.getD_eq_getElem?_getD,List.getElem?_append_right (by omega)]
theorem Mr {T:Type} {g:T->SV} {d:T} {L:List T} {q:T} {e:Nat->SV} (he:e 0=g q) {n:Nat} (hn:n=L.length) {N:List T} (hN:N=L++[q]) {j:Nat} (hj:j < L.length+1):cU n (fun i=>g (L.getD i d)) e j=g (N.getD j d):=by
 refine Mq (M:=[q]) (fun i hi=>?_) hn hN hj
 have:i=0:=by simpa using hi
 subst this
 exact he
theorem uH {T:Type} {g:T->SV} {f:Nat->T} {n:Nat} {e:Nat->SV} (he:e 0=g (f n)) {j:Nat} (hj:j < n+1):cU n (fun i=>g (f i)) e j=g (f j):=by
 unfold cU
 by_cases h:j < n
 ·rw [show Nat.blt j n=true from Nat.ble_eq_true_of_le h,cond_true]
 ·have:Nat.blt j n=false:=by
   cases hb:Nat.blt j n with
   | false=>rfl
   | true=>exact absurd (Nat.le_of_ble_eq_true hb) h
  rw [this,cond_false,show j - n=0 by omega,he,show j=n by omega]
end EL
end
section
open Go Go.Eng Go.Proofs L1 L2 L3 L4 L6 L8
set_option maxRecDepth 100000
namespace L9
theorem Wt {t:List UInt8} {f:Nat->Int} (h3:f 10≠2):∀ (m:Nat) {j:Int},0<=j->j<=(t.length:Int)->j<=tl t f m j/\tl t f m j<=(t.length:Int):=by
 intro m
 induction m with
 | zero=>intro j h0 h1; exact ⟨Int.le_refl _,h1⟩
 | succ m ih =>
  intro j h0 h1
  unfold tl
  split
  ·rename_i hg
   split
   ·exact ⟨h1,Int.le_refl _⟩
   ·rename_i hn
    have:=Ox h0 h1 h3 hg hn
    have w:=Ei (f:=f) (t:=t) (j:=j+nl t j) (by omega) (by omega)
    have:=ih (j:=w1 t f (j+nl t j)) (by omega) (by omega)
    omega
  ·exact ⟨Int.le_refl _,h1⟩
theorem Ii {t:List UInt8} {f:Nat->Int} (h3:f 10≠2) {j:Int} (h0:0<=j) (h1:j<=(t.length:Int)):j<=gap t f j/\gap t f j<=(t.length:Int):=by
 have w:=Ei (f:=f) h0 h1
 have:=Wt (t:=t) h3 (t.length+1) (j:=w1 t f j) (by omega) w.2
 unfold gap
 omega
theorem Ej {t:List UInt8} {f:Nat->Int} {i:Int} {n:Nat} {cs:Nat->Int} (h0:0<=i) (h1:i < (t.length:Int)) (j:Nat) (hj:j < n) (h:cs j=atV t f i):1<=whl ⟨t,f,i,n,cs⟩:=by
 have:=tP (t:=t) (f:=f) (i:=i) (n:=n) (cs:=cs) (k:=0) h0 (Nat.zero_le _)
 rw [aF] at this
 simp only [Int.ofNat_zero,Int.add_zero,decide_eq_true h1,Bool.true_and] at this
 rw [show decide (∃ j,j < n/\cs j=atV t f i)=true from decide_eq_true ⟨j,hj,h⟩] at this
 exact of_decide_eq_true this.symm
theorem Vj {t:List UInt8} {f:Nat->Int} {i:Int} (h0:0<=i) (h1:i < (t.length:Int)) (h:(nxV t f i).2.2=0):i < (nxV t f i).2.1/\(nxV t f i).2.1<=(t.length:Int):=by
 have w0:whl ⟨t,f,i,3,cs3⟩<=t.length - i.toNat:=qG
 have d0:whl ⟨t,f,i,1,cs1⟩<=t.length - i.toNat:=qG
 unfold nxV at h ⊢
 split
 ·rename_i hc
  rw [if_pos hc] at h
  have:=Ej (f:=f) (cs:=cs3) h0 h1 0 (by decide:0 < 3) (by rw [hc]; rfl)
  split
  ·rename_i hg; rw [if_pos hg] at h; exact absurd h (by decide)
  ·show i < mD t f i/\mD t f i<=_
   unfold mD; omega
 ·rename_i hc
  rw [if_neg hc] at h
  split
  ·rename_i hc
   rw [if_pos hc] at h
   have:=Ej (f:=f) (cs:=cs1) h0 h1 0 (by decide:0 < 1) (by rw [hc]; rfl)
   split
   ·rename_i hg; rw [if_pos hg] at h; exact absurd h (by decide)
   ·show i < fZ t f i/\fZ t f i<=_
    unfold fZ; omega
  ·rename_i hc
   rw [if_neg hc] at h
   split
   ·rename_i hc
    rw [if_pos hc] at h
    split
    ·rename_i hg; rw [if_pos hg] at h; exact absurd h (by decide)
    ·rename_i hg
     rw [if_neg hg] at h
     split
     ·rename_i hg; rw [if_pos hg] at h; exact absurd h (by decide)
     ·have hq:=qbd (t:=t) (i:=i) (of_decide_eq_false (Bool.or_eq_false_iff.1 (Bool.eq_false_iff.2 hg)).1)
      rw [List.length_drop] at hq
      show i < i+qAt t i+2/\i+qAt t i+2<=_
      omega
   ·rename_i hc
    rw [if_neg hc] at h
    split
    ·rename_i hc
     rw [if_pos hc] at h
     split
     ·rename_i hp
      have hpl:=xA hp
      rw [List.length_drop] at hpl
      show i < i+2/\i+2<=_
      omega
     ·rename_i hp
      rw [if_neg hp] at h
      split
      ·rename_i hg; rw [if_pos hg] at h; exact absurd h (by decide)
      ·show i < i+1/\i+1<=_
       omega
    ·rename_i hc
     rw [if_neg hc] at h
     split
     ·show i < i+1/\i+1<=_
      omega
     ·rename_i hg; rw [if_neg hg] at h; exact absurd h (by decide)
def erV (r:NR) (n:Nat):Int:=if r.2.2=0/\n=5000 then 2 else r.2.2
def lx (t:List UInt8):Nat->Int->List Tk->List Tk×Int×Int
 | 0,_,out=>(out,0,0)
 | m+1,i,out=>if i < (t.length:Int) then
   (if erV (nxV t cls i) out.length=0 then lx t m (gap t cls (nxV t cls i).2.1) (out++[(nxV t cls i).1]) else ([],erV (nxV t cls i) out.length,i))
  else (out,0,0)
theorem D9 {t:List UInt8} {m:Nat} {i:Int} {out:List Tk}:lx t (m+1) i out=if i < (t.length:Int) then
   (if erV (nxV t cls i) out.length=0 then lx t m (gap t cls (nxV t cls i).2.1) (out++[(nxV t cls i).1]) else ([],erV (nxV t cls i) out.length,i))
  else (out,0,0):=rfl
def cG (t:List UInt8):List Tk×Int×Int:=if 20000 < t.length then ([],2,-1) else lx t (t.length+1) (gap t cls 0) []
def Xb (l:List Tk):SV:=.slice 4 l.length fun i=>tkL (l.getD i tk0)
def I1:Eng.Spec where
 X:=List UInt8
 args:=fun t=>.cons (.str t) .nil
 pre:=fun t=>t.length<=1000000
 res:=fun t=>.tup (.cons (Xb (cG t).1) (.cons (.int .i64 (cG t).2.1) (.cons (.int .i64 (cG t).2.2) .nil)))
 inst:=fun
  | .cons (.str t) _=>some t
  | _=>none
theorem Kp (k:Keep) (hp:List (Nat×aG)) (m:Nat) (t:Tk):sub k hp (m+6) (tkL t) (tkL t):=⟨⟨rfl,rfl⟩,⟨rfl,rfl⟩,⟨rfl,rfl⟩,rfl,trivial⟩
theorem Nt {k:Keep} {hp:List (Nat×aG)} {m:Nat} {a b:Tk} (h:a=b):sub k hp (m+6) (tkL a) (tkL b):=by subst h; exact Kp ..
def g63:List Nat:=[13,0,21,36,38,10,8,9,5,7,6,2,3,4]
def c63:aH :=
 .seq (.region g63 [(zo 2 (.move (.c (.nilsl)))),(zo 3 (.move (cj 0))),(zo 4 (.move (cj 0)))]) (.seq (.seq (.region g63 [(mv 11 0),(zo 12 (.lenStr (.s 11))),(zo 13 (.bin (.gtr) (.s 12) (cj 20000)))]) (.cond (.s 13) (.seq (.region g63 [(zo 2 (.move (.c (.nilsl)))),(zo 3 (.move (cj 2))),(zo 4 (.move (cj (-1))))]) .ret) .skip)) (.seq (.region g63 [(mv 14 0),(zo 15 (.call (.c (.fn 91)) [])),(zo 16 (.build (.cons (.str []) (.zeros .i64 256 .nil)) [(0,1,.s 14),(1,256,.s 15)])),(zo 5 (.alloc 137 (.cons (.str []) (.zeros .i64 256 .nil)))),⟨none,none,.store 257 (.s 5) (.s 16),[]⟩]) (.seq (.region g63 [(zo 6 (.move (.c (.nilsl))))]) (.seq (.seq (.region g63 [(zo 17 (.call (.c (.fn 92)) [.s 5,cj 0])),(mv 7 17)]) (.block 0 (.loop 0 [18,19,20,21,25,26,24,27,28,29,8,9,30,31,32,33,34,35,36,10,37,38,39,40,2,3,4,41,42,43,44,6,45,22,23,7] (.seq (.seq (.region g63 [(mv 18 7),(mv 19 0),(zo 20 (.lenStr (.s 19))),(zo 21 (.bin (.lss) (.s 18) (.s 20)))]) (.cond (.s 21) .skip (.exit 0))) (.seq (.block 1 (.seq (.region g63 [(mv 25 7),(zo 26 (.call (.c (.fn 93)) [.s 5,.s 25])),(mv 24 26),(zo 27 (.extract 0 (.s 24))),(zo 28 (.extract 1 (.s 24))),(zo 29 (.extract 2 (.s 24))),(zo 8 (.alloc 113 (.cons (.int .i64 0) (.cons (.int .i64 0) (.cons (.int .i64 0) (.cons (.str []) .nil)))))),⟨none,none,.store 4 (.s 8) (.s 27),[]⟩,(mv 9 28),(mv 10 29)]) (.seq (.seq (.region g63 [(mv 30 10),(zo 31 (.bin (.eql) (.s 30) (cj 0))),(mv 32 31),(mg 33 32 true 6),(zg 34 32 true (.lenSl (.s 33))),(zg 35 32 true (.bin (.eql) (.s 34) (cj 5000))),(zo 36 (.pick (.s 32) (.s 35) cF))]) (.cond (.s 36) (.region g63 [(zo 10 (.move (cj 2)))]) .skip)) (.seq (.seq (.region g63 [(mv 37 10),(zo 38 (.bin (.neq) (.s 37) (cj 0)))]) (.cond (.s 38) (.seq (.region g63 [(mv 39 10),(mv 40 7),(zo 2 (.move (.c (.nilsl)))),(mv 3 39),(mv 4 40)]) .ret) .skip)) (.seq (.region g63 [(mv 41 6),(zo 42 (.load 4 true (.s 8))),(zo 43 (.buildSl 113 4 1 (.cons (.int .i64 0) (.cons (.int .i64 0) (.cons (.int .i64 0) (.cons (.str []) .nil)))) [(0,4,.s 42)])),(zo 44 (.app 113 4 40 (.s 41) (.s 43))),(mv 6 44)]) (.region g63 [(mv 45 9),(mv 7 45)])))))) (.region g63 [(mv 22 7),(zo 23 (.call (.c (.fn 92)) [.s 5,.s 22])),(mv 7 23)])))))) (.seq (.region g63 [(mv 46 6),(mv 2 46),(zo 3 (.move (cj 0))),(zo 4 (.move (cj 0)))]) .ret)))))
theorem e63:aI Tryz.prog 63 g63 [] [] []=some (c63,[.slot 2,.slot 3,.slot 4],47):=by kernel_rfl
theorem Cb:I1.Ok Tryz.prog 63:=by
 refine Eng.Spec.okR e63 .nil (fun _=>[(91,.p Tx),(92,.p Ui),(93,.p Ow)]) (fun _ _=>aA.p Pu (aA.p Ql (aA.p My aA.nil))) ?_
 intro (t:List UInt8) (h0:t.length<=1000000)
 have h3:cls 10≠2:=by decide
 refine ⟨trivial,?_⟩
 repeat' (first|apply And.intro|exact trivial|exact rfl|exact fun (j:Nat) (_:j < 256)=>rfl)
 ·refine fun (hg:decide (20000 < (t.length:Int))=true)=>?_
  have hg:=of_decide_eq_true hg
  have e:cG t=([],2,-1):=if_pos (by omega)
  have e1:0=(cG t).1.length:=by rw [e]; rfl
  have e2:2=(cG t).2.1:=by rw [e]
  have e3:-1=(cG t).2.2:=by rw [e]
  repeat' (first|apply And.intro|exact trivial|exact rfl|exact e1.symm|exact e2|exact e3)
 ·refine fun (hg:decide (20000 < (t.length:Int))=false)=>?_
  have hg:=of_decide_eq_false hg
  have e:cG t=lx t (t.length+1) (gap t cls 0) []:=if_neg (by omega)
  have b0:(0:Int)<=0:=by decide
  have b1:(0:Int)<=(t.length:Int):=by omega
  repeat' (first|apply And.intro|exact trivial|exact rfl|exact fun (j:Nat) (_:j < 256)=>rfl|exact b0|exact b1|exact h0|exact h3)
  have g0:=Ii (t:=t) h3 b0 b1
  refine ⟨⟨Nat×Int×List Tk,fun x=>(0<=x.2.1/\x.2.1<=(t.length:Int))/\(t.length:Int) - x.2.1 < x.1/\x.2.2.length<=5000/\lx t x.1 x.2.1 x.2.2=cG t,
   fun x=>[(7,.int .i64 x.2.1),(6,.lsl 20 4 x.2.2.length)],fun x=>[(20,.arr 113 4 x.2.2.length fun i=>tkL (x.2.2.getD i tk0))],fun x=>x.1⟩,(t.length+1,gap t cls 0,[]),?_,?_,?_⟩
  ·exact ⟨⟨Int.le_trans b0 g0.1,g0.2⟩,by show (t.length:Int) - gap t cls 0 < ((t.length+1:Nat):Int); have:=g0.1; omega,Nat.zero_le _,e.symm⟩
  ·repeat' (first|apply And.intro|exact trivial|exact rfl|exact fun (j:Nat) (_:j < 256)=>rfl)
  rintro ⟨m,j,out⟩ ⟨⟨(k0:0<=j),(k1:j<=(t.length:Int))⟩,(k2:(t.length:Int) - j < m),(k3:out.length<=5000),(k4:lx t m j out=cG t)⟩
  obtain ⟨m,rfl⟩:∃ q,m=q+1:=⟨m - 1,by omega⟩
  repeat' (first|apply And.intro|exact trivial|exact rfl|exact fun (j:Nat) (_:j < 256)=>rfl)
  ·refine fun (hg:decide (j < (t.length:Int))=true)=>?_
   have k5:=of_decide_eq_true hg
   rw [D9,if_pos k5] at k4
   repeat' (first|apply And.intro|exact trivial|exact rfl|exact fun (j:Nat) (_:j < 256)=>rfl|exact k0|exact k5|exact h0)
   ·refine fun (hp:aE (decide ((nxV t cls j).2.2=0)) (.s 35) cF (decide ((out.length:Int)=5000)) false=true)=>?_
    rw [aF,Bool.and_eq_true,decide_eq_true_eq,decide_eq_true_eq] at hp
    have e1:erV (nxV t cls j) out.length=2:=if_pos ⟨hp.1,by omega⟩
    rw [e1,if_neg (by decide)] at k4
    have f1:0=(cG t).1.length:=by rw [<- k4]; rfl
    have f2:2=(cG t).2.1:=by rw [<- k4]
    have f3:j=(cG t).2.2:=by rw [<- k4]
    repeat' (first|apply And.intro|exact trivial|exact rfl)
    ·refine fun (_:(!decide ((2:Int)=0))=true)=>?_
     repeat' (first|apply And.intro|exact trivial|exact rfl|exact f1.symm|exact f2|exact f3)
    ·exact fun (h:(!decide ((2:Int)=0))=false)=>absurd h (by decide)
   ·refine fun (hp:aE (decide ((nxV t cls j).2.2=0)) (.s 35) cF (decide ((out.length:Int)=5000)) false=false)=>?_
    rw [aF] at hp
    repeat' (first|apply And.intro|exact trivial|exact rfl)
    ·refine fun (he:(!decide ((nxV t cls j).2.2=0))=true)=>?_
     have he:(nxV t cls j).2.2≠0:=by simpa using he
     have e1:erV (nxV t cls j) out.length=(nxV t cls j).2.2:=if_neg fun h=>he h.1
     rw [e1,if_neg he] at k4
     have f1:0=(cG t).1.length:=by rw [<- k4]; rfl
     have f2:(nxV t cls j).2.2=(cG t).2.1:=by rw [<- k4]
     have f3:j=(cG t).2.2:=by rw [<- k4]
     repeat' (first|apply And.intro|exact trivial|exact rfl|exact f1.symm|exact f2|exact f3)
    ·refine fun (he:(!decide ((nxV t cls j).2.2=0))=false)=>?_
     have he:(nxV t cls j).2.2=0:=by simpa using he
     have hn:out.length≠5000:=fun h=>by rw [he,h] at hp; exact absurd hp (by decide)
     have e1:erV (nxV t cls j) out.length=(nxV t cls j).2.2:=if_neg fun h=>hn h.2
     rw [e1,if_pos he] at k4
     have hb:=Vj k0 k5 he
     have c0:0<=(nxV t cls j).2.1:=by omega
     have hgb:=Ii h3 c0 hb.2
     repeat' (first|apply And.intro|exact trivial|exact rfl|exact fun (j:Nat) (_:j < 256)=>rfl|exact c0|exact hb.2|exact h0|exact h3)
     ·show out.length+1<=9223372036854775807
      omega
     ·show (out.length+1) * 40<=140737488355328
      omega
     refine Exists.intro (m,gap t cls (nxV t cls j).2.1,out++[(nxV t cls j).1]) ?_
     have r0:0<=gap t cls (nxV t cls j).2.1:=by omega
     have r1:(t.length:Int) - gap t cls (nxV t cls j).2.1 < (m:Int):=by omega
     have r2:(out++[(nxV t cls j).1]).length<=5000:=by rw [List.length_append]; show out.length+1<=5000; omega
     have r3:out.length+1=(out++[(nxV t cls j).1]).length:=by rw [List.length_append]; rfl
     repeat' (first|apply And.intro|exact trivial|exact rfl|exact fun (j:Nat) (_:j < 256)=>rfl|exact r0|exact hgb.2|exact r1|exact r2|exact k4|exact r3)
     ·exact fun (i:Nat) (hi:i < out.length+1)=>EL.aV (EL.Mr (g:=tkL) (d:=tk0) (L:=out) (q:=(nxV t cls j).1) (N:=out++[(nxV t cls j).1]) rfl rfl rfl hi) (Kp ..)
     ·exact Nat.lt_succ_self m
  ·refine fun (hg:decide (j < (t.length:Int))=false)=>?_
   have k5:=of_decide_eq_false hg
   rw [D9,if_neg k5] at k4
   have e1:out.length=(cG t).1.length:=by rw [<- k4]
   have e2:0=(cG t).2.1:=by rw [<- k4]
   have e3:0=(cG t).2.2:=by rw [<- k4]
   repeat' (first|apply And.intro|exact trivial|exact rfl|exact e1|exact e2|exact e3)
   ·exact Nat.le_of_eq (Nat.zero_add _)
   ·exact fun (i:Nat) (_:i < out.length)=>Or.inl (Nt (by rw [<- k4,Nat.zero_add]))
end L9
end
section
open Go Go.Eng Go.Proofs L1 L2 L3 L4 L6 L8 L9
set_option maxRecDepth 100000
namespace L10
def dL (s:List UInt8):Bool:=(((decide ((cG s).2.1=0) && decide (((cG s).1.length:Int)=1)) && decide (((cG s).1.getD 0 tk0).kind=1)) && decide (((cG s).1.getD 0 tk0).text=s))
def g137:List Nat:=[4,3,0,2]
def c137:aH :=
 .seq (.region g137 [(zo 2 (.move cF))]) (.seq (.region g137 [(mv 7 0),(zo 8 (.call (.c (.fn 63)) [.s 7])),(mv 6 8),(zo 9 (.extract 0 (.s 6))),(zo 10 (.extract 1 (.s 6))),(zo 11 (.extract 2 (.s 6))),(mv 3 9),(mv 4 10),(mv 5 11)]) (.seq (.region g137 [(mv 12 4),(zo 13 (.bin (.eql) (.s 12) (cj 0))),(mv 14 13),(mg 15 14 true 3),(zg 16 14 true (.lenSl (.s 15))),(zg 17 14 true (.bin (.eql) (.s 16) (cj 1))),(zo 18 (.pick (.s 14) (.s 17) cF)),(mv 19 18),(mg 20 19 true 3),(zg 21 19 true (.idxSl 4 (.s 20) (cj 0))),(fg 22 19 true 0 21),(lg 23 19 true 22),(zg 24 19 true (.bin (.eql) (.s 23) (cj 1))),(zo 25 (.pick (.s 19) (.s 24) cF)),(mv 26 25),(mg 27 26 true 3),(zg 28 26 true (.idxSl 4 (.s 27) (cj 0))),(fg 29 26 true 3 28),(lg 30 26 true 29),(mg 31 26 true 0),(zg 32 26 true (.bin (.eql) (.s 30) (.s 31))),(zo 33 (.pick (.s 26) (.s 32) cF)),(mv 2 33)]) .ret))
theorem e137:aI Tryz.prog 137 g137 [] [] []=some (c137,[.slot 2],34):=by kernel_rfl
def qR:Eng.Spec where
 X:=List UInt8
 args:=fun t=>.cons (.str t) .nil
 pre:=fun t=>t.length<=1000000
 res:=fun t=>.bool (dL t)
 inst:=I1.inst
theorem wP:qR.Ok Tryz.prog 137:=by
 refine Eng.Spec.okR e137 .nil (fun _=>[(63,.p I1)]) (fun _ _=>aA.p Cb aA.nil) ?_
 intro (t:List UInt8) (h0:t.length<=1000000)
 refine ⟨trivial,?_⟩
 have gl:aE (decide ((cG t).2.1=0)) (.s 17) cF (decide (((cG t).1.length:Int)=1)) false=true->0<=(0:Int)/\(0:Int) < ((cG t).1.length:Int):=fun h=>by
  rw [aF,Bool.and_eq_true,decide_eq_true_eq,decide_eq_true_eq] at h
  omega
 have gl2:∀ b:Bool,aE (aE (decide ((cG t).2.1=0)) (.s 17) cF (decide (((cG t).1.length:Int)=1)) false) (.s 24) cF b false=true->0<=(0:Int)/\(0:Int) < ((cG t).1.length:Int):=fun b h=>by
  rw [aF,Bool.and_eq_true] at h
  exact gl h.1
 have e:aE (aE (aE (decide ((cG t).2.1=0)) (.s 17) cF (decide (((cG t).1.length:Int)=1)) false) (.s 24) cF (decide (((cG t).1.getD 0 tk0).kind=1)) false) (.s 32) cF (decide (((cG t).1.getD 0 tk0).text=t)) false=dL t:=by
  rw [aF,aF,aF]; rfl
 repeat' (first|apply And.intro|exact trivial|exact rfl|exact h0)
 ·exact gl
 ·exact gl2 _
end L10
end
