/- A part of the proof. -/
import Derived.Test.YtpiolkcdfgiefaaGreatDoorT8
import Derived.Test.YtpiolkcdfgiefaaGreatDoorProg
import Derived.KernelRfl
import Derived.Test.YtpiolkcdfgiefaaGreatDoorEngVia
import Derived.Ground.NamesProg
import Derived.Test.YtpiolkcdfgiefaaGreatDoorT4
import Derived.Lib.IndexLaws
import Derived.Ground.GgwProg
import Derived.Shelf.Strconv.AtoiAll
import Derived.Shelf.Strconv.Itoa3
import Derived.Shelf.Strings.Cut
import Derived.Shelf.Strings.Split
import Derived.Shelf.Strings.Prefix
import Derived.Shelf.Strings.OnBuilder
import Derived.Shelf.Strings.IndexAnyAll
import Derived.Shelf.GgClosure.StringsRunes
section
set_option maxHeartbeats 10000000
open Go Go.Eng Go.Proofs T1 T2 T3 T4 T5 T6 T7 T8
set_option maxRecDepth 100000
namespace T9
structure HX where
 p:Bool
 N:Nat->NO
 c:Nat
 r:Nat
 t:B
 i:B
def HX.fin(x:HX):CS:=chN x.p ⟨x.N,x.c,x.r⟩ x.t
def Ew(N:Nat->NO)(x:Nat):Nat :=
 match N x with
 |.node a _ _ _ _=>a
 |_=>0
def iL(p:Bool)(N:Nat->NO)(x y:Nat)(i:B):Nat->NO :=
 match N x with
 |.node a n m sz mk=>bif p then put (put N y (.arr (oY (fC N a) n (eV (fM N a n) i) i))) x (.node y (n+1) m sz mk)
   else put (put N a (.arr (vO (fC N a) n (eV (fM N a n) i)))) x (.node a (n-1) m sz mk)
 |_=>N
theorem sX{k:Keep}{hp:List (Nat×aL)}{h:Nat}{f:Nat->aL}{N:Nat->NO}{j:Nat}{o o':aL}{n:NO}(h1:gQ k hp o (noO h n))(h2:∀i,gQ k hp (f i) (noO h (N i))) :
  ∀i,gQ k hp (bif Nat.beq i j then o else bif Nat.beq i j then o' else f i) (noO h (put N j n i)):=by
 grind[put]
theorem sub_eq{k:Keep}{hp:List (Nat×aL)}{h:Nat}{F:Nat->aL}{f g:Nat->NO}(e:g=f)(hs:∀i,gQ k hp (F i) (noO h (f i))):∀i,gQ k hp (F i) (noO h (g i)):=by simp[*]
theorem aAk{α:Type _}{i j:Nat}(h:i≠j)(A B:α):(bif Nat.beq i j then A else B)=B:=by rw[Dh h]; rfl
theorem U8{k:Keep}{hp:List (Nat×aL)}{h h' q:Nat}{l:List (bQ×Nat×Nat)}{ev:Nat->SV}{iv:SV->Option Nat}(e:∀v,ev v=.fown h v 0)(hr:lH k h h':=by exact rfl):gQ k hp (.map Nat (.i .u8) l q ev iv) (noO h' (.map l q)):=Is.sub (h:=h) ⟨ev,iv,rfl,e⟩ hr
theorem vJ{α:Type _}(x:Nat)(A B:α):(bif Nat.beq x x then A else B)=A:=by simp
def g41:List Nat:=[0,32,42,2,58,1,10,9,3,8]
def c41:aY :=
 .seq (.region g41 [(mv 11 0),(zo 12 (.nilCheck (.s 11))),(fa 13 0 12),(ld 14 13),(mv 8 14)]) (.seq (.seq (.region g41 [(zo 9 (.move (cj 0)))]) (.block 0 (.loop 0 [17,18,19,20,21,22,23,24,25,26,27,28,29,30,31,32,33,34,35,36,37,38,39,40,41,42,43,10,44,45,46,47,48,49,50,51,52,53,54,55,56,57,58,59,60,61,62,63,64,65,66,8,15,16,9] (.seq (.block 1 (.seq (.region g41 [(mv 17 8),(mv 18 8),(mv 19 8),(zo 20 (.nilCheck (.s 19))),(fa 21 2 20),(ld 22 21),(mv 23 2),(zo 24 (.bin (.add) (.s 22) (.s 23))),(zo 25 (.nilCheck (.s 17))),(fa 26 2 25),⟨none,none,.store 1 (.s 26) (.s 24),[]⟩,(zo 27 (.nilCheck (.s 18))),(fa 28 3 27),⟨none,none,.store 1 (.s 28) (.c (.str [])),[]⟩]) (.seq (.seq (.region g41 [(mv 29 9),(mv 30 1),(zo 31 (.lenStr (.s 30))),(zo 32 (.bin (.eql) (.s 29) (.s 31)))]) (.cond (.s 32) (.exit 0) .skip)) (.seq (.drawn g41 (.pure 0 (mv 33 8) (.pure 1 (zo 34 (.nilCheck (.s 33))) (.pure 2 (fa 35 1 34) (.pure 4 (mv 37 1) (.pure 5 (mv 38 9) (.pure 6 (zo 39 (.idxStr (.s 37) (.s 38))) (.eff 3 (ld 36 35) [] (.eff 7 (zo 40 (.mlook (.nilptr) false (.i (.u8)) (.s 36) (.s 39))) [] (.pure 8 (mv 10 40) .done) .none) .none)))))))) (.seq (.seq (.region g41 [(mv 41 10),(zo 42 (.ptrEq false (.s 41) (.c (.nilptr))))]) (.cond (.s 42) (.seq (.region g41 [(zo 43 (.call (.c (.fn 39)) [])),(mv 10 43)]) (.drawn g41 (.pure 0 (mv 44 8) (.pure 1 (zo 45 (.nilCheck (.s 44))) (.pure 2 (fa 46 1 45) (.pure 4 (mv 48 1) (.pure 5 (mv 49 9) (.pure 6 (zo 50 (.idxStr (.s 48) (.s 49))) (.pure 7 (mv 51 10) (.eff 3 (ld 47 46) [] (.eff 8 ⟨none,none,.mupd (.i (.u8)) (.s 47) (.s 50) (.s 51),[]⟩ [] .done .none) .none)))))))))) .skip)) (.seq (.seq (.region g41 [(mv 52 10),(zo 53 (.nilCheck (.s 52))),(fa 54 2 53),(ld 55 54),(mv 56 2),(zo 57 (.bin (.add) (.s 55) (.s 56))),(zo 58 (.bin (.eql) (.s 57) (cj 0)))]) (.cond (.s 58) (.drawn g41 (.pure 0 (mv 59 8) (.pure 1 (zo 60 (.nilCheck (.s 59))) (.pure 2 (fa 61 1 60) (.pure 4 (mv 63 1) (.pure 5 (mv 64 9) (.pure 6 (zo 65 (.idxStr (.s 63) (.s 64))) (.eff 3 (ld 62 61) [] (.eff 7 ⟨none,none,.mdele (.i (.u8)) (.s 62) (.s 65),[]⟩ [] .done .none) .none)))))))) .skip)) (.region g41 [(mv 66 10),(mv 8 66)]))))))) (.region g41 [(mv 15 9),(zo 16 (.bin (.add) (.s 15) (cj 1))),(mv 9 16)]))))) (.region g41 [(mv 67 3),(mv 68 8),(zo 69 (.call (.s 67) [.s 68]))]))
theorem e41:bO Tryz.prog 41 g41 [] [36,40,47,62,66] []=some (c41,[],70):=by kernel_rfl
def chS:bC where
 X:=HX
 Y:=Nat
 args:=λx=>.cons (.own 0 0) (.cons (.str x.t) (.cons (.int .i64 (dv x.p)) (.cons (.fn (bif x.p then 45 else 42) (.cons (.own 2 0) .nil)) .nil)))
 pre:=λx=>Ok ⟨x.N,x.c,x.r⟩ 1000000000000/\x.t.length<=1000/\Srt (nX x.fin.N x.fin.x)/\(nX x.fin.N x.fin.x).length<1000000/\(x.p=false->x.i∈nX x.fin.N x.fin.x)
 h0:=λx=>tH 0 1 x.r x.N++[(2,.cells 32 (xK x.t x.i))]
 nx0:=3
 post:=λx y=>x.p=true->(y=Ew x.fin.N x.fin.x/\fC x.fin.N y≠[])\/y=x.fin.c
 res:=λ_ _=>.tup .nil
 h1:=λx y=>tH 0 1 x.r (iL x.p x.fin.N x.fin.x y x.i)
 nx1:=3
theorem Y4:chS.Ok Tryz.prog 41:=by
 refine Eng.bC.okR e41 .nil (λ_=>[(39,.m aCy),(45,.m Zt),(42,.m Rg)]) (by grind[aO.m,Ts,X3,Rh,aO.nil]) ?_;rintro⟨p,N,c,r,t,i⟩ ⟨(hc:Ok ⟨N,c,r⟩ 1000000000000),(ht:t.length<=1000),(hs:Srt (nX (HX.mk p N c r t i).fin.N (HX.mk p N c r t i).fin.x)),(hn:(nX (HX.mk p N c r t i).fin.N (HX.mk p N c r t i).fin.x).length<1000000),(hd:p=false->i∈nX (HX.mk p N c r t i).fin.N (HX.mk p N c r t i).fin.x)⟩;obtain⟨F,hF⟩:∃F,F=(HX.mk p N c r t i).fin:=⟨_,rfl⟩;rw[<- hF]at hs hn hd;refine⟨trivial,?_⟩;refine⟨⟨Nat×CS,λx=>x.1<=t.length/\T8.Ok x.2 (1000000000000+(x.1:Int))/\chN p x.2 (t.drop x.1)=F,λx=>[(9,.int .i64 (x.1:Int)),(8,.fown 1 x.2.x 0)],λx=>[(1,.fam λq=>noO 1 (x.2.N q))],λx=>t.length-x.1⟩,(0,⟨N,c,r⟩),?_,?_,?_⟩
 .exact ⟨aS _,by simp[*],hF.symm⟩
 .repeat' (first|apply aA|exact trivial|exact rfl|exact zm N rfl|fail)
 rintro⟨j,M,k,x⟩ ⟨(k0:j<=t.length),(k1:T8.Ok ⟨M,k,x⟩ (1000000000000+(j:Int))),(k2:chN p ⟨M,k,x⟩ (t.drop j)=F)⟩;obtain⟨a,n,m,sz,mk,hx⟩:isNode M x:=k1.nd;obtain⟨l,q,hm⟩:∃l q,M m=.map l q:=k1.cl.kids _ _ _ _ _ _ hx;have hb:=k1.bd _ _ _ _ _ _ hx;have p1:=Y8 p;have p2:=Y7 p;have g1:-9223372036854775808<=sz+dv p:=by omega
 have g2:sz+dv p<=9223372036854775807:=by omega
 refine aB (noO 1 (.node a n m sz mk)) (aA (congrArg (noO 1) hx) ?_);repeat' (first|apply aA|(with_reducible first|exact g1|exact g2))
 refine aB (noO 1 (.node a n m sz mk)) (aA (congrArg (noO 1) hx) ?_);refine aB (noO 1 (.node a n m (sz+dv p) mk)) (aA (vJ x _ _) ?_);repeat' (first|refine aA ?_ ?_)
 .refine λ(h:decide ((j:Int)=(t.length:Int))=true)=>?_;have hj:j=t.length:=by grind
  have hfin:F=⟨bump p M x,k,x⟩:=by rw[<- k2,hj,iQ]; rfl
  subst hfin;have hN:bump p M x=put M x (.node a n m (sz+dv p) []):=nS hx;have hc1:Cl (put M x (.node a n m (sz+dv p) [])) k:=by rw[<- hN]; exact(Ok.bump (p:=p) k1).cl
  have hv:put M x (.node a n m (sz+dv p) []) x=.node a n m (sz+dv p) []:=dW _ _ _;have hl:=hc1.lst _ _ _ _ _ _ hv;have hidl:=qE hl;have hf0:=hc1.free k (aN _);simp only[hN,qW hv]at hs hn hd;rw[hidl]at hn;cases p
  .have hd':=hd rfl;refine aB (PX.mk (put M x (.node a n m (sz+dv false) [])) x a n m (sz+dv false) [] 0 t i) (aB [1,2] ?_);repeat' (first|apply aA|exact trivial|exact rfl|(with_reducible first|exact hv|exact hl|exact hs|exact hn|exact hd')|exact sX (nG (by exact rfl)) (λi=>oS (by exact rfl) (M i))|fail)
   have he:iL false (HX.mk false N c r t i).fin.N (HX.mk false N c r t i).fin.x 0 i=nB (PX.mk (put M x (.node a n m (sz+dv false) [])) x a n m (sz+dv false) [] 0 t i):=by
    rw[<- hF];show iL false (bump false M x) x 0 i=_;rw[hN];simp only[iL,hv];rfl
   refine λ(_:Unit) (_:True)=>?_;refine aB (0:Nat) ?_;repeat' (first|apply aA|exact trivial|exact rfl|exact zf|exact sub_eq he (λi=>mL (by exact rfl) (by exact rfl) _)|fail)
  .repeat' (first|fail)
   refine aB (PX.mk (put M x (.node a n m (sz+dv true) [])) x a n m (sz+dv true) [] k t i) (aB [1,2] ?_);repeat' (first|apply aA|exact trivial|exact rfl|(with_reducible first|exact hv|exact hl|exact hs|exact hn|exact hf0)|exact sX (nG (by exact rfl)) (λi=>oS (by exact rfl) (M i))|fail)
   have he:∀y,iL true (HX.mk true N c r t i).fin.N (HX.mk true N c r t i).fin.x y i=aFr (PX.mk (put M x (.node a n m (sz+dv true) [])) x a n m (sz+dv true) [] k t i) y:=by
    intro y;rw[<- hF];show iL true (bump true M x) x y i=_;rw[hN];simp only[iL,hv];rfl
   refine λ(y:Nat) (hy:(y=a/\fC (put M x (.node a n m (sz+dv true) [])) a≠[])\/y=k)=>?_;have hy':true=true->(y=Ew (HX.mk true N c r t i).fin.N (HX.mk true N c r t i).fin.x/\fC (HX.mk true N c r t i).fin.N y≠[])\/y=(HX.mk true N c r t i).fin.c:=by
    intro _;rw[<- hF];show(y=Ew (bump true M x) x/\fC (bump true M x) y≠[])\/y=k;rw[hN];rcases hy with⟨rfl,h⟩|h
    .grind [Ew]
    omega
   refine aB y ?_;repeat' (first|apply aA|exact trivial|exact rfl|with_reducible exact hy' rfl|refine zt ?_|exact sub_eq (he y) (λi=>mL (by exact rfl) (by exact rfl) _)|fail)
 .refine λ(h:decide ((j:Int)=(t.length:Int))=false)=>?_;have hj:j<t.length:=by grind
  have g3:(0:Int)<=(j:Int):=by omega
  have g4:(j:Int)<(t.length:Int):=by omega
  have hdr:t.drop j=t.getD j 0::t.drop (j+1):=by simp[*]
  obtain⟨b,hbb⟩:∃b,b=t.getD j 0:=⟨_,rfl⟩;repeat' (first|apply aA|exact trivial|(with_reducible first|exact g3|exact g4))
  have hmx:m≠x:=sN hx hm;have hfm:(bif Nat.beq m x then noO 1 (.node a n m (sz+dv p) [])else bif Nat.beq m x then noO 1 (.node a n m (sz+dv p) mk)else noO 1 (M m))=noO 1 (.map l q):=by grind[Dh]
  refine aB (noO 1 (.node a n m (sz+dv p) [])) (aA (vJ x _ _) ?_);repeat' (first|apply aA|exact trivial)
  refine aB (noO 1 (.map l q)) (aA hfm ?_);have hN:bump p M x=put M x (.node a n m (sz+dv p) []):=nS hx;have hv:put M x (.node a n m (sz+dv p) []) x=.node a n m (sz+dv p) []:=dW _ _ _;have hm1:put M x (.node a n m (sz+dv p) []) m=.map l q:=(bS hmx).trans hm;have hk1:Ok ⟨put M x (.node a n m (sz+dv p) []),k,x⟩ (1000000000000+(j:Int)+1):=by rw[<- hN]; exact Ok.bump (p:=p) k1
  have hst:=Ok.step (p:=p) hk1 (by omega) (t.getD j 0);have k3:chN p (stN p ⟨put M x (.node a n m (sz+dv p) []),k,x⟩ (t.getD j 0)) (t.drop (j+1))=F:=by rw[<- k2,hdr,<- hN]; rfl
  cases hl:mget l (fY (t.getD j 0)) with
  |none =>
   refine mZ.E4 hl ?_;repeat' (first|apply aA|exact trivial|exact zh|refine zt ?_|fail)
   have hxk:x<k:=k1.cl.lt (by simp[*]);have hmk:m<k:=k1.cl.lt (by simp[*]);have hx2:jX (put M x (.node a n m (sz+dv p) [])) k x=.node a n m (sz+dv p) []:=(tM hxk).trans hv;have hm2:jX (put M x (.node a n m (sz+dv p) [])) k m=.map l q:=(tM hmk).trans hm1;have g7:((0:Int)+dv p)≠0:=aEg p;have g5:-9223372036854775808<=(0:Int)+dv p:=by omega
   have g6:(0:Int)+dv p<=9223372036854775807:=by omega
   have hcl:Cl (put M x (.node a n m (sz+dv p) [])) k:=hk1.cl;have hkid:yR (put M x (.node a n m (sz+dv p) [])) x (t.getD j 0)=none:=by grind[pE]
   have hstn:stN p ⟨put M x (.node a n m (sz+dv p) []),k,x⟩ (t.getD j 0)=⟨put (jX (put M x (.node a n m (sz+dv p) [])) k) m (.map (l++[(fY (t.getD j 0),k+1,q)]) (q+1)),k+3,k+1⟩:=by
    grind[stN,tE]
   rw[hstn]at hst k3;refine aB (put M x (.node a n m (sz+dv p) []),k) (aB [1] ?_);repeat' (first|apply aA|exact trivial|exact sX (nG (by exact rfl)) (λi=>oS (by exact rfl) (M i))|exact hcl)
   refine λ(_:Unit) (_:True)=>?_;repeat' (first|apply aA|exact trivial|(with_reducible first|exact g3|exact g4))
   refine aB (rnO [(0,1)] [(1,0)] (noO 0 (.node a n m (sz+dv p) []))) (aA (by grind) ?_);repeat' (first|apply aA|exact trivial)
   refine aB (rnO [(0,1)] [(1,0)] (noO 0 (.map l q))) (aA (by grind) ?_);repeat' (first|apply aA|exact rfl)
   refine mZ.E4 hl ?_;repeat' (first|apply aA|exact trivial)
   have hkm:k+1≠m:=by omega
   have k0':j+1<=t.length:=hj;have hb2:T8.Ok ⟨put (jX (put M x (.node a n m (sz+dv p) [])) k) m (.map (l++[(fY (t.getD j 0),k+1,q)]) (q+1)),k+3,k+1⟩ (1000000000000+((j+1:Nat):Int)):=by
    grind
   have hme:t.length-(j+1)<t.length-j:=by omega
   have g8:-9223372036854775808<=(j:Int)+1:=by omega
   have g9:(j:Int)+1<=9223372036854775807:=by omega
   refine aB (rnO [(0,1)] [(1,0)] (noO 0 (.node (k+2) 0 k 0 []))) (aA ((aAk hkm _ _).trans (congrArg (λo=>rnO [(0,1)] [(1,0)] (noO 0 o)) wI)) ?_);repeat' (first|apply aA|(with_reducible first|exact g5|exact g6))
   .exact (by grind)
   .refine λ(_:decide ((0:Int)+dv p=0)=false)=>?_;repeat' (first|apply aA|(with_reducible first|exact g8|exact g9))
    refine aB (j+1,⟨put (jX (put M x (.node a n m (sz+dv p) [])) k) m (.map (l++[(fY (t.getD j 0),k+1,q)]) (q+1)),k+3,k+1⟩) ?_;repeat' (first|apply aA|exact trivial|exact rfl|(with_reducible first|exact k0'|exact hb2|exact k3|exact hme)|exact rF (U8 λv=>rfl) (λi=>mL (by exact rfl) (by exact rfl) _)|fail)
  |some e =>
   obtain⟨v,w⟩:=e;refine mZ.zI hl ?_;repeat' (first|apply aA|exact trivial|exact zf|refine zt ?_|fail)
   have hkid:yR (put M x (.node a n m (sz+dv p) [])) x (t.getD j 0)=some v:=by grind[pE]
   obtain⟨a1,n1,m1,sz1,mk1,hv1⟩:isNode (put M x (.node a n m (sz+dv p) [])) v:=hk1.cl.kid hkid;have hf:∀u,(bif Nat.beq u x then noO 1 (.node a n m (sz+dv p) [])else bif Nat.beq u x then noO 1 (.node a n m (sz+dv p) mk)else noO 1 (M u))=noO 1 (put M x (.node a n m (sz+dv p) []) u):=by
    grind[put]
   have hb1:=hk1.bd _ _ _ _ _ _ hv1;have g5:-9223372036854775808<=sz1+dv p:=by omega
   have g6:sz1+dv p<=9223372036854775807:=by omega
   have g8:-9223372036854775808<=(j:Int)+1:=by omega
   have g9:(j:Int)+1<=9223372036854775807:=by omega
   have k0':j+1<=t.length:=hj;have hme:t.length-(j+1)<t.length-j:=by omega
   have hcast:(1000000000000+((j+1:Nat):Int))=1000000000000+(j:Int)+1:=by omega
   have hstn:stN p ⟨put M x (.node a n m (sz+dv p) []),k,x⟩ (t.getD j 0)=⟨if sz1+dv p=0 then put (put M x (.node a n m (sz+dv p) [])) m (.map (mdel l (fY (t.getD j 0))) q)else put M x (.node a n m (sz+dv p) []),k,v⟩:=by
    grind[stN,zX,H7]
   rw[hstn]at hst k3;refine aB (noO 1 (.node a1 n1 m1 sz1 mk1)) (aA ((hf v).trans (congrArg (noO 1) hv1)) ?_);repeat' (first|apply aA|(with_reducible first|exact g5|exact g6))
   .refine λ(h0:decide (sz1+dv p=0)=true)=>?_;rw[if_pos (of_decide_eq_true h0)]at hst k3;have hb2:T8.Ok ⟨put (put M x (.node a n m (sz+dv p) [])) m (.map (mdel l (fY (t.getD j 0))) q),k,v⟩ (1000000000000+((j+1:Nat):Int)):=by grind
    repeat' (first|apply aA|exact trivial|(with_reducible first|exact g3|exact g4))
    refine aB (noO 1 (.node a n m (sz+dv p) [])) (aA (vJ x _ _) ?_);repeat' (first|apply aA|exact trivial)
    refine aB (noO 1 (.map l q)) (aA hfm ?_);repeat' (first|apply aA|exact trivial|(with_reducible first|exact g8|exact g9))
    refine aB (j+1,⟨put (put M x (.node a n m (sz+dv p) [])) m (.map (mdel l (fY (t.getD j 0))) q),k,v⟩) ?_;repeat' (first|apply aA|exact trivial|exact rfl|(with_reducible first|exact k0'|exact hb2|exact k3|exact hme)|exact rF (U8 λv=>rfl) (sX (nG (by exact rfl)) (λi=>oS (by exact rfl) (M i)))|fail)
   .refine λ(h0:decide (sz1+dv p=0)=false)=>?_;rw[if_neg (of_decide_eq_false h0)]at hst k3;have hb2:T8.Ok ⟨put M x (.node a n m (sz+dv p) []),k,v⟩ (1000000000000+((j+1:Nat):Int)):=by grind
    repeat' (first|apply aA|(with_reducible first|exact g8|exact g9))
    refine aB (j+1,⟨put M x (.node a n m (sz+dv p) []),k,v⟩) ?_;repeat' (first|apply aA|exact trivial|exact rfl|(with_reducible first|exact k0'|exact hb2|exact k3|exact hme)|exact sX (nG (by exact rfl)) (λi=>oS (by exact rfl) (M i))|fail)
end T9
end
section
set_option maxHeartbeats 10000000
open Go Go.Eng Go.Proofs
set_option maxRecDepth 100000
namespace L1
def nE(s:List UInt8)(c:Int)(f:Nat->Int)(j:Nat):Int:=bif s.any (λb=>Nat.beq b.toNat j)then c else f j
def g117:List Nat:=[11,0,1,4]
def c117:aY :=
 .seq (.region g117 [(zo 4 (.move (cj 0)))]) (.seq (.seq (.region g117 [(mv 5 1),(mv 6 0),(zo 7 (.nilCheck (.s 6))),(fa 8 0 7),(ld 9 8),(zo 10 (.lenStr (.s 9))),(zo 11 (.bin (.geq) (.s 5) (.s 10)))]) (.cond (.s 11) (.seq (.region g117 [(zo 4 (.move (cj 0)))]) .ret) .skip)) (.seq (.drawn g117 (.pure 0 (mv 12 0) (.pure 1 (mv 13 0) (.pure 2 (zo 14 (.nilCheck (.s 13))) (.pure 3 (fa 15 0 14) (.pure 4 (ld 16 15) (.pure 5 (mv 17 1) (.pure 6 (zo 18 (.idxStr (.s 16) (.s 17))) (.pure 7 (zo 19 (.nilCheck (.s 12))) (.pure 8 (fa 20 1 19) (.pure 9 (zo 21 (.idxArr 256 1 (.s 20) (.s 18))) (.pure 10 (ld 22 21) (.pure 11 (mv 4 22) .done))))))))))))) .ret))
theorem e117:bO Tryz.prog 117 g117 [] [] []=some (c117,[.slot 4],23):=by kernel_rfl
def AtX:=List UInt8×(Nat->Int)×Int
def atV(t:List UInt8)(f:Nat->Int)(i:Int):Int:=bif decide (i>=(t.length:Int))then 0 else f (t.getD i.toNat 0).toNat
def atS:Eng.Spec where
 X:=AtX
 args:=λx=>.cons (.cptr (.cons (.str x.1) (.ints .i64 256 x.2.1 .nil))) (.cons (.int .i64 x.2.2) .nil)
 pre:=λx=>0<=x.2.2
 res:=λx=>.int .i64 (atV x.1 x.2.1 x.2.2)
 inst:=λs=>match s with
  |.cons (.cptr (.cons (.str t) (.ints _ _ f _))) (.cons (.int _ i) _)=>some (t,f,i)
  |_=>none
theorem B4:atS.Ok Tryz.prog 117:=by
 refine Eng.Spec.uA e117 .nil (λ_=>[]) (λ_ _=>aO.nil) ?_;rintro⟨t,f,i⟩ (h0:0<=i);refine⟨trivial,?_⟩;repeat' (first|refine aA ?_ ?_)
 .refine λ(hg:decide ((t.length:Int)<=i)=true)=>?_;have e:0=atV t f i:=by
   grind[atV]
  repeat' (first|apply aA|exact rfl|exact e)
 .refine λ(hg:decide ((t.length:Int)<=i)=false)=>?_;have h1:i<(t.length:Int):=Int.not_le.1 (of_decide_eq_false hg);have h2:(0:Int)<=((t.getD i.toNat 0).toNat:Int):=by omega
  have h3:((t.getD i.toNat 0).toNat:Int)<256:=by have:=(t.getD i.toNat 0).toNat_lt; omega
  have e:f ((t.getD i.toNat 0).toNat:Int).toNat=atV t f i:=by
   grind[atV]
  repeat' (first|apply aA|exact rfl|exact h0|exact h1|exact h2|exact h3|exact e)
def g115:List Nat:=[9,0,1,2,5]
def c115:aY :=
 .seq (.region g115 [(zo 5 (.move (cj 0)))]) (.block 0 (.loop 0 [6,7,8,9,12,13,14,15,16,10,11,5] (.seq (.seq (.region g115 [(mv 6 5),(mv 7 0),(zo 8 (.lenStr (.s 7))),(zo 9 (.bin (.lss) (.s 6) (.s 8)))]) (.cond (.s 9) .skip (.exit 0))) (.seq (.block 1 (.region g115 [(mv 12 0),(mv 13 5),(zo 14 (.idxStr (.s 12) (.s 13))),(mv 15 1),(zo 16 (.idxArr 256 1 (.s 2) (.s 14))),⟨none,none,.store 1 (.s 16) (.s 15),[]⟩])) (.region g115 [(mv 10 5),(zo 11 (.bin (.add) (.s 10) (cj 1))),(mv 5 11)])))))
theorem e115:bO Tryz.prog 115 g115 [] [] []=some (c115,[],17):=by kernel_rfl
theorem Uv{c:Int}{f:Nat->Int}{i:Nat}{s:List UInt8}:f i=nE (s.take 0) c f i:=by simp[nE]
theorem Uw{s:List UInt8}{c:Int}{f:Nat->Int}{k:Nat}(h:k<s.length)(i:Nat):(bif Nat.beq i (((s.getD (k:Int).toNat 0).toNat:Int).toNat+0)then c else nE (s.take k) c f i)=nE (s.take (k+1)) c f i:=by
 unfold nE;rw[List.take_succ_eq_append_getElem h,List.any_append];simp only[cM,Nat.add_zero,aK,aM h,dR,List.any_cons,List.any_nil,Bool.or_false]
 grind[nbeq]
def aFz:Eng.bC where
 X:=List UInt8×Int×(Nat->Int)
 Y:=Nat->Int
 args:=λx=>.cons (.str x.1) (.cons (.int .i64 x.2.1) (.cons (.own 0 0) .nil))
 pre:=λx=>x.1.length<=1000
 h0:=λx=>[(0,.cells 124 (.ints .i64 256 x.2.2 .nil))]
 nx0:=1
 post:=λx y=>y=nE x.1 x.2.1 x.2.2
 res:=λ_ _=>.tup .nil
 h1:=λ_ y=>[(0,.cells 124 (.ints .i64 256 y .nil))]
 nx1:=1
theorem aDj:aFz.Ok Tryz.prog 115:=by
 refine Eng.bC.uA e115 .nil (λ_=>[]) (λ_ _=>aO.nil) ?_;rintro⟨s,c,f⟩ (hs:s.length<=1000);refine⟨trivial,?_⟩;refine⟨⟨Nat,λk=>k<=s.length,λk=>[(5,.int .i64 (k:Int))],λk=>[(0,.cells 124 (.ints .i64 256 (nE (s.take k) c f) .nil))],λk=>s.length-k⟩,0,aS _,?_,?_⟩
 .repeat' (first|apply aA|exact trivial|exact rfl|grind[Uv]|fail)
 rintro(k:Nat) (hk:k<=s.length);repeat' (first|refine aA ?_ ?_)
 .refine λ(hg:decide ((k:Int)<(s.length:Int))=true)=>?_;have h1:(k:Int)<(s.length:Int):=of_decide_eq_true hg;have h0:(0:Int)<=(k:Int):=by omega
  have h2:(0:Int)<=((s.getD (k:Int).toNat 0).toNat:Int):=by omega
  have h3:((s.getD (k:Int).toNat 0).toNat:Int)<256:=by have:=(s.getD (k:Int).toNat 0).toNat_lt; omega
  have h4:((s.getD (k:Int).toNat 0).toNat:Int).toNat<256-0:=by omega
  have b1:-9223372036854775808<=(k:Int)+1:=by omega
  have b2:(k:Int)+1<=9223372036854775807:=by omega
  have hkl:k<s.length:=by omega
  repeat' (first|refine aA ?_ ?_)
  .exact h0
  .exact h1
  .exact h2
  .exact h3
  .exact h4
  .exact b1
  .exact b2
  refine aB (k+1) ?_;repeat' (first|apply aA|exact trivial|exact rfl)
  .omega
  .exact λ(i:Nat) (_:i<256)=>Uw hkl i
  grind
 .refine λ(hg:decide ((k:Int)<(s.length:Int))=false)=>?_;have h1:¬(k:Int)<(s.length:Int):=of_decide_eq_false hg;have hkl:k=s.length:=by omega
  subst hkl;repeat' (first|apply aA|exact trivial|exact rfl|(refine aB (nE s c f) ?_)|fail)
  simp
end L1
end
section
set_option maxHeartbeats 10000000
open Go Go.Eng Go.Proofs L1
set_option maxRecDepth 100000
namespace L2
def f0:Nat->Int:=λ_=>0
def t1:List UInt8:=[97,98,99,100,101,102,103,104,105,106,107,108,109,110,111,112,113,114,115,116,117,118,119,120,121,122,65,66,67,68,69,70,71,72,73,74,75,76,77,78,79,80,81,82,83,84,85,86,87,88,89,90]
def f1:Nat->Int:=nE t1 3 f0
def t2:List UInt8:=[48,49,50,51,52,53,54,55,56,57]
def f2:Nat->Int:=nE t2 4 f1
def t3:List UInt8:=[95]
def f3:Nat->Int:=nE t3 5 f2
def t4:List UInt8:=[32,9,10]
def f4:Nat->Int:=nE t4 1 f3
def t5:List UInt8:=[35]
def f5:Nat->Int:=nE t5 2 f4
def t6:List UInt8:=[34]
def f6:Nat->Int:=nE t6 6 f5
def t7:List UInt8:=[33]
def f7:Nat->Int:=nE t7 7 f6
def t8:List UInt8:=[60,62]
def f8:Nat->Int:=nE t8 8 f7
def t9:List UInt8:=[59,44,46,58,40,41,91,93,123,125,61,43,45]
def f9:Nat->Int:=nE t9 9 f8
abbrev cls:=f9
def g93:List Nat:=[2,1,0]
def c93:aY :=
 .seq (.region g93 [(zo 0 (.alloc 124 (.zeros .i64 256 .nil)))]) (.seq (.region g93 [(zo 1 (.alloc 124 (.zeros .i64 256 .nil)))]) (.seq (.region g93 [(zo 3 (.mkfn 115 [.s 1])),(mv 2 3)]) (.seq (.region g93 [(mv 4 2),(zo 5 (.call (.s 4) [.c (.str [97,98,99,100,101,102,103,104,105,106,107,108,109,110,111,112,113,114,115,116,117,118,119,120,121,122,65,66,67,68,69,70,71,72,73,74,75,76,77,78,79,80,81,82,83,84,85,86,87,88,89,90]),cj 3]))]) (.seq (.region g93 [(mv 6 2),(zo 7 (.call (.s 6) [.c (.str [48,49,50,51,52,53,54,55,56,57]),cj 4]))]) (.seq (.region g93 [(mv 8 2),(zo 9 (.call (.s 8) [.c (.str [95]),cj 5]))]) (.seq (.region g93 [(mv 10 2),(zo 11 (.call (.s 10) [.c (.str [32,9,10]),cj 1]))]) (.seq (.region g93 [(mv 12 2),(zo 13 (.call (.s 12) [.c (.str [35]),cj 2]))]) (.seq (.region g93 [(mv 14 2),(zo 15 (.call (.s 14) [.c (.str [34]),cj 6]))]) (.seq (.region g93 [(mv 16 2),(zo 17 (.call (.s 16) [.c (.str [33]),cj 7]))]) (.seq (.region g93 [(mv 18 2),(zo 19 (.call (.s 18) [.c (.str [60,62]),cj 8]))]) (.seq (.region g93 [(mv 20 2),(zo 21 (.call (.s 20) [.c (.str [59,44,46,58,40,41,91,93,123,125,61,43,45]),cj 9]))]) (.seq (.region g93 [(zo 22 (.load 256 true (.s 1))),⟨none,none,.store 256 (.s 0) (.s 22),[]⟩]) .ret))))))))))))
theorem e93:bO Tryz.prog 93 g93 [] [] []=some (c93,[.cell 0 256 true],23):=by kernel_rfl
def aD5:Eng.Spec where
 X:=Unit
 args:=λ_=>.nil
 pre:=λ_=>True
 res:=λ_=>.agg (.ints .i64 256 cls .nil)
 inst:=λ_=>some ()
theorem aAs:aD5.Ok Tryz.prog 93:=by
 refine Eng.Spec.uA e93 .nil (λ_=>[(115,.m aFz)]) (λ_ _=>aO.m aDj aO.nil) ?_;rintro⟨⟩ _;refine⟨trivial,?_⟩;refine aB (t1,3,f0) (aB [1] ?_);repeat' (first|apply aA|exact trivial|exact rfl|exact(by decide:t1.length<=1000)|exact λ(i:Nat) (_:i<256)=>rfl|fail)
 refine λ(y1:Nat->Int) (hy1:y1=nE t1 3 f0)=>?_;refine aB (t2,4,y1) (aB [1] ?_);repeat' (first|apply aA|exact trivial|exact rfl|exact(by decide:t2.length<=1000)|exact λ(i:Nat) (_:i<256)=>rfl|fail)
 refine λ(y2:Nat->Int) (hy2:y2=nE t2 4 y1)=>?_;refine aB (t3,5,y2) (aB [1] ?_);repeat' (first|apply aA|exact trivial|exact rfl|exact(by decide:t3.length<=1000)|exact λ(i:Nat) (_:i<256)=>rfl|fail)
 refine λ(y3:Nat->Int) (hy3:y3=nE t3 5 y2)=>?_;refine aB (t4,1,y3) (aB [1] ?_);repeat' (first|apply aA|exact trivial|exact rfl|exact(by decide:t4.length<=1000)|exact λ(i:Nat) (_:i<256)=>rfl|fail)
 refine λ(y4:Nat->Int) (hy4:y4=nE t4 1 y3)=>?_;refine aB (t5,2,y4) (aB [1] ?_);repeat' (first|apply aA|exact trivial|exact rfl|exact(by decide:t5.length<=1000)|exact λ(i:Nat) (_:i<256)=>rfl|fail)
 refine λ(y5:Nat->Int) (hy5:y5=nE t5 2 y4)=>?_;refine aB (t6,6,y5) (aB [1] ?_);repeat' (first|apply aA|exact trivial|exact rfl|exact(by decide:t6.length<=1000)|exact λ(i:Nat) (_:i<256)=>rfl|fail)
 refine λ(y6:Nat->Int) (hy6:y6=nE t6 6 y5)=>?_;refine aB (t7,7,y6) (aB [1] ?_);repeat' (first|apply aA|exact trivial|exact rfl|exact(by decide:t7.length<=1000)|exact λ(i:Nat) (_:i<256)=>rfl|fail)
 refine λ(y7:Nat->Int) (hy7:y7=nE t7 7 y6)=>?_;refine aB (t8,8,y7) (aB [1] ?_);repeat' (first|apply aA|exact trivial|exact rfl|exact(by decide:t8.length<=1000)|exact λ(i:Nat) (_:i<256)=>rfl|fail)
 refine λ(y8:Nat->Int) (hy8:y8=nE t8 8 y7)=>?_;refine aB (t9,9,y8) (aB [1] ?_);repeat' (first|apply aA|exact trivial|exact rfl|exact(by decide:t9.length<=1000)|exact λ(i:Nat) (_:i<256)=>rfl|fail)
 refine λ(y9:Nat->Int) (hy9:y9=nE t9 9 y8)=>?_;repeat' (first|apply aA|exact trivial|exact rfl)
 have e:y9=cls:=by rw[hy9,hy8,hy7,hy6,hy5,hy4,hy3,hy2,hy1]; rfl
 simp_all
end L2
end
section
set_option maxHeartbeats 10000000
open Go Go.Eng Go.Proofs L1 L2 L3
set_option maxRecDepth 100000
namespace L4
def uV(f:Nat->Int)(n:Nat)(cs:Nat->Int)(b:UInt8):Bool:=decide (∃i,i<n/\cs i=f b.toNat)
structure WX where
 t:List UInt8
 f:Nat->Int
 i:Int
 n:Nat
 cs:Nat->Int
def whl(x:WX):Nat:=((x.t.drop x.i.toNat).takeWhile (uV x.f x.n x.cs)).length
theorem tw{p:UInt8->Bool}:∀(l:List UInt8) (k:Nat),k<=(l.takeWhile p).length->(k<(l.takeWhile p).length↔∃b,l[k]?=some b/\p b=true):=by
 intro l;induction l with
 |nil=>simp
 |cons a l ih =>
  intro k hk;cases hp:p a with
  |false =>
   simp_all
  |true =>
   rw[List.takeWhile_cons_of_pos hp]at hk ⊢;cases k with
   |zero=>simp[hp]
   |succ k =>
    simp_all
theorem vD{x:WX}:whl x<=x.t.length-x.i.toNat:=by
 grind[whl,List.takeWhile_prefix]
theorem Bl{t:List UInt8}{f:Nat->Int}{i:Int}{n:Nat}{cs:Nat->Int}{k:Nat}(h0:0<=i)(hk:k<=whl ⟨t,f,i,n,cs⟩) :
  bN (decide (i+(k:Int)<(t.length:Int))) (.s 19) cF (decide (∃j,j<n/\cs j=atV t f (i+(k:Int)))) false=decide (k<whl ⟨t,f,i,n,cs⟩):=by
 show(decide (i+(k:Int)<(t.length:Int)) && decide (∃j,j<n/\cs j=atV t f (i+(k:Int))))=_;rw[bH,aI,decide_eq_true_iff,decide_eq_true_iff,decide_eq_true_iff];unfold whl at hk ⊢;rw[tw _ _ hk];dsimp only;rw[cY];have e:(i+(k:Int)).toNat=i.toNat+k:=by omega
 constructor
 .rintro ⟨h1,h2⟩;have h3:i.toNat+k<t.length:=by omega
  refine⟨t[i.toNat+k],aM h3,?_⟩;unfold uV;unfold atV at h2
  grind
 .rintro ⟨b,h1,h2⟩;obtain⟨h3,rfl⟩:=bZ.1 h1;refine⟨by omega,?_⟩;unfold uV at h2;unfold atV
  grind
def g116:List Nat:=[2,0,20,1,6]
def c116:aY :=
 .seq (.region g116 [(zo 6 (.move (cj 0)))]) (.seq (.block 0 (.loop 0 [7,8,9,10,11,12,13,14,15,16,17,18,19,20,21,22,1] (.seq (.seq (.region g116 [(mv 7 1),(mv 8 0),(zo 9 (.nilCheck (.s 8))),(fa 10 0 9),(ld 11 10),(zo 12 (.lenStr (.s 11))),(zo 13 (.bin (.lss) (.s 7) (.s 12))),(mv 14 13),(mg 15 14 true 2),(mg 16 14 true 0),(mg 17 14 true 1),(zg 18 14 true (.call (.c (.fn 117)) [.s 16,.s 17])),(zg 19 14 true (.call (.c (.fn 137)) [.s 15,.s 18])),(zo 20 (.pick (.s 14) (.s 19) cF))]) (.cond (.s 20) .skip (.exit 0))) (.block 1 (.region g116 [(mv 21 1),(zo 22 (.bin (.add) (.s 21) (cj 1))),(mv 1 22)]))))) (.seq (.region g116 [(mv 23 1),(mv 6 23)]) .ret))
theorem e116:bO Tryz.prog 116 g116 [] [] []=some (c116,[.slot 6],24):=by kernel_rfl
def aDq:Eng.Spec where
 X:=WX
 args:=λx=>.cons (.cptr (.cons (.str x.t) (.ints .i64 256 x.f .nil))) (.cons (.int .i64 x.i) (.cons (.slice 1 x.n λi=>.cons (.int .i64 (x.cs i)) .nil) .nil))
 pre:=λx=>0<=x.i/\x.i<=(x.t.length:Int)/\x.t.length<=1000000/\x.n<=1000000
 res:=λx=>.int .i64 (x.i+(whl x:Nat))
 inst:=λs=>match s with
  |.cons (.cptr (.cons (.str t) (.ints _ _ f _))) (.cons (.int _ i) (.cons l _))=>match Em l with
   |some (n,cs)=>some ⟨t,f,i,n,cs⟩
   |none=>none
  |_=>none
theorem Vk:aDq.Ok Tryz.prog 116:=by
 refine Eng.Spec.uA e116 .nil (λ_=>[(117,.p atS),(137,.p aD9)]) (by grind[aO.p,B4,aAw,aO.nil]) ?_;rintro⟨t,f,i,n,cs⟩ ⟨(h0:0<=i),(h1:i<=(t.length:Int)),(h2:t.length<=1000000),(h3:n<=1000000)⟩;refine⟨trivial,?_⟩;refine⟨⟨Nat,λk=>k<=whl ⟨t,f,i,n,cs⟩,λk=>[(1,.int .i64 (i+(k:Int)))],λ_=>[],λk=>whl ⟨t,f,i,n,cs⟩-k⟩,0,aS _,?_,?_⟩
 .repeat' (first|apply aA|exact trivial|exact rfl|exact λ(j:Nat) (_:j<256)=>rfl|exact λ(j:Nat) (hj:j<_)=>Or.inl (sub_one _ _ _ _ _)|simp|fail)
 rintro(k:Nat) (hk:k<=whl ⟨t,f,i,n,cs⟩);have hik:0<=i+(k:Int):=by omega
 repeat' (first|apply aA|exact trivial|exact rfl|exact λ(j:Nat) (_:j<256)=>rfl|exact λ(j:Nat) (hj:j<_)=>Or.inl (sub_one _ _ _ _ _)|exact hik|exact h3|refine λ(_:decide (i+(k:Int)<(t.length:Int))=true)=>?_|fail)
 .refine λhg=>?_;have hg:bN (decide (i+(k:Int)<(t.length:Int))) (.s 19) cF (decide (∃j,j<n/\cs j=atV t f (i+(k:Int)))) false=true:=hg;rw[Bl h0 hk]at hg;have hlt:=of_decide_eq_true hg;have hle:=vD (x:=⟨t,f,i,n,cs⟩);have hle:whl ⟨t,f,i,n,cs⟩<=t.length-i.toNat:=hle;have b1:-9223372036854775808<=i+(k:Int)+1:=by omega
  have b2:i+(k:Int)+1<=9223372036854775807:=by omega
  repeat' (first|refine aA ?_ ?_)
  .exact b1
  .exact b2
  have e2:i+(k:Int)+1=i+((k+1:Nat):Int):=by omega
  refine aB (k+1) ?_;repeat' (first|apply aA|exact trivial|exact rfl|exact λ(j:Nat) (_:j<256)=>rfl|exact λ(j:Nat) (hj:j<_)=>Or.inl (sub_one _ _ _ _ _)|exact e2)
  .exact hlt
  grind
 .refine λhg=>?_;have hg:bN (decide (i+(k:Int)<(t.length:Int))) (.s 19) cF (decide (∃j,j<n/\cs j=atV t f (i+(k:Int)))) false=false:=hg;rw[Bl h0 hk]at hg;have hlt:=of_decide_eq_false hg;have e:i+(k:Int)=i+(whl ⟨t,f,i,n,cs⟩:Nat):=by omega
  repeat' (first|apply aA|exact rfl|exact e)
end L4
end
section
namespace Go.Proofs
open Go.Shelf
def Tryz.Gw:Go.Shelf.Ren:=⟨fun|137=>118|217=>138|266=>155|n=>n,fun|9=>9|5=>5|3=>3|n=>n,λn=>n⟩
theorem Tryz.lays137:Go.Proofs.Lays.n137 Tryz.prog Tryz.Gw:={
 mixed:=by kernel_rfl
 f137:=Tryz.func118.trans (congrArg some (by kernel_rfl))
 f217:=Tryz.func138.trans (congrArg some (by kernel_rfl))
 f266:=Tryz.func155.trans (congrArg some (by kernel_rfl))
 t3:=Tryz.underlying3
 a3:=Tryz.isAgg3
 z3:=Tryz.sizeOf3
 v3:=Tryz.zeroValue3
 t5:=Tryz.underlying5
 a5:=Tryz.isAgg5
 z5:=Tryz.sizeOf5
 v5:=Tryz.zeroValue5
 t9:=Tryz.underlying9
 a9:=Tryz.isAgg9
 z9:=Tryz.sizeOf9
 v9:=Tryz.zeroValue9 }
def Tryz.Jy:Go.Shelf.Ren:=⟨fun|99=>112|206=>135|n=>n,fun|9=>9|4=>4|3=>3|n=>n,λn=>n⟩
theorem Tryz.lays99:Go.Proofs.Lays.n99 Tryz.prog Tryz.Jy:={
 mixed:=by kernel_rfl
 f99:=Tryz.func112.trans (congrArg some (by kernel_rfl))
 f206:=Tryz.func135.trans (congrArg some (by kernel_rfl))
 t3:=Tryz.underlying3
 a3:=Tryz.isAgg3
 z3:=Tryz.sizeOf3
 v3:=Tryz.zeroValue3
 t4:=Tryz.underlying4
 a4:=Tryz.isAgg4
 z4:=Tryz.sizeOf4
 v4:=Tryz.zeroValue4
 t9:=Tryz.underlying9
 a9:=Tryz.isAgg9
 z9:=Tryz.sizeOf9
 v9:=Tryz.zeroValue9 }
end Go.Proofs
open Go Go.Eng Go.Proofs
namespace L5
theorem indexByte:oL.Ok Tryz.prog 118:=Ej Tryz.lays137 (enters_of Tryz.lays137.f137 (by kernel_rfl) rfl)
theorem hasPrefix:oJ.Ok Tryz.prog 112:=Eg Tryz.lays99 (enters_of Tryz.lays99.f99 (by kernel_rfl) rfl)
end L5
end
section
set_option maxHeartbeats 10000000
open Go Go.Eng Go.Proofs L1 L2 L3 L4
set_option maxRecDepth 100000
namespace L6
def w1(t:List UInt8)(f:Nat->Int)(j:Int):Int:=j+(whl ⟨t,f,j,1,λ_=>1⟩:Nat)
def nl(t:List UInt8)(j:Int):Int:=Lib.indexByte (t.drop j.toNat) 10
def tl(t:List UInt8)(f:Nat->Int):Nat->Int->Int
 |0,j=>j
 |m+1,j=>if atV t f j=2 then (if nl t j<0 then t.length else tl t f m (w1 t f (j+nl t j)))else j
def gap(t:List UInt8)(f:Nat->Int)(i:Int):Int:=tl t f (t.length+1) (w1 t f i)
theorem whl1{t:List UInt8}{f:Nat->Int}{j:Int}{cs:Nat->Int}(h:cs 0=1):whl ⟨t,f,j,1,cs⟩=whl ⟨t,f,j,1,λ_=>1⟩:=by
 have e:uV f 1 cs=uV f 1 λ_=>1:=by
  grind[uV]
 grind[whl]
theorem Ib{t:List UInt8}{f:Nat->Int}{j:Int}(h0:0<=j)(h1:j<=(t.length:Int)):j<=w1 t f j/\w1 t f j<=(t.length:Int):=by
 grind[vD,w1]
theorem Zq{t:List UInt8}{f:Nat->Int}{j:Int}(h0:0<=j)(h1:j<=(t.length:Int))(h3:f 10≠2)(hg:atV t f j=2)(hn:¬nl t j<0):nl t j+j<(t.length:Int)/\1<=nl t j:=by
 have hs:=Lib.indexByte_some (l:=t.drop j.toNat) (c:=10) (o:=(nl t j).toNat) (by show nl t j=_; omega);obtain⟨hs,_⟩:=hs;rw[cY]at hs;obtain⟨hl,he⟩:=bZ.1 hs;refine⟨by omega,?_⟩;by_cases e:nl t j=0
 .exfalso;apply h3;unfold atV at hg;have hj:¬(j>=(t.length:Int)):=by omega
  simp_all
 .omega
def g94:List Nat:=[13,26,5,0,1,4]
def c94:aY :=
 .seq (.region g94 [(zo 4 (.move (cj 0)))]) (.seq (.seq (.region g94 [(mv 6 0),(mv 7 1),(zo 8 (.buildSl 3 1 1 (.cons (.int .i64 0) .nil) [(0,1,cj 1)])),(zo 9 (.call (.c (.fn 116)) [.s 6,.s 7,.s 8])),(mv 1 9)]) (.block 0 (.loop 0 [10,11,12,13,18,19,20,21,22,23,24,5,25,26,27,28,29,30,31,4,32,33,34,14,15,16,17,1] (.seq (.seq (.region g94 [(mv 10 0),(mv 11 1),(zo 12 (.call (.c (.fn 117)) [.s 10,.s 11])),(zo 13 (.bin (.eql) (.s 12) (cj 2)))]) (.cond (.s 13) .skip (.exit 0))) (.seq (.block 1 (.seq (.region g94 [(mv 18 0),(zo 19 (.nilCheck (.s 18))),(fa 20 0 19),(ld 21 20),(mv 22 1),(zo 23 (.sliceStr (.s 21) (some (.s 22)) none)),(zo 24 (.call (.c (.fn 118)) [.s 23,.c (.int (.u8) 10)])),(mv 5 24)]) (.seq (.seq (.region g94 [(mv 25 5),(zo 26 (.bin (.lss) (.s 25) (cj 0)))]) (.cond (.s 26) (.seq (.region g94 [(mv 27 0),(zo 28 (.nilCheck (.s 27))),(fa 29 0 28),(ld 30 29),(zo 31 (.lenStr (.s 30))),(mv 4 31)]) .ret) .skip)) (.region g94 [(mv 32 1),(mv 33 5),(zo 34 (.bin (.add) (.s 32) (.s 33))),(mv 1 34)])))) (.region g94 [(mv 14 0),(mv 15 1),(zo 16 (.buildSl 3 1 1 (.cons (.int .i64 0) .nil) [(0,1,cj 1)])),(zo 17 (.call (.c (.fn 116)) [.s 14,.s 15,.s 16])),(mv 1 17)])))))) (.seq (.region g94 [(mv 35 1),(mv 4 35)]) .ret))
theorem e94:bO Tryz.prog 94 g94 [] [] []=some (c94,[.slot 4],36):=by kernel_rfl
def aEo:Eng.Spec where
 X:=AtX
 args:=atS.args
 pre:=λx=>0<=x.2.2/\x.2.2<=(x.1.length:Int)/\x.1.length<=1000000/\x.2.1 10≠2
 res:=λx=>.int .i64 (gap x.1 x.2.1 x.2.2)
 inst:=atS.inst
theorem aBk:aEo.Ok Tryz.prog 94:=by
 refine Eng.Spec.uA e94 .nil (λ_=>[(116,.p aDq),(117,.p atS),(118,.p oL)]) (by grind[aO.p,Vk,B4,L5.indexByte,aO.nil]) ?_;rintro⟨t,f,i⟩ ⟨(h0:0<=i),(h1:i<=(t.length:Int)),(h2:t.length<=1000000),(h3:f 10≠2)⟩;refine⟨trivial,?_⟩;repeat' (first|apply aA|exact trivial|exact rfl|exact λ(j:Nat) (_:j<256)=>rfl|exact h0|exact h1|exact h2)
 .exact (by decide:(1:Nat)<=1000000)
 have ew:∀(j:Int) (cs:Nat->Int),cs 0=1->j+((whl ⟨t,f,j,1,cs⟩:Nat):Int)=w1 t f j:=(by grind[w1,whl1]);refine⟨⟨Nat×Int,λx=>(0<=x.2/\x.2<=(t.length:Int))/\(t.length:Int)-x.2<x.1/\tl t f x.1 x.2=gap t f i,λx=>[(1,.int .i64 x.2)],λ_=>[],λx=>x.1⟩,(t.length+1,w1 t f i),?_,?_,?_⟩
 .obtain ⟨w2,w3⟩:=Ib (f:=f) h0 h1;exact⟨⟨by omega,w3⟩,by omega,rfl⟩
 .repeat' (first|apply aA|exact trivial|exact rfl|exact λ(j:Nat) (_:j<256)=>rfl|exact ew _ _ rfl|fail)
 rintro⟨m,j⟩ ⟨⟨(k0:0<=j),(k1:j<=(t.length:Int))⟩,(k2:(t.length:Int)-j<m),(k3:tl t f m j=gap t f i)⟩;obtain⟨m,rfl⟩:∃q,m=q+1:=⟨m-1,by omega⟩;repeat' (first|apply aA|exact trivial|exact rfl|exact λ(j:Nat) (_:j<256)=>rfl|exact k0)
 .refine λ(hg:decide (atV t f j=2)=true)=>?_;have hg:=of_decide_eq_true hg;rw[tl,if_pos hg]at k3;repeat' (first|apply aA|exact trivial|exact rfl|exact k0|exact k1)
  .refine λ(hn:decide (nl t j<0)=true)=>?_;have hn:=of_decide_eq_true hn;have e:(t.length:Int)=gap t f i:=by omega
   repeat' (first|apply aA|exact rfl|exact e)
  .refine λ(hn:decide (nl t j<0)=false)=>?_;have hn:=of_decide_eq_false hn;rw[if_neg hn]at k3;have n1:nl t j+j<(t.length:Int)/\1<=nl t j:=Zq k0 k1 h3 hg hn;obtain⟨n1,n2⟩:=n1;have b1:-9223372036854775808<=j+nl t j:=by omega
   have b2:j+nl t j<=9223372036854775807:=by omega
   have c1:0<=j+nl t j:=by omega
   have c2:j+nl t j<=(t.length:Int):=by omega
   repeat' (first|apply aA|exact trivial|exact rfl|exact λ(j:Nat) (_:j<256)=>rfl|exact b1|exact b2|exact c1|exact c2|exact h2)
   .exact (by decide:(1:Nat)<=1000000)
   obtain⟨w2,w3⟩:=Ib (f:=f) c1 c2;have w4:0<=w1 t f (j+nl t j):=by omega
   have w5:(t.length:Int)-w1 t f (j+nl t j)<(m:Int):=by omega
   refine aB (m,w1 t f (j+nl t j)) ?_;repeat' (first|apply aA|exact trivial|exact rfl|exact λ(j:Nat) (_:j<256)=>rfl|exact ew _ _ rfl|exact w4|exact w3|exact w5|exact k3)
   simp
 .refine λ(hg:decide (atV t f j=2)=false)=>?_;have hg:=of_decide_eq_false hg;have e:j=gap t f i:=by simp_all[tl]
  repeat' (first|apply aA|exact rfl|exact e)
end L6
end
section
namespace Go.Proofs
open Go.Shelf
set_option maxRecDepth 100000
def Tryz.Gu:Go.Shelf.Ren:=⟨fun|172=>119|244=>139|245=>140|247=>156|279=>157|280=>158|281=>159|282=>160|287=>173|316=>174|171=>52|205=>175|321=>182|322=>183|243=>76|246=>103|283=>126|284=>127|285=>128|286=>129|129=>146|317=>145|318=>147|319=>148|320=>149|337=>171|338=>172|n=>n,fun|9=>9|3=>3|75=>91|76=>92|4=>4|5=>5|167=>185|37=>87|0=>0|85=>186|2=>2|168=>188|53=>109|175=>200|46=>103|210=>203|127=>123|145=>216|143=>214|21=>21|171=>157|173=>160|212=>176|51=>163|20=>20|213=>177|232=>211|233=>212|80=>45|n=>n,fun|15=>4|16=>5|17=>0|18=>6|19=>7|n=>n⟩
theorem Tryz.Mn:Go.Proofs.LaysC.n172 Tryz.prog Tryz.Gu:={
 mixed:=by kernel_rfl
 f129:=Tryz.func146.trans (congrArg some (by kernel_rfl))
 f171:=Tryz.func52.trans (congrArg some (by kernel_rfl))
 f172:=Tryz.func119.trans (congrArg some (by kernel_rfl))
 f205:=Tryz.func175.trans (congrArg some (by kernel_rfl))
 f243:=Tryz.func76.trans (congrArg some (by kernel_rfl))
 f244:=Tryz.func139.trans (congrArg some (by kernel_rfl))
 f245:=Tryz.func140.trans (congrArg some (by kernel_rfl))
 f246:=Tryz.func103.trans (congrArg some (by kernel_rfl))
 f247:=Tryz.func156.trans (congrArg some (by kernel_rfl))
 f279:=Tryz.func157.trans (congrArg some (by kernel_rfl))
 f280:=Tryz.func158.trans (congrArg some (by kernel_rfl))
 f281:=Tryz.func159.trans (congrArg some (by kernel_rfl))
 f282:=Tryz.func160.trans (congrArg some (by kernel_rfl))
 f283:=Tryz.func126.trans (congrArg some (by kernel_rfl))
 f284:=Tryz.func127.trans (congrArg some (by kernel_rfl))
 f285:=Tryz.func128.trans (congrArg some (by kernel_rfl))
 f286:=Tryz.func129.trans (congrArg some (by kernel_rfl))
 f287:=Tryz.func173.trans (congrArg some (by kernel_rfl))
 f316:=Tryz.func174.trans (congrArg some (by kernel_rfl))
 f317:=Tryz.func145.trans (congrArg some (by kernel_rfl))
 f318:=Tryz.func147.trans (congrArg some (by kernel_rfl))
 f319:=Tryz.func148.trans (congrArg some (by kernel_rfl))
 f320:=Tryz.func149.trans (congrArg some (by kernel_rfl))
 f321:=Tryz.func182.trans (congrArg some (by kernel_rfl))
 f322:=Tryz.func183.trans (congrArg some (by kernel_rfl))
 f337:=Tryz.func171.trans (congrArg some (by kernel_rfl))
 f338:=Tryz.func172.trans (congrArg some (by kernel_rfl))
 t0:=Tryz.underlying0
 a0:=Tryz.isAgg0
 z0:=Tryz.sizeOf0
 v0:=Tryz.zeroValue0
 t2:=Tryz.underlying2
 a2:=Tryz.isAgg2
 z2:=Tryz.sizeOf2
 v2:=Tryz.zeroValue2
 t3:=Tryz.underlying3
 a3:=Tryz.isAgg3
 z3:=Tryz.sizeOf3
 v3:=Tryz.zeroValue3
 t4:=Tryz.underlying4
 a4:=Tryz.isAgg4
 z4:=Tryz.sizeOf4
 v4:=Tryz.zeroValue4
 t5:=Tryz.underlying5
 a5:=Tryz.isAgg5
 z5:=Tryz.sizeOf5
 v5:=Tryz.zeroValue5
 t9:=Tryz.underlying9
 a9:=Tryz.isAgg9
 z9:=Tryz.sizeOf9
 v9:=Tryz.zeroValue9
 t20:=Tryz.underlying20
 a20:=Tryz.isAgg20
 z20:=Tryz.sizeOf20
 v20:=Tryz.zeroValue20
 t21:=Tryz.underlying21
 a21:=Tryz.isAgg21
 z21:=Tryz.sizeOf21
 v21:=Tryz.zeroValue21
 t37:=Tryz.underlying87
 a37:=Tryz.isAgg87
 z37:=Tryz.sizeOf87
 v37:=Tryz.zeroValue87
 t46:=Tryz.underlying103
 a46:=Tryz.isAgg103
 z46:=Tryz.sizeOf103
 v46:=Tryz.zeroValue103
 t51:=Tryz.underlying163
 a51:=Tryz.isAgg163
 z51:=Tryz.sizeOf163
 v51:=Tryz.zeroValue163
 t53:=Tryz.underlying109
 a53:=Tryz.isAgg109
 z53:=Tryz.sizeOf109
 v53:=Tryz.zeroValue109
 t75:=Tryz.underlying91
 a75:=Tryz.isAgg91
 z75:=Tryz.sizeOf91
 v75:=Tryz.zeroValue91
 t76:=Tryz.underlying92
 a76:=Tryz.isAgg92
 z76:=Tryz.sizeOf92
 v76:=Tryz.zeroValue92
 t85:=Tryz.underlying186
 a85:=Tryz.isAgg186
 z85:=Tryz.sizeOf186
 v85:=Tryz.zeroValue186
 t127:=Tryz.underlying123
 a127:=Tryz.isAgg123
 z127:=Tryz.sizeOf123
 v127:=Tryz.zeroValue123
 t143:=Tryz.underlying214
 a143:=Tryz.isAgg214
 z143:=Tryz.sizeOf214
 v143:=Tryz.zeroValue214
 t145:=Tryz.underlying216
 a145:=Tryz.isAgg216
 z145:=Tryz.sizeOf216
 v145:=Tryz.zeroValue216
 t167:=Tryz.underlying185
 a167:=Tryz.isAgg185
 z167:=Tryz.sizeOf185
 v167:=Tryz.zeroValue185
 t168:=Tryz.underlying188
 a168:=Tryz.isAgg188
 z168:=Tryz.sizeOf188
 v168:=Tryz.zeroValue188
 t171:=Tryz.underlying157
 a171:=Tryz.isAgg157
 z171:=Tryz.sizeOf157
 v171:=Tryz.zeroValue157
 t173:=Tryz.underlying160
 a173:=Tryz.isAgg160
 z173:=Tryz.sizeOf160
 v173:=Tryz.zeroValue160
 t175:=Tryz.underlying200
 a175:=Tryz.isAgg200
 z175:=Tryz.sizeOf200
 v175:=Tryz.zeroValue200
 t210:=Tryz.underlying203
 a210:=Tryz.isAgg203
 z210:=Tryz.sizeOf203
 v210:=Tryz.zeroValue203
 t212:=Tryz.underlying176
 a212:=Tryz.isAgg176
 z212:=Tryz.sizeOf176
 v212:=Tryz.zeroValue176
 t213:=Tryz.underlying177
 a213:=Tryz.isAgg177
 z213:=Tryz.sizeOf177
 t232:=Tryz.underlying211
 a232:=Tryz.isAgg211
 z232:=Tryz.sizeOf211
 v232:=Tryz.zeroValue211
 t233:=Tryz.underlying212
 a233:=Tryz.isAgg212
 z233:=Tryz.sizeOf212
 v233:=Tryz.zeroValue212
 g15:=by kernel_rfl
 g16:=by kernel_rfl
 g17:=by kernel_rfl
 g18:=by kernel_rfl
 g19:=by kernel_rfl
 t80:=Tryz.underlying45
 a80:=Tryz.isAgg45
 z80:=Tryz.sizeOf45
 v80:=Tryz.zeroValue45
 i0:=by kernel_rfl
 i2:=by kernel_rfl
 i3:=by kernel_rfl
 i4:=by kernel_rfl
 i5:=by kernel_rfl
 i9:=by kernel_rfl
 i20:=by kernel_rfl
 i21:=by kernel_rfl
 i37:=by kernel_rfl
 i46:=by kernel_rfl
 i51:=by kernel_rfl
 i53:=by kernel_rfl
 i75:=by kernel_rfl
 i76:=by kernel_rfl
 i80:=by kernel_rfl
 i85:=by kernel_rfl
 i127:=by kernel_rfl
 i143:=by kernel_rfl
 i145:=by kernel_rfl
 i167:=by kernel_rfl
 i168:=by kernel_rfl
 i171:=by kernel_rfl
 i173:=by kernel_rfl
 i175:=by kernel_rfl
 i210:=by kernel_rfl
 i212:=by kernel_rfl
 i232:=by kernel_rfl
 i233:=by kernel_rfl
 m15:=by kernel_rfl
 m16:=by kernel_rfl
 m17:=by kernel_rfl
 m18:=by kernel_rfl
 m19:=by kernel_rfl
 c0:=by kernel_rfl
 c2:=by kernel_rfl
 c3:=by kernel_rfl
 c4:=by kernel_rfl
 c5:=by kernel_rfl
 c9:=by kernel_rfl
 c20:=by kernel_rfl
 c21:=by kernel_rfl
 c37:=by kernel_rfl
 c46:=by kernel_rfl
 c51:=by kernel_rfl
 c53:=by kernel_rfl
 c75:=by kernel_rfl
 c76:=by kernel_rfl
 c80:=by kernel_rfl
 c85:=by kernel_rfl
 c127:=by kernel_rfl
 c143:=by kernel_rfl
 c145:=by kernel_rfl
 c167:=by kernel_rfl
 c168:=by kernel_rfl
 c171:=by kernel_rfl
 c173:=by kernel_rfl
 c175:=by kernel_rfl
 c210:=by kernel_rfl
 c212:=by kernel_rfl
 c213:=by kernel_rfl
 c232:=by kernel_rfl
 c233:=by kernel_rfl }
def Tryz.Gx:Go.Shelf.Ren:=⟨fun|153=>120|152=>131|226=>141|227=>83|228=>105|137=>118|119=>150|224=>151|225=>152|217=>138|266=>155|n=>n,fun|9=>9|3=>3|4=>4|5=>5|21=>21|117=>114|116=>113|0=>0|46=>103|124=>117|n=>n,λn=>n⟩
theorem Tryz.lays153:Go.Proofs.Lays.n153 Tryz.prog Tryz.Gx:={
 mixed:=by kernel_rfl
 f119:=Tryz.func150.trans (congrArg some (by kernel_rfl))
 f137:=Tryz.func118.trans (congrArg some (by kernel_rfl))
 f152:=Tryz.func131.trans (congrArg some (by kernel_rfl))
 f153:=Tryz.func120.trans (congrArg some (by kernel_rfl))
 f217:=Tryz.func138.trans (congrArg some (by kernel_rfl))
 f224:=Tryz.func151.trans (congrArg some (by kernel_rfl))
 f225:=Tryz.func152.trans (congrArg some (by kernel_rfl))
 f226:=Tryz.func141.trans (congrArg some (by kernel_rfl))
 f227:=Tryz.func83.trans (congrArg some (by kernel_rfl))
 f228:=Tryz.func105.trans (congrArg some (by kernel_rfl))
 f266:=Tryz.func155.trans (congrArg some (by kernel_rfl))
 t0:=Tryz.underlying0
 a0:=Tryz.isAgg0
 z0:=Tryz.sizeOf0
 v0:=Tryz.zeroValue0
 t3:=Tryz.underlying3
 a3:=Tryz.isAgg3
 z3:=Tryz.sizeOf3
 v3:=Tryz.zeroValue3
 t4:=Tryz.underlying4
 a4:=Tryz.isAgg4
 z4:=Tryz.sizeOf4
 v4:=Tryz.zeroValue4
 t5:=Tryz.underlying5
 a5:=Tryz.isAgg5
 z5:=Tryz.sizeOf5
 v5:=Tryz.zeroValue5
 t9:=Tryz.underlying9
 a9:=Tryz.isAgg9
 z9:=Tryz.sizeOf9
 v9:=Tryz.zeroValue9
 t21:=Tryz.underlying21
 a21:=Tryz.isAgg21
 z21:=Tryz.sizeOf21
 v21:=Tryz.zeroValue21
 t46:=Tryz.underlying103
 a46:=Tryz.isAgg103
 z46:=Tryz.sizeOf103
 v46:=Tryz.zeroValue103
 t116:=Tryz.underlying113
 a116:=Tryz.isAgg113
 z116:=Tryz.sizeOf113
 t117:=Tryz.underlying114
 a117:=Tryz.isAgg114
 z117:=Tryz.sizeOf114
 v117:=Tryz.zeroValue114
 t124:=Tryz.underlying117
 a124:=Tryz.isAgg117
 z124:=Tryz.sizeOf117
 v124:=Tryz.zeroValue117 }
end Go.Proofs
end
section
open Go Go.Eng Go.Proofs
set_option maxRecDepth 100000
namespace V2
theorem atoi:oH.Ok Tryz.prog 119:=Iq rfl Tryz.Mn (by kernel_rfl) (by kernel_rfl) (enters_of Tryz.Mn.f172 (by kernel_rfl) rfl)
end V2
end
