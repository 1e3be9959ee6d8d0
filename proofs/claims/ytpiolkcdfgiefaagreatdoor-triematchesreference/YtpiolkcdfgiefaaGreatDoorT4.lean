/- A part of the proof. -/
import Derived.Test.YtpiolkcdfgiefaaGreatDoorEngVia
import Derived.Test.YtpiolkcdfgiefaaGreatDoorEngC
import Derived.Shelf.Small.Strs
import Derived.Shelf.Strings.Prefix
import Derived.Shelf.Strconv.Atoi
import Derived.Lib.SmallJoins
import Derived.Shelf.Strconv.AtoiAll
import Derived.Shelf.Strconv.Itoa3
import Derived.Shelf.Strings.Cut
import Derived.Shelf.Strings.Split
import Derived.Shelf.Strings.OnBuilder
import Derived.Shelf.GgClosure.StringsRunes
import Derived.Shelf.Strings.Repeat
import Derived.Shelf.Strings.BuilderK
import Derived.Lib.RowBridge
import Derived.Test.YtpiolkcdfgiefaaGreatDoorProg
section
set_option maxHeartbeats 10000000
open Go Go.Eng Go.Proofs
set_option maxRecDepth 100000
namespace T1
abbrev B:=List UInt8
inductive NO where
 |none
 |node (a n m:Nat) (sz:Int) (mk:B)
 |map (l:List (bQ×Nat×Nat)) (c:Nat)
 |arr (l:List B)
def idE(s:B):SV:=.cons (.str s) .nil
def aGp(h:Nat):SV->Option Nat
 |.fown h' v 0=>bif Nat.beq h h' then some v else .none
 |_=>.none
def noO(h:Nat):NO->aL
 |.none=>.gone
 |.node a n m sz mk=>.cells 70 (.cons (.flsl h a 1 n) (.cons (.fmref h m) (.cons (.int .i64 sz) (.cons (.str mk) .nil))))
 |.map l c=>.map Nat (.i .u8) l c (λv=>.fown h v 0) (aGp h)
 |.arr l=>.arr 9 1 l.length λi=>idE (l.getD i [])
def Is(h:Nat)(F:aL):NO->Prop
 |.none=>F=.gone
 |.node a n m sz mk=>F=.cells 70 (.cons (.flsl h a 1 n) (.cons (.fmref h m) (.cons (.int .i64 sz) (.cons (.str mk) .nil))))
 |.map l c=>∃ev iv,F=.map Nat (.i .u8) l c ev iv/\∀v,ev v=.fown h v 0
 |.arr l=>∃enc,F=.arr 9 1 l.length enc/\∀i,enc i=idE (l.getD i [])
theorem Is.no(h:Nat)(o:NO):Is h (noO h o) o:=by
 cases o with
 |none=>exact rfl
 |node=>exact rfl
 |map=>exact⟨_,_,rfl,λ_=>rfl⟩
 |arr=>exact⟨_,rfl,λ_=>rfl⟩
theorem Is.rn{h:Nat}{F:aL}{o:NO}{l r:List (Nat×Nat)}(k:Is h F o)(hb:Nat.blt h FB=true):Is ((get? l h).getD 0) (rnO l r F) o:=by
 cases o with
 |none=>obtain rfl:=k; exact rfl
 |node =>
  obtain rfl:=k;show aL.cells 70 _=_;simp[*,rnS,cond_true]
 |map =>
  obtain⟨ev,iv,rfl,e⟩:=k;refine⟨_,_,rfl,λv=>?_⟩;simp[*,rnS,cond_true]
 |arr =>
  obtain⟨enc,rfl,e⟩:=k;refine⟨_,rfl,λi=>?_⟩;rw[e i];rfl
theorem Is.sub{h h':Nat}{F:aL}{o:NO}{k:Keep}{hp:List (Nat×aL)}(i:Is h F o)(e:lH k h h'):gQ k hp F (noO h' o):=by
 cases o with
 |none=>obtain rfl:=i; exact rfl
 |node=>obtain rfl:=i; exact⟨rfl,⟨e,rfl,rfl,rfl⟩,⟨e,rfl⟩,⟨rfl,rfl⟩,rfl,trivial⟩
 |map l c =>
  obtain⟨ev,iv,rfl,q⟩:=i;refine⟨rfl,rfl,rfl,λj x y h1 h2=>?_⟩;rw[h1]at h2;cases h2;refine⟨rfl,rfl,?_⟩;rw[q];exact⟨e,rfl,rfl⟩
 |arr l =>
  obtain⟨enc,rfl,q⟩:=i;refine⟨rfl,rfl,rfl,λj _=>.inl ?_⟩;rw[q];exact⟨rfl,trivial⟩
theorem mL{k:Keep}{hp:List (Nat×aL)}{h h':Nat}{l r:List (Nat×Nat)}(e:lH k ((get? l h).getD 0) h')(hb:Nat.blt h FB=true)(o:NO):gQ k hp (rnO l r (noO h o)) (noO h' o):=((Is.no h o).rn hb).sub e
def put(N:Nat->NO)(j:Nat)(n:NO):Nat->NO:=λi=>bif Nat.beq i j then n else N i
theorem dW(N:Nat->NO)(j:Nat)(n:NO):put N j n j=n:=by simp[put,Nat.beq_refl]
theorem Dh{i j:Nat}(h:i≠j):Nat.beq i j=false:=by
 grind[Nat.eq_of_beq_eq_true]
theorem bS{N:Nat->NO}{i j:Nat}{n:NO}(h:i≠j):put N j n i=N i:=by simp[put,Dh h]
theorem oS{k:Keep}{hp:List (Nat×aL)}{h h':Nat}(e:lH k h h')(o:NO):gQ k hp (noO h o) (noO h' o):=by
 cases o with
 |none=>exact rfl
 |node a n m sz mk=>exact⟨rfl,⟨e,rfl,rfl,rfl⟩,⟨e,rfl⟩,⟨rfl,rfl⟩,rfl,trivial⟩
 |map l c =>
  refine⟨rfl,rfl,rfl,λi x y h1 h2=>?_⟩;rw[h1]at h2;cases h2;exact⟨rfl,rfl,e,rfl,rfl⟩
 |arr l=>exact⟨rfl,rfl,rfl,λi _=>.inl ⟨rfl,trivial⟩⟩
theorem rF{k:Keep}{hp:List (Nat×aL)}{h:Nat}{f:Nat->aL}{N:Nat->NO}{j:Nat}{o:aL}{n:NO}(h1:gQ k hp o (noO h n))(h2:∀i,gQ k hp (f i) (noO h (N i))) :
  ∀i,gQ k hp (bif Nat.beq i j then o else f i) (noO h (put N j n i)):=by
 grind[put]
theorem U7{k:Keep}{hp:List (Nat×aL)}{h c:Nat}:gQ k hp (.map SV (.i .u8) [] c id some) (noO h (.map [] c)) :=
 ⟨rfl,rfl,rfl,(by grind)⟩
theorem nG{k:Keep}{hp:List (Nat×aL)}{h h' a n m:Nat}{sz:Int}{mk:B}(e:lH k h h'):gQ k hp (.cells 70 (.cons (.flsl h a 1 n) (.cons (.fmref h m) (.cons (.int .i64 sz) (.cons (.str mk) .nil))))) (noO h' (.node a n m sz mk)):=oS e (.node a n m sz mk)
theorem P1{k:Keep}{hp:List (Nat×aL)}{h h' a m:Nat}{sz:Int}{mk:B}(e:lH k h h'):gQ k hp (.cells 70 (.cons .nilsl (.cons (.fmref h m) (.cons (.int .i64 sz) (.cons (.str mk) .nil))))) (noO h' (.node a 0 m sz mk)) :=
 ⟨rfl,rfl,⟨e,rfl⟩,⟨rfl,rfl⟩,rfl,trivial⟩
def Tk(l:List (bQ×Nat×Nat))(q:Nat):Prop:=(∀x∈l,x.2.2<q)/\(l.map (·.2.2)).Nodup
structure Cl(N:Nat->NO)(c:Nat):Prop where
 free:∀i,c<=i->N i=.none
 kids:∀i a n m sz mk,N i=.node a n m sz mk->∃l q,N m=.map l q
 ent:∀i l q,N i=.map l q->∀x∈l,x.1.kind=.i .u8/\∃a n m sz mk,N x.2.1=.node a n m sz mk
 lst:∀i a n m sz mk,N i=.node a n m sz mk->(N a=.none/\n=0)\/∃A,N a=.arr A/\A≠[]/\n<=A.length
 lim:∀i a n m sz mk,N i=.node a n m sz mk->a<c
 own:∀i j a n m sz mk n' m' sz' mk',N i=.node a n m sz mk->N j=.node a n' m' sz' mk'->i=j
 tick:∀i l q,N i=.map l q->Tk l q
def fM(N:Nat->NO)(a n:Nat):List B :=
 match N a with
 |.arr A=>A.take n
 |_=>[]
theorem S5{N:Nat->NO}{a n:Nat}{A:List B}(h:N a=.arr A):fM N a n=A.take n:=by simp_all[fM]
theorem qE{N:Nat->NO}{a n:Nat}(h:(N a=.none/\n=0)\/∃A,N a=.arr A/\A≠[]/\n<=A.length):(fM N a n).length=n:=by
 grind[fM]
def nX(N:Nat->NO)(i:Nat):List B :=
 match N i with
 |.node a n _ _ _=>fM N a n
 |_=>[]
theorem qW{N:Nat->NO}{i a n m:Nat}{sz:Int}{mk:B}(h:N i=.node a n m sz mk):nX N i=fM N a n:=by simp_all[nX]
def isNode(N:Nat->NO)(i:Nat):Prop:=∃a n m sz mk,N i=.node a n m sz mk
theorem Cl.lt{N:Nat->NO}{c i:Nat}(h:Cl N c)(hn:N i≠.none):i<c:=by
 rcases Nat.lt_or_ge i c with h'|h'
 .exact h'
 .exact absurd (h.free i h') hn
def tH(i h r:Nat)(N:Nat->NO):List (Nat×aL):=[(i,.cells 64 (.cons (.fown h r 0) .nil)),(h,.fam λq=>noO h (N q))]
def g39:List Nat:=[0]
def c39:aY :=
 .seq (.region g39 [(zo 0 (.move (.c (.nilptr))))]) (.seq (.region g39 [(zo 1 (.mkmap (.i (.u8)))),(zo 2 (.build (.cons (.nilsl) (.cons (.nilmap) (.cons (.int .i64 0) (.cons (.str []) .nil)))) [(1,1,.s 1)])),(zo 3 (.box 70 (.s 2))),(mv 0 3)]) .ret)
theorem e39:bO Tryz.prog 39 g39 [] [] []=some (c39,[.slot 0],4):=by kernel_rfl
def jX(N:Nat->NO)(c:Nat):Nat->NO:=put (put N c (.map [] 0)) (c+1) (.node (c+2) 0 c 0 [])
def aCy:bC where
 X:=(Nat->NO)×Nat
 Y:=Unit
 args:=λ_=>.nil
 pre:=λx=>Cl x.1 x.2
 h0:=λx=>[(0,.fam λq=>noO 0 (x.1 q))]
 nx0:=1
 post:=λ_ _=>True
 res:=λx _=>.fown 0 (x.2+1) 0
 h1:=λx _=>[(0,.fam λq=>noO 0 (jX x.1 x.2 q))]
 nx1:=1
theorem Ts:aCy.Ok Tryz.prog 39:=by
 refine Eng.bC.okR e39 .nil (λ_=>[(3145798,.own)]) (λ_ _=>aO.o aO.nil) ?_;rintro⟨N,c⟩ (hc:Cl N c);have f0:N c=.none:=hc.free c (aN _);have f1:N (c+1)=.none:=hc.free _ (by omega);have g0:noO 0 (N c)=.gone:=by rw[f0]; rfl
 have g1:(bif Nat.beq (c+1) c then aL.map SV (.i .u8) [] 0 id some else noO 0 (N (c+1)))=.gone:=by grind[Dh]
 refine⟨trivial,?_⟩;refine aB c (aA g0 ?_);refine aB (c+1) (aA g1 ?_);repeat' (first|apply aA|exact trivial|exact rfl|refine aB () ?_|fail)
 exact rF (P1 (by exact rfl)) (rF U7 λi=>oS (by exact rfl) (N i))
theorem zm(N:Nat->NO){k:Keep}{hp:List (Nat×aL)}{h h':Nat}(e:lH k h h'):∀i,gQ k hp (noO h (N i)) (noO h' (N i)):=λi=>oS e (N i)
theorem zr(N:Nat->NO){k:Keep}{hp:List (Nat×aL)}{h h':Nat}{l r:List (Nat×Nat)}(e:lH k ((get? l h).getD 0) h')(hb:Nat.blt h FB=true):∀i,gQ k hp (rnO l r (noO h (N i))) (noO h' (N i)):=λi=>mL e hb (N i)
end T1
end
section
set_option maxHeartbeats 10000000
open Go Go.Eng Go.Proofs
set_option maxRecDepth 100000
namespace D1
def Qh(f:Nat->Int):Nat->Int
 |0=>0
 |j+1=>gI .or .u64 (shI .shl .u64 (Qh f j) 8) (f j)
def Bh(s:Int)(f:Nat->Int):Int :=
 let x:=gI .xor .u64 s (Qh f 8);let y:=IntKind.u64.wrap (gI .xor .u64 x (shI .shr .u64 x 31)*11400714819323198485);let z:=IntKind.u64.wrap (gI .xor .u64 y (shI .shr .u64 y 27)*15074714826142052245)
 gI .xor .u64 z (shI .shr .u64 z 33)
theorem Fp(x:Int):0<=IntKind.u64.wrap x/\IntKind.u64.wrap x<18446744073709551616 :=
 ⟨Int.emod_nonneg _ (by decide),Int.emod_lt_of_pos _ (by decide)⟩
theorem rG(a b:Int):0<=gI .xor .u64 a b/\gI .xor .u64 a b<18446744073709551616:=Fp _
theorem Yp(s:Int)(f:Nat->Int):0<=Bh s f/\Bh s f<18446744073709551616:=rG _ _
def g90:List Nat:=[1,8,5,3,7,4,0,6]
def c90:aY :=
 .seq (.region g90 [(zo 3 (.box 144 (.s 1)))]) (.seq (.region g90 [(zo 4 (.move (.c (.int (.u64) 0))))]) (.seq (.seq (.region g90 [(zo 7 (.move (cj 0)))]) (.block 0 (.loop 0 [8,9,5,10,11,12,13,14,15,16,4,17,7] (.seq (.region g90 [(zo 8 (.bin (.lss) (.s 7) (cj 8)))]) (.seq (.cond (.s 8) .skip (.exit 0)) (.seq (.block 1 (.seq (.region g90 [(mv 9 7),(mv 5 9)]) (.region g90 [(mv 10 4),(zo 11 (.bin (.shl) (.s 10) (.c (.int (.u64) 8)))),(mv 12 5),(zo 13 (.idxArr 8 1 (.s 3) (.s 12))),(ld 14 13),(zo 15 (.cnv (.u64) (.s 14))),(zo 16 (.bin (.or) (.s 11) (.s 15))),(mv 4 16)]))) (.region g90 [(zo 17 (.bin (.add) (.s 7) (cj 1))),(mv 7 17)]))))))) (.seq (.region g90 [(mv 18 0),(zo 19 (.nilCheck (.s 18))),(ld 20 19),(mv 21 4),(zo 22 (.bin (.xor) (.s 20) (.s 21))),(mv 6 22)]) (.seq (.region g90 [(mv 23 6),(mv 24 6),(zo 25 (.bin (.shr) (.s 24) (.c (.int (.u64) 31)))),(zo 26 (.bin (.xor) (.s 23) (.s 25))),(zo 27 (.bin (.mul) (.s 26) (.c (.int (.u64) 11400714819323198485)))),(mv 6 27)]) (.seq (.region g90 [(mv 28 6),(mv 29 6),(zo 30 (.bin (.shr) (.s 29) (.c (.int (.u64) 27)))),(zo 31 (.bin (.xor) (.s 28) (.s 30))),(zo 32 (.bin (.mul) (.s 31) (.c (.int (.u64) 15074714826142052245)))),(mv 6 32)]) (.region g90 [(mv 33 0),(mv 34 6),(mv 35 6),(zo 36 (.bin (.shr) (.s 35) (.c (.int (.u64) 33)))),(zo 37 (.bin (.xor) (.s 34) (.s 36))),(zo 38 (.nilCheck (.s 33))),⟨none,none,.store 1 (.s 38) (.s 37),[]⟩]))))))
theorem e90:bO Tryz.prog 90 g90 [] [] []=some (c90,[],39):=by kernel_rfl
def Z6:bC where
 X:=Int×(Nat->Int)
 Y:=Int
 args:=λx=>.cons (.own 0 0) (.cons (.agg (.ints .u8 8 x.2 .nil)) .nil)
 pre:=λx=>(0<=x.1/\x.1<18446744073709551616)/\∀i,i<8->0<=x.2 i/\x.2 i<256
 h0:=λx=>[(0,.cells 118 (.cons (.int .u64 x.1) .nil))]
 nx0:=1
 post:=λx y=>y=Bh x.1 x.2
 res:=λ_ _=>.tup .nil
 h1:=λ_ y=>[(0,.cells 118 (.cons (.int .u64 y) .nil))]
 nx1:=1
theorem Yq:Z6.Ok Tryz.prog 90:=by
 refine Eng.bC.okR e90 .nil (λ_=>[]) (λ_ _=>aO.nil) ?_;rintro⟨s,f⟩ ⟨⟨(h0:0<=s),(h1:s<18446744073709551616)⟩,(h2:∀i,i<8->0<=f i/\f i<256)⟩;refine⟨trivial,?_⟩;refine⟨⟨Nat,λj=>j<=8,λj=>[(7,.int .i64 (j:Int)),(4,.int .u64 (Qh f j))],λ_=>[],λj=>8-j⟩,0,?_,?_,?_⟩
 .omega
 .repeat' (first|apply aA|exact trivial|exact rfl|omega|fail)
 rintro(j:Nat) (k0:j<=8);repeat' (first|refine aA ?_ ?_)
 .refine λ(h:decide ((j:Int)<8)=true)=>?_;have hj:j<8:=by grind
  have g0:(0:Int)<=(j:Int):=by omega
  have g1:(j:Int)<8:=by omega
  have g4:j<8:=hj;repeat' (first|apply aA|with_reducible exact g0)
  .omega
  .exact g1
  .exact g4
  .simp [*]
  .grind
  .omega
  .omega
  refine aB (j+1) ?_;have k1:j+1<=8:=hj;have k2:8-(j+1)<8-j:=by omega
  repeat' (first|apply aA|exact trivial|exact rfl|(with_reducible first|exact k1|exact k2)|omega|fail)
 .refine λ(h:decide ((j:Int)<8)=false)=>?_;have hj:j=8:=by grind
  subst hj;repeat' (first|refine aA ?_ ?_)
  .omega
  .omega
  .omega
  refine aB (Bh s f) ?_;repeat' (first|apply aA|exact trivial|exact rfl)
end D1
end
section
set_option maxHeartbeats 10000000
open Go Go.Eng Go.Proofs D1
set_option maxRecDepth 100000
namespace D2
def kN(t:List UInt8):Nat->Int:=λi=>bif Nat.blt i (min t.length 8)then ((t.getD i 0).toNat:Int)else 0
def nA(t:List UInt8)(s:Int):Nat->Int
 |0=>s
 |j+1=>Bh (nA t s j) (kN (t.drop (8*j)))
theorem Fx(t:List UInt8)(i:Nat):0<=kN t i/\kN t i<256:=by
 unfold kN;cases Nat.blt i (min t.length 8) with
 |true=>exact⟨Int.natCast_nonneg _,by have:=(t.getD i 0).toNat_lt; grind⟩
 |false=>simp
theorem zU(t:List UInt8){s:Int}(h:0<=s/\s<18446744073709551616):∀j,0<=nA t s j/\nA t s j<18446744073709551616
 |0=>h
 |_+1=>Yp _ _
def g89:List Nat:=[9,0,1,5,4]
def c89:aY :=
 .seq (.region g89 [(zo 4 (.move (cj 0)))]) (.block 0 (.loop 0 [6,7,8,9,5,12,13,14,15,16,17,18,19,10,11,4] (.seq (.seq (.region g89 [(mv 6 4),(mv 7 0),(zo 8 (.lenStr (.s 7))),(zo 9 (.bin (.leq) (.s 6) (.s 8)))]) (.cond (.s 9) .skip (.exit 0))) (.seq (.block 1 (.seq (.region g89 [(zo 5 (.alloc 144 (.zeros (.u8) 8 .nil)))]) (.seq (.drawn g89 (.pure 1 (mv 13 0) (.pure 2 (mv 14 4) (.pure 3 (zo 15 (.sliceStr (.s 13) (some (.s 14)) none)) (.eff 0 (zo 12 (.arrSl 8 1 0 (.s 5))) [] (.eff 4 (zo 16 (.cpyS (.s 12) (.s 15))) [] .done .none) .none))))) (.region g89 [(mv 17 1),(zo 18 (.load 8 true (.s 5))),(zo 19 (.call (.s 17) [.s 18]))])))) (.region g89 [(mv 10 4),(zo 11 (.bin (.add) (.s 10) (cj 8))),(mv 4 11)])))))
theorem e89:bO Tryz.prog 89 g89 [] [] []=some (c89,[],20):=by kernel_rfl
def Y3:bC where
 X:=List UInt8×Int
 Y:=Unit
 args:=λx=>.cons (.str x.1) (.cons (.fn 1048666 (.cons (.own 0 0) .nil)) .nil)
 pre:=λx=>(0<=x.2/\x.2<18446744073709551616)/\x.1.length<4611686018427387904
 h0:=λx=>[(0,.cells 118 (.cons (.int .u64 x.2) .nil))]
 nx0:=1
 post:=λ_ _=>True
 res:=λ_ _=>.tup .nil
 h1:=λx _=>[(0,.cells 118 (.cons (.int .u64 (nA x.1 x.2 (x.1.length/8+1))) .nil))]
 nx1:=1
theorem V4:Y3.Ok Tryz.prog 89:=by
 refine Eng.bC.okR e89 .nil (λ_=>[(90,.m Z6),(4145728,.own)]) (λ_ _=>aO.m Yq (aO.o aO.nil)) ?_;rintro⟨t,s⟩ ⟨(h0:0<=s/\s<18446744073709551616),(ht:t.length<4611686018427387904)⟩;refine⟨trivial,?_⟩;refine⟨⟨Nat,λj=>8*j<=t.length+8,λj=>[(4,.int .i64 ((8*j:Nat):Int))],λj=>[(0,.cells 118 (.cons (.int .u64 (nA t s j)) .nil))],λj=>t.length+8-8*j⟩,0,?_,?_,?_⟩
 .omega
 .repeat' (first|apply aA|exact trivial|exact rfl)
 rintro(j:Nat) (k0:8*j<=t.length+8);have hb:=zU t h0 j;repeat' (first|refine aA ?_ ?_)
 .refine λ(h:decide (((8*j:Nat):Int)<=(t.length:Int))=true)=>?_;have hj:8*j<=t.length:=by grind
  repeat' (first|apply aA|exact trivial)
  .omega
  .grind
  refine aB (nA t s j,kN (t.drop (8*j))) (aB [0] ?_);have hbb:∀i,i<8->0<=kN (t.drop (8*j)) i/\kN (t.drop (8*j)) i<256:=λi _=>Fx _ i;repeat' (first|exact hb|exact hbb|apply aA|exact trivial|exact rfl|exact λ_ _=>rfl|fail)
  refine λ(y:Int) (hy:y=Bh (nA t s j) (kN (t.drop (8*j))))=>?_;have hy':y=nA t s (j+1):=hy;have e8:((8*j:Nat):Int)+8=((8*(j+1):Nat):Int):=by omega
  have k1:8*(j+1)<=t.length+8:=by omega
  have k2:t.length+8-8*(j+1)<t.length+8-8*j:=by omega
  have g1:-9223372036854775808<=((8*j:Nat):Int)+8:=by omega
  have g2:((8*j:Nat):Int)+8<=9223372036854775807:=by omega
  repeat' (first|apply aA|(with_reducible first|exact g1|exact g2))
  refine aB (j+1) ?_;repeat' (first|apply aA|exact trivial|exact rfl|with_reducible exact k1|omega|fail)
 .refine λ(h:decide (((8*j:Nat):Int)<=(t.length:Int))=false)=>?_;have hj:j=t.length/8+1:=by grind
  subst hj;refine aB () ?_;repeat' (first|apply aA|exact trivial|exact rfl)
end D2
end
section
set_option maxHeartbeats 10000000
open Go Go.Eng Go.Proofs D1 D2
set_option maxRecDepth 100000
namespace D3
def dgt(n:Nat):UInt8:=if n<10 then (48+n).toUInt8 else (87+n).toUInt8
def vW:Nat->Nat->List UInt8->List UInt8
 |0,_,acc=>acc
 |f+1,n,acc=>if n<16 then dgt n::acc else vW f (n/16) (dgt (n%16)::acc)
def tR(n:Int):List UInt8:=vW 16 n.toNat []
theorem Gg:∀(f n:Nat) (acc:List UInt8),(vW f n acc).length<=f+acc.length
 |0,n,acc=>by simp[vW]
 |f+1,n,acc=>by
  simp only[vW];split
  .simp only [bA]; omega
  .have:=Gg f (n/16) (dgt (n%16)::acc);simp only[bA]at this;omega
theorem Ma(n:Int):(tR n).length<=16:=Gg 16 _ []
def fmtS:Eng.Spec where
 X:=Int
 args:=λn=>.cons (.int .u64 n) (.cons (.int .i64 16) .nil)
 pre:=λn=>0<=n/\n<18446744073709551616
 res:=λn=>.str (tR n)
 inst:=fun
  |.cons (.int _ n) _=>some n
  |_=>none
def Uj:Eng.Spec where
 X:=List UInt8×Int
 args:=λx=>.cons (.str x.1) (.cons (.int .i64 x.2) .nil)
 pre:=λx=>x.1.length=1/\0<=x.2/\x.2<=16
 res:=λx=>.str (List.replicate x.2.toNat x.1).flatten
 inst:=fun
  |.cons (.str s) (.cons (.int _ n) _)=>some (s,n)
  |_=>none
def jI(t:List UInt8):Int:=gI .xor .u64 7640891576956012809 (t.length:Int)
def yW(t:List UInt8):List UInt8 :=
 (List.replicate (16-((tR (nA t (jI t) (t.length/8+1))).length:Int)).toNat [48]).flatten++tR (nA t (jI t) (t.length/8+1))
def g62:List Nat:=[0,3,4,2]
def c62:aY :=
 .seq (.region g62 [(zo 2 (.move (.c (.str []))))]) (.seq (.region g62 [(mv 5 0),(zo 6 (.lenStr (.s 5))),(zo 7 (.cnv (.u64) (.s 6))),(zo 8 (.bin (.xor) (.c (.int (.u64) 7640891576956012809)) (.s 7))),(zo 3 (.alloc 118 (.cons (.int (.u64) 0) .nil))),⟨none,none,.store 1 (.s 3) (.s 8),[]⟩]) (.seq (.region g62 [(mv 9 0),(zo 10 (.mkfn 1048666 [.s 3])),(zo 11 (.call (.c (.fn 89)) [.s 9,.s 10]))]) (.seq (.region g62 [(ld 12 3),(zo 13 (.call (.c (.fn 91)) [.s 12,cj 16])),(mv 4 13)]) (.seq (.region g62 [(mv 14 4),(zo 15 (.lenStr (.s 14))),(zo 16 (.bin (.sub) (cj 16) (.s 15))),(zo 17 (.call (.c (.fn 92)) [.c (.str [48]),.s 16])),(mv 18 4),(zo 19 (.bin (.add) (.s 17) (.s 18))),(mv 2 19)]) .ret))))
theorem e62:bO Tryz.prog 62 g62 [] [] []=some (c62,[.slot 2],20):=by kernel_rfl
def Vb:Eng.Spec where
 X:=List UInt8
 args:=λt=>.cons (.str t) .nil
 pre:=λt=>t.length<4611686018427387904
 res:=λt=>.str (yW t)
 inst:=fun
  |.cons (.str s) _=>some s
  |_=>none
theorem K1(hf:fmtS.Ok Tryz.prog 91)(hr:Uj.Ok Tryz.prog 92):Vb.Ok Tryz.prog 62:=by
 refine Eng.Spec.okR e62 .nil (λ_=>[(89,.m Y3),(91,.p fmtS),(92,.p Uj)]) (by grind[aO.m,V4,aO.p,aO.nil]) ?_;rintro(t:List UInt8) (ht:t.length<4611686018427387904);have hs:0<=jI t/\jI t<18446744073709551616:=rG _ _;have hb:=zU t hs (t.length/8+1);have hl:=Ma (nA t (jI t) (t.length/8+1));refine⟨trivial,?_⟩;repeat' (first|refine aA ?_ ?_)
 .omega
 .show (t.length:Int)<=18446744073709551615;omega
 have q1:-9223372036854775808<=(16:Int)-((tR (nA t (jI t) (t.length/8+1))).length:Int):=by omega
 have q2:(16:Int)-((tR (nA t (jI t) (t.length/8+1))).length:Int)<=9223372036854775807:=by omega
 have q3:0<=(16:Int)-((tR (nA t (jI t) (t.length/8+1))).length:Int):=by omega
 have q4:(16:Int)-((tR (nA t (jI t) (t.length/8+1))).length:Int)<=16:=by omega
 have rl:∀n:Nat,(List.replicate n [(48:UInt8)]).flatten.length=n:=by
  intro n;induction n with
  |zero=>rfl
  |succ n ih=>rw[List.replicate_succ,iJ,bF,ih]; simp only[bA,eZ]; omega
 have q5:(List.replicate ((16:Int)-((tR (nA t (jI t) (t.length/8+1))).length:Int)).toNat [(48:UInt8)]).flatten.length+(tR (nA t (jI t) (t.length/8+1))).length<=9223372036854775807:=by
  simp[*]
 refine aB (t,jI t) (aB [0] ?_);repeat' (first|exact hs|exact ht|apply aA|exact trivial|exact rfl)
 refine λ(_:Unit) (_:True)=>?_;repeat' (first|exact hb|apply aA|exact trivial|exact rfl|(with_reducible first|exact q1|exact q2|exact q3|exact q4))
 .exact q5
end D3
end
section
namespace Go.Eng
open Go Go.RowKit Go.Proofs Go.Shelf
theorem uE{P:Program}{f:Nat}{S:Spec}(hc:∀args w,(callFunc f args).run P w=.ok (.enter f args) w)
  (h:∀(x:S.X) (w:World) (vs:List Value) (U:Nat->Prop),GV w->S.pre x->R (iV U w) (S.args x) vs ->
   ∃v,Calls P f vs.toArray w (λe w'=>e=.returned v/\w'=w)/\∀E,R E (S.res x) [v]):S.Ok P f:=by
 refine⟨hc,?_⟩;intro x w vs U hU hgv hp hR;obtain⟨v,h1,h2⟩:=h x w vs U hgv hp hR;refine h1.mono ?_;rintro e w' ⟨rfl,rfl⟩;exact⟨h2 _,Below.refl _ _⟩
def oL:Spec where
 X:=List UInt8×Int
 args:=λx=>.cons (.str x.1) (.cons (.int .u8 x.2) .nil)
 pre:=λ_=>True
 res:=λx=>.int .i64 (Lib.indexByte x.1 x.2.toNat.toUInt8)
 inst:=λs=>match s with
  |.cons (.str t) (.cons (.int _ c) _)=>some (t,c)
  |_=>none
theorem Ej{P:Program}{ρ:Ren}(L:Lays.n137 P ρ)(hc:∀args w,(callFunc (ρ.f 137) args).run P w=.ok (.enter (ρ.f 137) args) w):oL.Ok P (ρ.f 137):=by
 refine uE hc ?_;rintro⟨t,c⟩ w vs U _ _ hR;simp only[oL,R]at hR;obtain⟨v1,r1,rfl,h1,v2,r2,rfl,h2,rfl⟩:=hR;obtain rfl:=aC.1 h1;obtain rfl:=aC.1 h2;exact⟨_,Any.strings_IndexByte L ⟨t.toArray⟩ c w,λE=>by simp only[oL,R]⟩
def oJ:Spec where
 X:=List UInt8×List UInt8
 args:=λx=>.cons (.str x.1) (.cons (.str x.2) .nil)
 pre:=λ_=>True
 res:=λx=>.bool (Lib.hasPrefix x.1 x.2)
 inst:=λs=>match s with
  |.cons (.str t) (.cons (.str c) _)=>some (t,c)
  |_=>none
theorem Eg{P:Program}{ρ:Ren}(L:Lays.n99 P ρ)(hc:∀args w,(callFunc (ρ.f 99) args).run P w=.ok (.enter (ρ.f 99) args) w):oJ.Ok P (ρ.f 99):=by
 refine uE hc ?_;rintro⟨t,c⟩ w vs U _ _ hR;simp only[oJ,R]at hR;obtain⟨v1,r1,rfl,h1,v2,r2,rfl,h2,rfl⟩:=hR;obtain rfl:=aC.1 h1;obtain rfl:=aC.1 h2;exact⟨_,Any.strings_HasPrefix L ⟨t.toArray⟩ ⟨c.toArray⟩ w,λE=>by simp only[oJ,R]⟩
end Go.Eng
end
section
set_option maxHeartbeats 10000000
namespace Go.Eng
open Go Go.RowKit Go.Proofs Go.Shelf
theorem pX{P:Program}{f:Nat}{S:Spec}(hc:∀args w,(callFunc f args).run P w=.ok (.enter f args) w)
  (h:∀(x:S.X) (w:World) (vs:List Value) (U:Nat->Prop),GV w->S.pre x->R (iV U w) (S.args x) vs ->
   ∃v,Calls P f vs.toArray w (λe w'=>e=.returned v/\Eng.Below w.heap.size w w')/\∀E,R E (S.res x) [v]):S.Ok P f:=by
 refine⟨hc,?_⟩;intro x w vs U hU hgv hp hR;obtain⟨v,h1,h2⟩:=h x w vs U hgv hp hR;refine h1.mono ?_
 grind
end Go.Eng
end
section
set_option maxHeartbeats 10000000
namespace Go.Eng
open Go Go.RowKit Go.Proofs Go.Shelf Go.Sort
theorem pI{P:Program}{f:Nat}{S:Spec}(hc:∀args w,(callFunc f args).run P w=.ok (.enter f args) w)
  (h:∀(x:S.X) (w:World) (vs:List Value) (U:Nat->Prop),(∀b,U b->b<w.heap.size/\Plain w b)->GV w->S.pre x->R (iV U w) (S.args x) vs ->
   Calls P f vs.toArray w λe w'=>∃v,e=.returned v/\Below w.heap.size w w'/\R (iV (Kk S.fresh U w w') w') (S.res x) [v]):S.Ok P f:=by
 refine⟨hc,?_⟩
 grind
theorem Pj:pow10=Lib.pow10Tab:=by decide
theorem DLe.no{w w':World}(h:DRN=false):DLe w w':=λe=>by rw[h]at e; cases e
def B5(s:List UInt8):Int:=match Lib.atoiAll s with
 |.ok v=>v
 |.range=>Lib.atoiSat s
 |_=>0
def oH:Spec where
 X:=List UInt8
 args:=λx=>.cons (.str x) .nil
 pre:=λx=>x.length<=1000000
 res:=λx=>.tup (.cons (.int .i64 (B5 x)) (.cons .junk .nil))
 inst:=λs=>match s with
  |.cons (.str t) _=>some t
  |_=>none
theorem Iq(hD:DRN=false){P:Program}{ρ:Ren}(L:LaysC.n172 P ρ)(h15:ρ.g 15=R4)(h16:ρ.g 16=R3)(hc:∀args w,(callFunc (ρ.f 172) args).run P w=.ok (.enter (ρ.f 172) args) w):oH.Ok P (ρ.f 172):=by
 refine pI hc ?_;intro t w vs U hU hg hp hR;replace hp:t.length<=1000000:=hp;simp only[oH,R]at hR;obtain⟨v1,r1,rfl,e1,rfl⟩:=hR;obtain rfl:=aC.1 e1;have hsz:ByteArray.size ⟨t.toArray⟩=t.length:=by rw[Lib.size_eq]
 cases hA:Lib.atoiAll t with
 |ok v =>
  refine(Any.strconv_Atoi_ok L ⟨t.toArray⟩ (by rw[hsz]; omega) v hA w).mono ?_;rintro e w' ⟨rfl,hw⟩;refine⟨_,rfl,?_,?_⟩
  .rcases hw with rfl|⟨s,rfl⟩
   .exact Below.refl _ _
   .exact .sQ (Go.Joins.below_bytesWorld _ w _ s (aN _)) (DLe.no hD)
  .simp only [oH,R,B5,hA]
   grind
 |range =>
  obtain⟨ev,h1,h2⟩:=hg.r;refine(Any.strconv_Atoi_range L ⟨t.toArray⟩ (by rw[hsz]; omega) hA ev w (by rw[h16]; exact h1) h2).mono ?_;rintro e w' ⟨N,rfl,_,_,hb⟩;refine⟨_,rfl,.sQ hb (DLe.no hD),?_⟩;simp only[oH,R,B5,hA]
  grind
 |_ =>
  obtain⟨ev,h1,h2⟩:=hg.s;refine(Any.strconv_Atoi_syntax L ⟨t.toArray⟩ (by rw[hsz]; omega) hA ev w (by rw[h15]; exact h1) h2).mono ?_;rintro e w' ⟨N,rfl,_,_,hb⟩;refine⟨_,rfl,.sQ hb (DLe.no hD),?_⟩;simp only[oH,R,B5,hA]
  grind
def Mg:Spec where
 X:=Int
 args:=λx=>.cons (.int .i64 x) .nil
 pre:=λx=>-9223372036854775808<=x/\x<=9223372036854775807
 res:=λx=>.str (Lib.itoa x)
 inst:=λs=>match s with
  |.cons (.int _ t) _=>some t
  |_=>none
theorem below_grown(hD:DRN=false)(w:World)(k:Nat)(os:Array Obj):Below w.heap.size w (grow (w.drewN k) os) :=
 ⟨rfl,rfl,rfl,by simp,λi hi=>heap_grow_old (w.drewN k) os hi,DLe.no hD⟩
theorem below_drewN(hD:DRN=false)(w:World)(k:Nat):Below w.heap.size w (w.drewN k):=⟨rfl,rfl,rfl,aN _,λ_ _=>rfl,DLe.no hD⟩
theorem W9 (hD : DRN = false) {P : Program} {ρ : Ren} (L : LaysM.n171 P ρ) (hn : P.globalNamed "internal/strconv.uint64pow10" = some R2) (hc : ∀ args w, (callFunc (ρ.f 171) args).run P w = .ok (.enter (ρ.f 171) args) w) : Mg.Ok P (ρ.f 171) := by
 refine pI hc ?_;rintro n w vs U hU hg ⟨h0,h1⟩ hR;simp only[Mg,R]at hR;obtain⟨v1,r1,rfl,e1,rfl⟩:=hR;obtain rfl:=aC.1 e1;refine(Any.strconv_Itoa L n h0 h1 w (by rw[<- Pj]; exact hg.tab hn)).mono ?_;rintro e w' ⟨rfl,k,os,rfl⟩;exact⟨_,rfl,below_grown hD w k os,by rfl⟩
end Go.Eng
end
section
namespace Go.Proofs
open Go.Shelf
set_option maxRecDepth 100000
def Tryz.lW:Go.Shelf.Ren:=⟨fun|105=>92|212=>111|99=>112|165=>113|166=>60|170=>114|169=>63|263=>133|264=>134|206=>135|240=>88|241=>136|276=>109|277=>153|n=>n,fun|9=>9|3=>3|4=>4|20=>20|0=>0|46=>103|109=>146|5=>5|72=>89|76=>92|51=>163|146=>164|53=>109|148=>166|70=>86|37=>87|75=>91|127=>123|164=>142|80=>45|n=>n,λn=>n⟩
theorem Tryz.Ar:Go.Proofs.Lays.n105 Tryz.prog Tryz.lW:={
 mixed:=by kernel_rfl
 f99:=Tryz.func112.trans (congrArg some (by kernel_rfl))
 f105:=Tryz.func92.trans (congrArg some (by kernel_rfl))
 f165:=Tryz.func113.trans (congrArg some (by kernel_rfl))
 f166:=Tryz.func60.trans (congrArg some (by kernel_rfl))
 f169:=Tryz.func63.trans (congrArg some (by kernel_rfl))
 f170:=Tryz.func114.trans (congrArg some (by kernel_rfl))
 f206:=Tryz.func135.trans (congrArg some (by kernel_rfl))
 f212:=Tryz.func111.trans (congrArg some (by kernel_rfl))
 f240:=Tryz.func88.trans (congrArg some (by kernel_rfl))
 f241:=Tryz.func136.trans (congrArg some (by kernel_rfl))
 f263:=Tryz.func133.trans (congrArg some (by kernel_rfl))
 f264:=Tryz.func134.trans (congrArg some (by kernel_rfl))
 f276:=Tryz.func109.trans (congrArg some (by kernel_rfl))
 f277:=Tryz.func153.trans (congrArg some (by kernel_rfl))
 t0:=Tryz.underlying0
 a0:=Tryz.isAgg0
 z0:=Tryz.sizeOf0
 v0:=Tryz.zeroValue0
 t3:=Tryz.underlying3
 a3:=Tryz.isAgg3
 z3:=Tryz.sizeOf3
 v3:=Tryz.zeroValue3
 t4:=Tryz.underlying4
 a4:=Tryz.isAgg4
 z4:=Tryz.sizeOf4
 v4:=Tryz.zeroValue4
 t5:=Tryz.underlying5
 a5:=Tryz.isAgg5
 z5:=Tryz.sizeOf5
 v5:=Tryz.zeroValue5
 t9:=Tryz.underlying9
 a9:=Tryz.isAgg9
 z9:=Tryz.sizeOf9
 v9:=Tryz.zeroValue9
 t20:=Tryz.underlying20
 a20:=Tryz.isAgg20
 z20:=Tryz.sizeOf20
 v20:=Tryz.zeroValue20
 t37:=Tryz.underlying87
 a37:=Tryz.isAgg87
 z37:=Tryz.sizeOf87
 v37:=Tryz.zeroValue87
 t46:=Tryz.underlying103
 a46:=Tryz.isAgg103
 z46:=Tryz.sizeOf103
 v46:=Tryz.zeroValue103
 t51:=Tryz.underlying163
 a51:=Tryz.isAgg163
 z51:=Tryz.sizeOf163
 v51:=Tryz.zeroValue163
 t53:=Tryz.underlying109
 a53:=Tryz.isAgg109
 z53:=Tryz.sizeOf109
 v53:=Tryz.zeroValue109
 t70:=Tryz.underlying86
 a70:=Tryz.isAgg86
 z70:=Tryz.sizeOf86
 v70:=Tryz.zeroValue86
 t72:=Tryz.underlying89
 a72:=Tryz.isAgg89
 z72:=Tryz.sizeOf89
 v72:=Tryz.zeroValue89
 t75:=Tryz.underlying91
 a75:=Tryz.isAgg91
 z75:=Tryz.sizeOf91
 v75:=Tryz.zeroValue91
 t76:=Tryz.underlying92
 a76:=Tryz.isAgg92
 z76:=Tryz.sizeOf92
 v76:=Tryz.zeroValue92
 t109:=Tryz.underlying146
 a109:=Tryz.isAgg146
 z109:=Tryz.sizeOf146
 v109:=Tryz.zeroValue146
 t127:=Tryz.underlying123
 a127:=Tryz.isAgg123
 z127:=Tryz.sizeOf123
 v127:=Tryz.zeroValue123
 t146:=Tryz.underlying164
 a146:=Tryz.isAgg164
 z146:=Tryz.sizeOf164
 v146:=Tryz.zeroValue164
 t148:=Tryz.underlying166
 a148:=Tryz.isAgg166
 z148:=Tryz.sizeOf166
 v148:=Tryz.zeroValue166
 t164:=Tryz.underlying142
 a164:=Tryz.isAgg142
 z164:=Tryz.sizeOf142
 v164:=Tryz.zeroValue142 }
theorem Tryz.bx:Builder.Extra Tryz.prog Tryz.lW:={
 sizeBuilder:=by kernel_rfl
 liesBuilder:=by kernel_rfl
 t5:=Tryz.underlying5
 a5:=Tryz.isAgg5
 z5:=Tryz.sizeOf5
 v5:=Tryz.zeroValue5
 infoByte:=by kernel_rfl
 cellsByte:=by kernel_rfl
 sizeByte:=by kernel_rfl
 neB5:=by decide }
end Go.Proofs
open Go Go.Eng Go.Proofs D1 D2 D3
set_option maxRecDepth 100000
namespace D4
theorem Uk(s:List UInt8):∀n,Lib.repeatL s n=(List.replicate n s).flatten
 |0=>rfl
 |n+1=>by rw[Lib.repeatL,List.replicate_succ,iJ,Uk s n]
theorem aDa:Uj.Ok Tryz.prog 92:=by
 refine pI (enters_of Tryz.Ar.f105 (by kernel_rfl) rfl) ?_;rintro⟨s,c⟩ w vs U hU hg ⟨(h1:s.length=1),(h2:0<=c),(h3:c<=16)⟩ hR;simp only[Uj,R]at hR;obtain⟨v1,r1,rfl,e1,v2,r2,rfl,e2,rfl⟩:=hR;obtain rfl:=aC.1 e1;obtain rfl:=aC.1 e2;obtain⟨n,rfl⟩:∃n:Nat,c=(n:Int):=⟨c.toNat,by omega⟩;have hsz:(ByteArray.mk s.toArray).size=s.length:=rfl;refine(Any.strings_Repeat Tryz.Ar Tryz.bx ⟨s.toArray⟩ n w (by omega) (by rw[hsz,h1]; omega)).mono ?_;rintro e w' ⟨rfl,hb⟩;refine⟨_,rfl,.sQ hb (DLe.no rfl),?_⟩;simp only[Uj,R];rw[show((n:Int)).toNat=n from rfl,<- Uk]
end D4
end
section
namespace Go.Proofs
open Go.Shelf
set_option maxRecDepth 100000
def Tryz.Gv:Go.Shelf.Ren:=⟨fun|171=>52|243=>76|246=>103|283=>126|284=>127|285=>128|286=>129|129=>146|317=>145|318=>147|319=>148|320=>149|337=>171|338=>172|n=>n,fun|3=>3|9=>9|2=>2|4=>4|171=>157|0=>0|53=>109|37=>87|5=>5|173=>160|212=>176|51=>163|20=>20|213=>177|46=>103|232=>211|233=>212|n=>n,fun|17=>0|18=>6|19=>7|n=>n⟩
theorem Tryz.Mo:Go.Proofs.LaysM.n171 Tryz.prog Tryz.Gv:={
 mixed:=by kernel_rfl
 f129:=Tryz.func146.trans (congrArg some (by kernel_rfl))
 f171:=Tryz.func52.trans (congrArg some (by kernel_rfl))
 f243:=Tryz.func76.trans (congrArg some (by kernel_rfl))
 f246:=Tryz.func103.trans (congrArg some (by kernel_rfl))
 f283:=Tryz.func126.trans (congrArg some (by kernel_rfl))
 f284:=Tryz.func127.trans (congrArg some (by kernel_rfl))
 f285:=Tryz.func128.trans (congrArg some (by kernel_rfl))
 f286:=Tryz.func129.trans (congrArg some (by kernel_rfl))
 f317:=Tryz.func145.trans (congrArg some (by kernel_rfl))
 f318:=Tryz.func147.trans (congrArg some (by kernel_rfl))
 f319:=Tryz.func148.trans (congrArg some (by kernel_rfl))
 f320:=Tryz.func149.trans (congrArg some (by kernel_rfl))
 f337:=Tryz.func171.trans (congrArg some (by kernel_rfl))
 f338:=Tryz.func172.trans (congrArg some (by kernel_rfl))
 t0:=Tryz.underlying0
 a0:=Tryz.isAgg0
 z0:=Tryz.sizeOf0
 v0:=Tryz.zeroValue0
 t2:=Tryz.underlying2
 a2:=Tryz.isAgg2
 z2:=Tryz.sizeOf2
 v2:=Tryz.zeroValue2
 t3:=Tryz.underlying3
 a3:=Tryz.isAgg3
 z3:=Tryz.sizeOf3
 v3:=Tryz.zeroValue3
 t4:=Tryz.underlying4
 a4:=Tryz.isAgg4
 z4:=Tryz.sizeOf4
 v4:=Tryz.zeroValue4
 t5:=Tryz.underlying5
 a5:=Tryz.isAgg5
 z5:=Tryz.sizeOf5
 v5:=Tryz.zeroValue5
 t9:=Tryz.underlying9
 a9:=Tryz.isAgg9
 z9:=Tryz.sizeOf9
 v9:=Tryz.zeroValue9
 t20:=Tryz.underlying20
 a20:=Tryz.isAgg20
 z20:=Tryz.sizeOf20
 v20:=Tryz.zeroValue20
 t37:=Tryz.underlying87
 a37:=Tryz.isAgg87
 z37:=Tryz.sizeOf87
 v37:=Tryz.zeroValue87
 t46:=Tryz.underlying103
 a46:=Tryz.isAgg103
 z46:=Tryz.sizeOf103
 v46:=Tryz.zeroValue103
 t51:=Tryz.underlying163
 a51:=Tryz.isAgg163
 z51:=Tryz.sizeOf163
 v51:=Tryz.zeroValue163
 t53:=Tryz.underlying109
 a53:=Tryz.isAgg109
 z53:=Tryz.sizeOf109
 v53:=Tryz.zeroValue109
 t171:=Tryz.underlying157
 a171:=Tryz.isAgg157
 z171:=Tryz.sizeOf157
 v171:=Tryz.zeroValue157
 t173:=Tryz.underlying160
 a173:=Tryz.isAgg160
 z173:=Tryz.sizeOf160
 v173:=Tryz.zeroValue160
 t212:=Tryz.underlying176
 a212:=Tryz.isAgg176
 z212:=Tryz.sizeOf176
 v212:=Tryz.zeroValue176
 t213:=Tryz.underlying177
 a213:=Tryz.isAgg177
 z213:=Tryz.sizeOf177
 t232:=Tryz.underlying211
 a232:=Tryz.isAgg211
 z232:=Tryz.sizeOf211
 v232:=Tryz.zeroValue211
 t233:=Tryz.underlying212
 a233:=Tryz.isAgg212
 z233:=Tryz.sizeOf212
 v233:=Tryz.zeroValue212
 g17:=by kernel_rfl
 g18:=by kernel_rfl
 g19:=by kernel_rfl
 i0:=by kernel_rfl
 i2:=by kernel_rfl
 i3:=by kernel_rfl
 i4:=by kernel_rfl
 i5:=by kernel_rfl
 i9:=by kernel_rfl
 i20:=by kernel_rfl
 i37:=by kernel_rfl
 i46:=by kernel_rfl
 i51:=by kernel_rfl
 i53:=by kernel_rfl
 i171:=by kernel_rfl
 i173:=by kernel_rfl
 i212:=by kernel_rfl
 i232:=by kernel_rfl
 i233:=by kernel_rfl
 m17:=by kernel_rfl
 m18:=by kernel_rfl
 m19:=by kernel_rfl }
end Go.Proofs
open Go Go.Eng Go.Proofs
set_option maxRecDepth 100000
namespace D5
theorem itoa:Mg.Ok Tryz.prog 52:=W9 rfl Tryz.Mo (by kernel_rfl) (enters_of Tryz.Mo.f171 (by kernel_rfl) rfl)
end D5
end
section
set_option maxHeartbeats 10000000
open Go Go.Eng Go.Proofs T1
set_option maxRecDepth 100000
namespace T2
def fY(b:UInt8):bQ:=.i .u8 (b.toNat:Int)
def yR(N:Nat->NO)(n:Nat)(b:UInt8):Option Nat :=
 match N n with
 |.node _ _ m _ _=>match N m with
  |.map l _=>(mget l (fY b)).map (·.1)
  |_=>none
 |_=>none
def atN(N:Nat->NO)(n:Nat):B->Option Nat
 | []=>some n
 |b::t=>match yR N n b with
  |none=>none
  |some v=>atN N v t
def aFq(h:Nat):Option Nat->SV
 |some v=>.fown h v 0
 |none=>.val (.pointer none)
theorem pE{N:Nat->NO}{n a k m:Nat}{sz:Int}{mk:B}{l:List (bQ×Nat×Nat)}{q:Nat}(h1:N n=.node a k m sz mk)(h2:N m=.map l q)(b:UInt8):yR N n b=(mget l (fY b)).map (·.1):=by
 grind[yR]
theorem S9{V:Type}{l:List (bQ×V×Nat)}{k:bQ}{v:V}{t:Nat}(h:mget l k=some (v,t)):∃x∈l,x.1=k/\x.2.1=v:=by
 induction l with
 |nil=>cases h
 |cons x r ih =>
  simp only[mget]at h
  grind
theorem _root_.T1.Cl.kid{N:Nat->NO}{c n v:Nat}{b:UInt8}(h:Cl N c)(hk:yR N n b=some v):isNode N v:=by
 unfold yR at hk;split at hk
 .rename_i a k m sz mk h1;split at hk
  .rename_i l q h2;cases hm:mget l (fY b) with
   |none=>grind
   |some p =>
    rw[hm]at hk;obtain⟨v',t⟩:=p;obtain rfl:v'=v:=by grind
    obtain⟨x,hx,_,rfl⟩:=S9 hm;exact(h.ent _ _ _ h2 x hx).2
  .cases hk
 .cases hk
def g56:List Nat:=[8,0,20,1,6,5,4]
def c56:aY :=
 .seq (.region g56 [(zo 4 (.move (.c (.nilptr))))]) (.seq (.seq (.region g56 [(mv 7 0),(zo 8 (.ptrEq false (.s 7) (.c (.nilptr))))]) (.cond (.s 8) (.seq (.region g56 [(zo 4 (.move (.c (.nilptr))))]) .ret) .skip)) (.seq (.region g56 [(mv 9 0),(zo 10 (.nilCheck (.s 9))),(fa 11 0 10),(ld 12 11),(mv 5 12)]) (.seq (.seq (.region g56 [(zo 6 (.move (cj 0)))]) (.block 0 (.loop 0 [13,14,15,16,17,18,19,20,23,24,25,26,27,28,29,30,5,21,22,6] (.seq (.seq (.region g56 [(mv 13 6),(mv 14 1),(zo 15 (.lenStr (.s 14))),(zo 16 (.bin (.lss) (.s 13) (.s 15))),(mv 17 16),(mg 18 17 true 5),(zg 19 17 true (.ptrEq true (.s 18) (.c (.nilptr)))),(zo 20 (.pick (.s 17) (.s 19) cF))]) (.cond (.s 20) .skip (.exit 0))) (.seq (.block 1 (.seq (.drawn [8,0,20,1,6,5,4,30] (.pure 0 (mv 23 5) (.pure 1 (zo 24 (.nilCheck (.s 23))) (.pure 2 (fa 25 1 24) (.pure 4 (mv 27 1) (.pure 5 (mv 28 6) (.pure 6 (zo 29 (.idxStr (.s 27) (.s 28))) (.eff 3 (ld 26 25) [] (.eff 7 (zo 30 (.mlook (.nilptr) false (.i (.u8)) (.s 26) (.s 29))) [] .done .none) .none)))))))) (.region g56 [(mv 5 30)]))) (.region g56 [(mv 21 6),(zo 22 (.bin (.add) (.s 21) (cj 1))),(mv 6 22)])))))) (.seq (.region g56 [(mv 31 5),(mv 4 31)]) .ret))))
theorem e56:bO Tryz.prog 56 g56 [] [26] []=some (c56,[.slot 4],32):=by kernel_rfl
def atS:bC where
 X:=Nat×(Nat->NO)×Nat×B
 Y:=Option Nat
 args:=λx=>.cons (.own 0 0) (.cons (.str x.2.2.2) .nil)
 pre:=λx=>Cl x.2.1 x.2.2.1/\isNode x.2.1 x.1/\x.2.2.2.length<4611686018427387904
 h0:=λx=>tH 0 1 x.1 x.2.1
 nx0:=2
 post:=λx y=>y=atN x.2.1 x.1 x.2.2.2
 res:=λ_ y=>aFq 1 y
 h1:=λx _=>tH 0 1 x.1 x.2.1
 nx1:=2
theorem B4:atS.Ok Tryz.prog 56:=by
 refine Eng.bC.okR e56 .nil (λ_=>[]) (λ_ _=>aO.nil) ?_;rintro⟨r,N,c,p⟩ ⟨(hc:Cl N c),(hr:isNode N r),(hp:p.length<4611686018427387904)⟩;refine⟨trivial,?_⟩;repeat' (first|apply aA|exact zf|refine zt ?_|fail)
 refine⟨⟨Nat×Option Nat,λx=>x.1<=p.length/\(∀v,x.2=some v->isNode N v)/\(x.2.bind λv=>atN N v (p.drop x.1))=atN N r p,λx=>[(6,.int .i64 (x.1:Int)),(5,aFq 1 x.2)],λ_=>[],λx=>p.length-x.1⟩,(0,some r),?_,?_,?_⟩
 .simp [*]
 .repeat' (first|apply aA|exact trivial|exact rfl|exact zm N rfl|fail)
 rintro⟨i,o⟩ ⟨(k0:i<=p.length),(k1:∀v,o=some v->isNode N v),(k2:(o.bind λv=>atN N v (p.drop i))=atN N r p)⟩;cases o with
 |none =>
  have k3:none=atN N r p:=k2;have kt:bN (decide ((i:Int)<(p.length:Int))) (.s 19) cF false false=false:=by rw[bW]; simp
  repeat' (first|refine aA ?_ ?_)
  .exact (by grind)
  .refine λ(h:bN (decide ((i:Int)<(p.length:Int))) (.s 19) cF (!true) false=false)=>?_;repeat' (first|apply aA|exact trivial|exact rfl|exact zm N rfl|exact k3|refine aB none ?_|fail)
 |some v =>
  obtain⟨a,n,m,sz,mk,hv⟩:=k1 v rfl;obtain⟨l,q,hm⟩:=hc.kids _ _ _ _ _ _ hv;have kt:bN (decide ((i:Int)<(p.length:Int))) (.s 19) cF true false=decide ((i:Int)<(p.length:Int)):=by rw[bW]; simp
  repeat' (first|refine aA ?_ ?_)
  .refine λ(h:bN (decide ((i:Int)<(p.length:Int))) (.s 19) cF true false=true)=>?_;have h1:i<p.length:=by grind
   have g0:(0:Int)<=(i:Int):=by omega
   have g1:(i:Int)<(p.length:Int):=by omega
   have g2:-9223372036854775808<=(i:Int)+1:=by omega
   have g3:(i:Int)+1<=9223372036854775807:=by omega
   have g4:i+1<=p.length:=h1;have g5:p.length-(i+1)<p.length-i:=by omega
   have hd:p.drop i=p.getD i 0::p.drop (i+1):=by simp[*]
   have k3:(match yR N v (p.getD i 0) with|none=>none|some v=>atN N v (p.drop (i+1)))=atN N r p:=by rw[<- k2,hd]; rfl
   rw[pE hv hm]at k3;repeat' (first|apply aA|exact trivial|(with_reducible first|exact g0|exact g1))
   refine aB (noO 1 (.node a n m sz mk)) (aA (congrArg (noO 1) hv) ?_);repeat' (first|apply aA|exact trivial)
   refine aB (noO 1 (.map l q)) (aA (congrArg (noO 1) hm) ?_);cases hl:mget l (fY (p.getD i 0)) with
   |none =>
    rw[hl]at k3;have k4:(Option.bind none λv=>atN N v (p.drop (i+1)))=atN N r p:=k3;refine mZ.E4 hl ?_;have k5:∀v,(none:Option Nat)=some v->isNode N v:=(by grind);repeat' (first|apply aA|exact trivial|(with_reducible first|exact g2|exact g3))
    refine aB (i+1,none) ?_;repeat' (first|apply aA|exact trivial|exact rfl|exact zm N rfl|(with_reducible first|exact g4|exact k4)|omega|fail)
   |some e =>
    obtain⟨u,t⟩:=e;rw[hl]at k3;have k4:((some u:Option Nat).bind λv=>atN N v (p.drop (i+1)))=atN N r p:=k3;refine mZ.zI hl ?_;have k5:∀v,(some u:Option Nat)=some v->isNode N v:=λw e=>by cases e; exact hc.kid (n:=v) (b:=p.getD i 0) (by grind[pE])
    repeat' (first|apply aA|exact trivial|(with_reducible first|exact g2|exact g3))
    refine aB (i+1,some u) ?_;repeat' (first|apply aA|exact trivial|exact rfl|exact zm N rfl|(with_reducible first|exact g4|exact k4)|omega|fail)
  .refine λ(h:bN (decide ((i:Int)<(p.length:Int))) (.s 19) cF true false=false)=>?_;have h1:i=p.length:=by grind
   have k3:some v=atN N r p:=by rw[<- k2,h1,iQ]; rfl
   repeat' (first|apply aA|exact trivial|exact rfl|exact zm N rfl|exact k3|refine aB (some v) ?_|fail)
end T2
end
section
set_option maxHeartbeats 10000000
open Go Go.Eng Go.Proofs T1
set_option maxRecDepth 100000
namespace T3
theorem fS(k:Keep)(hp:List (Nat×aL))(m:Nat)(s:B):sub k hp (m+3) (idE s) (idE s):=⟨rfl,trivial⟩
def slE(l:List B):SV:=.slice 1 l.length λi=>idE (l.getD i [])
def Af(l:List B)(v:B):Int:=match (List.range l.length).find? (λi=>decide (v=l.getD i [])) with
 |some i=>i
 |none=>-1
theorem aBg{l:List B}{v:B}{k:Nat}(hk:k<l.length)(he:v=l.getD k [])(h:∀j,j<k->v≠l.getD j []):Af l v=k:=by
 grind[Af,List.find?_range_eq_some]
theorem aBh{l:List B}{v:B}(h:∀j,j<l.length->v≠l.getD j []):Af l v=-1:=by
 grind[Af]
theorem Wp{l:List B}{v:B}:decide (0<=Af l v)=decide (v∈l):=by
 rw[bH,decide_eq_true_iff,decide_eq_true_iff];unfold Af;split
 .grind
 .rename_i hi;have:=kA.1 hi;constructor
  .omega
  .intro hv;obtain⟨i,h1,h2⟩:=bG hv;exact absurd (this i (by simpa using h1)) (by simp[h1,h2])
def g96:List Nat:=[7,9,1,0,16,5,8,4]
def c96:aY :=
 .seq (.region g96 [(zo 4 (.move (cj 0)))]) (.seq (.seq (.region g96 [(mv 6 0),(zo 7 (.lenSl (.s 6))),(zo 8 (.move (cj 0)))]) (.block 0 (.loop 0 [9,10,5,11,12,13,14,15,16,17,4,18,8] (.seq (.region g96 [(zo 9 (.bin (.lss) (.s 8) (.s 7)))]) (.seq (.cond (.s 9) .skip (.exit 0)) (.seq (.block 1 (.seq (.region g96 [(mv 10 8),(mv 5 10)]) (.seq (.region g96 [(mv 11 1),(mv 12 0),(mv 13 5),(zo 14 (.idxSl 1 (.s 12) (.s 13))),(ld 15 14),(zo 16 (.bin (.eql) (.s 11) (.s 15)))]) (.cond (.s 16) (.seq (.region g96 [(mv 17 5),(mv 4 17)]) .ret) .skip)))) (.region g96 [(zo 18 (.bin (.add) (.s 8) (cj 1))),(mv 8 18)]))))))) (.seq (.region g96 [(zo 4 (.move (cj (-1))))]) .ret))
theorem e96:bO Tryz.prog 96 g96 [] [] []=some (c96,[.slot 4],19):=by kernel_rfl
def aEz:Eng.Spec where
 X:=List B×B
 args:=λx=>.cons (slE x.1) (.cons (.str x.2) .nil)
 pre:=λx=>x.1.length<=1000000
 res:=λx=>.int .i64 (Af x.1 x.2)
 inst:=λ_=>none
theorem aB3:aEz.Ok Tryz.prog 96:=by
 refine Eng.Spec.okR e96 .nil (λ_=>[]) (λ_ _=>aO.nil) ?_;rintro⟨l,v⟩ (hn:l.length<=1000000);refine⟨trivial,?_⟩;refine⟨⟨Nat,λk=>k<=l.length/\∀j,j<k->v≠l.getD j [],λk=>[(8,.int .i64 (k:Int))],λ_=>[],λk=>l.length-k⟩,0,⟨aS _,(by grind)⟩,?_,?_⟩
 .repeat' (first|apply aA|exact trivial|exact rfl|exact lz λ_=>rfl|fail)
 rintro(k:Nat) ⟨(hk:k<=l.length),(hf:∀j,j<k->v≠l.getD j [])⟩;repeat' (first|refine aA ?_ ?_)
 .refine λ(hg:decide ((k:Int)<(l.length:Int))=true)=>?_;have h1:(k:Int)<(l.length:Int):=of_decide_eq_true hg;have h0:(0:Int)<=(k:Int):=by omega
  have b1:-9223372036854775808<=(k:Int)+1:=by omega
  have b2:(k:Int)+1<=9223372036854775807:=by omega
  have hkl:k<l.length:=by omega
  repeat' (first|refine aA ?_ ?_)
  .exact h0
  .exact h1
  .refine λ(hv:decide (v=l.getD (k:Int).toNat [])=true)=>?_;have e:(k:Int)=Af l v:=(aBg hkl (of_decide_eq_true hv) hf).symm;repeat' (first|apply aA|exact rfl|exact e)
  .refine λ(hv:decide (v=l.getD (k:Int).toNat [])=false)=>?_;have hne:v≠l.getD k []:=of_decide_eq_false hv;repeat' (first|refine aA ?_ ?_)
   .exact b1
   .exact b2
   refine aB (k+1) ?_;repeat' (first|apply aA|exact trivial|exact rfl)
   .exact hkl
   .grind
   .exact lz λ_=>rfl
   grind
 .refine λ(hg:decide ((k:Int)<(l.length:Int))=false)=>?_;have h1:¬(k:Int)<(l.length:Int):=of_decide_eq_false hg;have hkl:k=l.length:=by omega
  subst hkl;have e:-1=Af l v:=(aBh hf).symm;repeat' (first|apply aA|exact rfl|exact e)
def aEy:bC:=aEz.mof Int (λx y=>y=Af x.1 x.2) (λ_ y=>.int .i64 y)
theorem aB2:aEy.Ok Tryz.prog 96:=Eng.Spec.jW aB3 λ_ _=>⟨_,rfl,rfl⟩
def g66:List Nat:=[0,1,4]
def c66:aY :=
 .seq (.region g66 [(zo 4 (.move cF))]) (.seq (.region g66 [(mv 5 0),(mv 6 1),(zo 7 (.call (.c (.fn 96)) [.s 5,.s 6])),(zo 8 (.bin (.geq) (.s 7) (cj 0))),(mv 4 8)]) .ret)
theorem e66:bO Tryz.prog 66 g66 [] [] []=some (c66,[.slot 4],9):=by kernel_rfl
def aEb:Eng.Spec where
 X:=List B×B
 args:=λx=>.cons (slE x.1) (.cons (.str x.2) .nil)
 pre:=λx=>x.1.length<=1000000
 res:=λx=>.bool (decide (x.2∈x.1))
 inst:=λ_=>none
theorem aAx:aEb.Ok Tryz.prog 66:=by
 refine Eng.Spec.okR e66 .nil (λ_=>[(96,.m aEy)]) (λ_ _=>aO.m aB2 aO.nil) ?_;rintro⟨l,v⟩ (hn:l.length<=1000000);refine⟨trivial,?_⟩;refine aB (l,v) (aB [] ?_);repeat' (first|apply aA|exact trivial|exact rfl|exact lz λ_=>rfl|exact hn)
 refine λ(y:Int) (hy:y=Af l v)=>?_;have e:decide (0<=y)=decide (v∈l):=by simp_all[Wp]
 repeat' (first|exact e)
def aEa:bC:=aEb.mof Bool (λx y=>y=decide (x.2∈x.1)) (λ_ y=>.bool y)
theorem aAv:aEa.Ok Tryz.prog 66:=Eng.Spec.jW aAx λ_ _=>⟨_,rfl,rfl⟩
end T3
end
section
set_option maxHeartbeats 10000000
open Go Go.Eng Go.Proofs T1 T3
set_option maxRecDepth 100000
namespace T4
abbrev bl:=Op.bytesLess
theorem It(a:B):bl a []=false:=by cases a<;>rfl
theorem Di(a b:UInt8)(x y:B):bl (a::x) (b::y)=(decide (a<b) || (a == b && bl x y)):=rfl
theorem Dj{a b:UInt8}{x y:B}:bl (a::x) (b::y)=true↔a<b\/(a=b/\bl x y=true):=by rw[Di]; simp
theorem uI:∀a:B,bl a a=false:=by
 intro a;induction a with
 |nil=>rfl
 |cons x r ih=>simp_all[Di]
theorem vK:∀{a b c:B},bl a b=true->bl b c=true->bl a c=true:=by
 intro a;induction a with
 |nil =>
  intro b c h1 h2;cases c with
  |nil=>grind[It]
  |cons z t=>rfl
 |cons x r ih =>
  intro b c h1 h2;cases b with
  |nil=>grind[It]
  |cons y s =>
   cases c with
   |nil=>grind[It]
   |cons z t =>
    rw[Dj]at h1 h2 ⊢
    grind
theorem Qr:∀{a b:B},bl a b=false->bl b a=false->a=b:=by
 intro a;induction a with
 |nil=>intro b h1 h2; cases b with
  |nil=>rfl
  |cons y s=>cases h1
 |cons x r ih =>
  intro b h1 h2;cases b with
  |nil=>cases h2
  |cons y s =>
   have n1:¬(x<y\/(x=y/\bl r s=true)):=(by grind[Dj]);have n2:¬(y<x\/(y=x/\bl s r=true)):=(by grind[Dj])
   grind
theorem V0{a b:B}(h:bl a b=true):bl b a=false:=by
 cases e:bl b a with
 |false=>rfl
 |true=>grind[vK,uI]
def Srt(l:List B):Prop:=l.Pairwise λa b=>bl a b=true
def eV(l:List B)(v:B):Nat:=l.countP λx=>bl x v
theorem Srt.lt{l:List B}(h:Srt l){i j:Nat}(hij:i<j)(hj:j<l.length):bl (l.getD i []) (l.getD j [])=true:=by
 have:=List.pairwise_iff_getElem.1 h i j (by omega) hj hij
 grind
theorem zK(l:List B)(v:B):eV l v<=l.length:=List.countP_le_length
theorem Hj{x:B}{l:List B}{v:B}(h:bl x v=true):eV (x::l) v=eV l v+1:=by simp[eV,h]
theorem Tw{l:List B}(_h:Srt l){v:B}(h0:∀x∈l,bl x v=false):eV l v=0:=by
 grind[eV]
theorem tN:∀{l:List B},Srt l->∀(v:B) {i:Nat},i<l.length->(bl (l.getD i []) v=true↔i<eV l v):=by
 intro l;induction l with
 |nil=>simp
 |cons x r ih =>
  intro h v i hi;have hx:=aT.1 h;cases hb:bl x v with
  |true =>
   rw[Hj hb];cases i with
   |zero=>simp[hb]
   |succ i =>
    have:=ih hx.2 v (i:=i) (by grind)
    grind
  |false =>
   have h0:∀y∈x::r,bl y v=false:=by
    intro y hy;rcases aR.1 hy with rfl|hy
    .exact hb
    .cases e:bl y v with
     |false=>rfl
     |true=>grind[vK]
   rw[Tw h h0]
   grind
theorem zL{l:List B}(h:Srt l)(v:B):v∈l↔eV l v<l.length/\l.getD (eV l v) []=v:=by
 constructor
 .intro hv;obtain⟨i,hi,e⟩:=bG hv;have e':l.getD i []=v:=by simp[hi,e]
  have h1:¬i<eV l v:=λh'=>by
   have:=(tN h v hi).2 h';rw[e',uI]at this;cases this
  have h2:¬eV l v<i:=λh'=>by
   have:=h.lt h' hi;rw[e']at this;exact absurd ((tN h v (Nat.lt_trans h' hi)).1 this) (Nat.lt_irrefl _)
  grind
 grind
def g97:List Nat:=[0,2]
def c97:aY :=
 .seq (.region g97 [(zo 2 (.move cF))]) (.seq (.region g97 [(mv 3 0),(mv 4 0),(zo 5 (.bin (.neq) (.s 3) (.s 4))),(mv 2 5)]) .ret)
theorem e97:bO Tryz.prog 97 g97 [] [] []=some (c97,[.slot 2],6):=by kernel_rfl
def g68:List Nat:=[0,2]
def c68:aY :=
 .seq (.region g68 [(zo 2 (.move cF))]) (.seq (.region g68 [(mv 3 0),(mv 4 0),(zo 5 (.bin (.neq) (.s 3) (.s 4))),(mv 2 5)]) .ret)
theorem e68:bO Tryz.prog 68 g68 [] [] []=some (c68,[.slot 2],6):=by kernel_rfl
def J5:Eng.Spec where
 X:=B
 args:=λx=>.cons (.str x) .nil
 pre:=λ_=>True
 res:=λ_=>.bool false
 inst:=fun
  |.cons (.str s) _=>some s
  |_=>none
theorem Xm:J5.Ok Tryz.prog 97:=by
 refine Eng.Spec.okR e97 .nil (λ_=>[]) (λ_ _=>aO.nil) ?_;rintro(x:B) _;refine⟨trivial,?_⟩;have e:(!decide (x=x))=false:=by simp
 repeat' (first|exact e)
theorem Xn:J5.Ok Tryz.prog 68:=by
 refine Eng.Spec.okR e68 .nil (λ_=>[]) (λ_ _=>aO.nil) ?_;rintro(x:B) _;refine⟨trivial,?_⟩;have e:(!decide (x=x))=false:=by simp
 repeat' (first|exact e)
def g67:List Nat:=[0,1,4]
def c67:aY :=
 .seq (.region g67 [(zo 4 (.move cF))]) (.seq (.region g67 [(mv 5 0),(zo 6 (.call (.c (.fn 97)) [.s 5])),(mv 7 6),(mg 8 7 true 1),(zg 9 7 true (.call (.c (.fn 97)) [.s 8])),(zg 10 7 true (.not (.s 9))),(zo 11 (.pick (.s 7) (.s 10) cF)),(mv 12 11),(mg 13 12 false 0),(mg 14 12 false 1),(zg 15 12 false (.bin (.lss) (.s 13) (.s 14))),(zo 16 (.pick (.s 12) cT (.s 15))),(mv 4 16)]) .ret)
theorem e67:bO Tryz.prog 67 g67 [] [] []=some (c67,[.slot 4],17):=by kernel_rfl
def wC:Eng.Spec where
 X:=B×B
 args:=λx=>.cons (.str x.1) (.cons (.str x.2) .nil)
 pre:=λ_=>True
 res:=λx=>.bool (bl x.1 x.2)
 inst:=fun
  |.cons (.str s) (.cons (.str t) _)=>some (s,t)
  |_=>none
theorem qY:wC.Ok Tryz.prog 67:=by
 refine Eng.Spec.okR e67 .nil (λ_=>[(97,.p J5)]) (λ_ _=>aO.p Xm aO.nil) ?_;rintro⟨a,b⟩ _;refine⟨trivial,?_⟩;repeat' (first|apply aA|exact trivial|exact rfl|exact λ(h:false=true)=>Bool.noConfusion h|fail)
def g43:List Nat:=[15,27,9,8,6,0,7,1,4,5]
def c43:aY :=
 .seq (.region g43 [(zo 4 (.move (cj 0))),(zo 5 (.move cF))]) (.seq (.region g43 [(mv 10 0),(zo 11 (.lenSl (.s 10))),(mv 6 11)]) (.seq (.region g43 [(mv 12 6),(zo 7 (.move (cj 0))),(mv 8 12)]) (.seq (.block 0 (.loop 0 [13,14,15,16,17,18,19,20,21,9,22,23,24,25,26,27,28,29,7,30,8] (.seq (.seq (.region g43 [(mv 13 7),(mv 14 8),(zo 15 (.bin (.lss) (.s 13) (.s 14)))]) (.cond (.s 15) .skip (.exit 0))) (.block 1 (.seq (.region g43 [(mv 16 7),(mv 17 8),(zo 18 (.bin (.add) (.s 16) (.s 17))),(zo 19 (.cnv (.u64) (.s 18))),(zo 20 (.bin (.shr) (.s 19) (.c (.int (.u64) 1)))),(zo 21 (.cnv .i64 (.s 20))),(mv 9 21)]) (.seq (.region g43 [(mv 22 0),(mv 23 9),(zo 24 (.idxSl 1 (.s 22) (.s 23))),(ld 25 24),(mv 26 1),(zo 27 (.call (.c (.fn 67)) [.s 25,.s 26]))]) (.cond (.s 27) (.region g43 [(mv 28 9),(zo 29 (.bin (.add) (.s 28) (cj 1))),(mv 7 29)]) (.region g43 [(mv 30 9),(mv 8 30)])))))))) (.seq (.region g43 [(mv 31 7),(mv 32 7),(mv 33 6),(zo 34 (.bin (.lss) (.s 32) (.s 33))),(mv 35 34),(mg 36 35 true 0),(mg 37 35 true 7),(zg 38 35 true (.idxSl 1 (.s 36) (.s 37))),(lg 39 35 true 38),(mg 40 35 true 1),(zg 41 35 true (.bin (.eql) (.s 39) (.s 40))),(mg 42 35 true 41),(mg 43 42 false 0),(mg 44 42 false 7),(zg 45 42 false (.idxSl 1 (.s 43) (.s 44))),(lg 46 42 false 45),(zg 47 42 false (.call (.c (.fn 68)) [.s 46])),(mg 48 42 false 47),(mg 49 48 true 1),(zg 50 48 true (.call (.c (.fn 68)) [.s 49])),(zg 51 42 false (.pick (.s 48) (.s 50) cF)),(zg 52 35 true (.pick (.s 42) cT (.s 51))),(zo 53 (.pick (.s 35) (.s 52) cF)),(mv 4 31),(mv 5 53)]) .ret))))
theorem e43:bO Tryz.prog 43 g43 [] [] []=some (c43,[.slot 4,.slot 5],54):=by kernel_rfl
def aD2:Eng.Spec where
 X:=List B×B
 args:=λx=>.cons (slE x.1) (.cons (.str x.2) .nil)
 pre:=λx=>x.1.length<=1000000/\Srt x.1
 res:=λx=>.tup (.cons (.int .i64 (eV x.1 x.2:Int)) (.cons (.bool (decide (x.2∈x.1))) .nil))
 inst:=λ_=>none
theorem aAn:aD2.Ok Tryz.prog 43:=by
 refine Eng.Spec.okR e43 .nil (λ_=>[(67,.p wC),(68,.p J5)]) (by grind[aO.p,qY,Xn,aO.nil]) ?_;rintro⟨l,v⟩ ⟨(hn:l.length<=1000000),(hs:Srt l)⟩;refine⟨trivial,?_⟩;refine⟨⟨Nat×Nat,λk=>k.1<=k.2/\k.2<=l.length/\k.1<=eV l v/\eV l v<=k.2,λk=>[(7,.int .i64 (k.1:Int)),(8,.int .i64 (k.2:Int))],λ_=>[],λk=>k.2-k.1⟩,(0,l.length),⟨aS _,aN _,aS _,zK l v⟩,?_,?_⟩
 .repeat' (first|apply aA|exact trivial|exact rfl|exact lz λ_=>rfl|fail)
 rintro⟨i,j⟩ ⟨(k1:i<=j),(k2:j<=l.length),(k3:i<=eV l v),(k4:eV l v<=j)⟩;repeat' (first|refine aA ?_ ?_)
 .refine λ(hg:decide ((i:Int)<(j:Int))=true)=>?_;have hij:(i:Int)<(j:Int):=of_decide_eq_true hg;have b1:-9223372036854775808<=(i:Int)+(j:Int):=by omega
  have b2:(i:Int)+(j:Int)<=9223372036854775807:=by omega
  have b3:(0:Int)<=(i:Int)+(j:Int):=by omega
  have b4:(i:Int)+(j:Int)<=18446744073709551615:=by omega
  have b5:(0:Int)<=1:=by decide
  have em:shI .shr .u64 ((i:Int)+(j:Int)) 1=(((i+j)/2:Nat):Int):=by
   show((i:Int)+(j:Int)).fdiv (2^(min (1:Int).toNat IntKind.u64.bits))=_;have e1:(2:Int)^(min (1:Int).toNat IntKind.u64.bits)=2:=by decide
   grind
  have c1:-9223372036854775808<=shI .shr .u64 ((i:Int)+(j:Int)) 1:=by omega
  have c2:shI .shr .u64 ((i:Int)+(j:Int)) 1<=9223372036854775807:=by omega
  have c3:0<=shI .shr .u64 ((i:Int)+(j:Int)) 1:=by omega
  have c4:shI .shr .u64 ((i:Int)+(j:Int)) 1<(l.length:Int):=by omega
  have hm:(i+j)/2<l.length:=by omega
  repeat' (first|apply aA|exact trivial|exact rfl|(with_reducible first|exact b1|exact b2|exact b3|exact b4|exact b5|exact c1|exact c2|exact c3|exact c4))
  .refine λ(hb:bl (l.getD (shI .shr .u64 ((i:Int)+(j:Int)) 1).toNat []) v=true)=>?_;have hb':bl (l.getD ((i+j)/2) []) v=true:=by grind
   have hp:=(tN hs v hm).1 hb';have d1:-9223372036854775808<=shI .shr .u64 ((i:Int)+(j:Int)) 1+1:=by omega
   have d2:shI .shr .u64 ((i:Int)+(j:Int)) 1+1<=9223372036854775807:=by omega
   have d3:shI .shr .u64 ((i:Int)+(j:Int)) 1+1=(((i+j)/2+1:Nat):Int):=by omega
   have f1:(i+j)/2+1<=j:=by omega
   have f2:(i+j)/2+1<=eV l v:=hp;have f3:j-((i+j)/2+1)<j-i:=by omega
   repeat' (first|apply aA|(with_reducible first|exact d1|exact d2))
   refine aB ((i+j)/2+1,j) ?_;repeat' (first|apply aA|exact trivial|exact rfl|exact lz λ_=>rfl|(with_reducible first|exact d3|exact f1|exact k2|exact f2)|omega|fail)
  .refine λ(hb:bl (l.getD (shI .shr .u64 ((i:Int)+(j:Int)) 1).toNat []) v=false)=>?_;have hb':bl (l.getD ((i+j)/2) []) v=false:=by grind
   have hp:¬(i+j)/2<eV l v:=(by grind[tN]);have f1:i<=(i+j)/2:=by omega
   have f2:(i+j)/2<=l.length:=by omega
   have f4:eV l v<=(i+j)/2:=by omega
   have f3:(i+j)/2-i<j-i:=by omega
   refine aB (i,(i+j)/2) ?_;repeat' (first|apply aA|exact trivial|exact rfl|exact lz λ_=>rfl|(with_reducible first|exact em|exact f1|exact f2|exact k3)|omega|fail)
 .refine λ(hg:decide ((i:Int)<(j:Int))=false)=>?_;have hij:¬(i:Int)<(j:Int):=of_decide_eq_false hg;have e:i=eV l v:=by omega
  subst e;have h0:(0:Int)<=(eV l v:Int):=by omega
  have em:bN (decide ((eV l v:Int)<(l.length:Int))) (.s 35) cF (bN (decide (l.getD (eV l v:Int).toNat []=v)) cT (.s 51) true (bN false (.s 50) cF false false)) false=decide (v∈l):=by
   rw[bW,bH,aI,decide_eq_true_iff,decide_eq_true_iff,zL hs v];have hx:bN (decide (l.getD (eV l v:Int).toNat []=v)) cT (.s 51) true (bN false (.s 50) cF false false)=decide (l.getD (eV l v) []=v):=by
    grind[bN]
   grind
  repeat' (first|apply aA|exact trivial|exact rfl|exact em)
  .exact λ(h:decide ((eV l v:Int)<(l.length:Int))=true)=>aA h0 (of_decide_eq_true h)
  .exact λh=>aA h0 (of_decide_eq_true h.2)
  .exact λh=>aA trivial (aA rfl trivial)
  .exact λh=>Bool.noConfusion h.1
def aAm:bC:=aD2.mof (Nat×Bool) (λx y=>y=(eV x.1 x.2,decide (x.2∈x.1))) (λ_ y=>.tup (.cons (.int .i64 (y.1:Int)) (.cons (.bool y.2) .nil)))
theorem Qt:aAm.Ok Tryz.prog 43:=Eng.Spec.jW aAn λ_ _=>⟨_,rfl,rfl⟩
end T4
end
