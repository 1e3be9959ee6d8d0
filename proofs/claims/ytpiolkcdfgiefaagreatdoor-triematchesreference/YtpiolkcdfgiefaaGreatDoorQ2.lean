/- A part of the proof. -/
import Derived.Test.YtpiolkcdfgiefaaGreatDoorD14
import Derived.Test.YtpiolkcdfgiefaaGreatDoorT37
import Derived.Test.YtpiolkcdfgiefaaGreatDoorQ5
import Derived.Test.YtpiolkcdfgiefaaGreatDoorT28
import Derived.Lib.ItoaLen
section
set_option maxHeartbeats 10000000
open Go Go.Eng Go.Proofs A0 T1 T3 T4 T6 T10 T11 T21 T25 T27 T33 T34 T35 T37
set_option maxRecDepth 100000
namespace Q6
def ltK(a b:Ky):Bool:=bif !decide (a.1=b.1)then bl a.1 b.1 else bl a.2 b.2
def g75:List Nat:=[0,1,9,2,3,4]
def c75:aY :=
 .seq (.region g75 [(zo 2 (.box 32 (.s 0))),(zo 3 (.box 32 (.s 1))),(zo 4 (.move cF))]) (.seq (.seq (.region g75 [(fa 5 0 2),(ld 6 5),(fa 7 0 3),(ld 8 7),(zo 9 (.bin (.neq) (.s 6) (.s 8)))]) (.cond (.s 9) (.seq (.region g75 [(fa 10 0 2),(ld 11 10),(fa 12 0 3),(ld 13 12),(zo 14 (.bin (.lss) (.s 11) (.s 13))),(mv 4 14)]) .ret) .skip)) (.seq (.region g75 [(fa 15 1 2),(ld 16 15),(fa 17 1 3),(ld 18 17),(zo 19 (.bin (.lss) (.s 16) (.s 18))),(mv 4 19)]) .ret))
theorem e75:bO Tryz.prog 75 g75 [] [] []=some (c75,[.slot 4],20):=by kernel_rfl
def aDz:Eng.Spec where
 X:=Ky×Ky
 args:=λx=>.cons (.agg (jN x.1)) (.cons (.agg (jN x.2)) .nil)
 pre:=λ_=>True
 res:=λx=>.bool (ltK x.1 x.2)
 inst:=fun
  |.cons (.agg (.cons (.str a) (.cons (.str b) .nil))) (.cons (.agg (.cons (.str c) (.cons (.str d) .nil))) _)=>some ((a,b),(c,d))
  |_=>none
theorem aAj:aDz.Ok Tryz.prog 75:=by
 refine Eng.Spec.okR e75 .nil (λ_=>[]) (λ_ _=>aO.nil) ?_;rintro⟨a,b⟩ (_:True);refine⟨trivial,?_⟩;repeat' (first|refine aA ?_ ?_)
 .refine λ(h:(!decide (a.1=b.1))=true)=>?_;have e:bl a.1 b.1=ltK a b:=by grind[ltK]
  repeat' (first|exact e)
 .refine λ(h:(!decide (a.1=b.1))=false)=>?_;have e:bl a.2 b.2=ltK a b:=by grind[ltK]
  repeat' (first|exact e)
def rtH(b:Nat)(L:List Ky):List (Nat×aL):=[(0,.cells 79 (.cons (.lsl b 2 L.length) .nil)),ksH b L]
def g50:List Nat:=[1,12,0,3,23,5,4]
def c50:aY :=
 .seq (.region g50 [(zo 3 (.box 32 (.s 1))),(zo 4 (.move (cj 0)))]) (.seq (.seq (.region g50 [(zo 5 (.move (cj 0)))]) (.block 0 (.loop 0 [6,7,8,9,10,11,12,15,16,17,18,19,20,21,22,23,24,4,13,14,5] (.seq (.seq (.region g50 [(mv 6 5),(mv 7 0),(zo 8 (.nilCheck (.s 7))),(fa 9 0 8),(ld 10 9),(zo 11 (.lenSl (.s 10))),(zo 12 (.bin (.lss) (.s 6) (.s 11)))]) (.cond (.s 12) .skip (.exit 0))) (.seq (.block 1 (.seq (.drawn g50 (.pure 0 (mv 15 0) (.pure 1 (zo 16 (.nilCheck (.s 15))) (.pure 2 (fa 17 0 16) (.pure 3 (ld 18 17) (.pure 4 (mv 19 5) (.pure 5 (zo 20 (.idxSl 2 (.s 18) (.s 19))) (.pure 6 (zo 21 (.load 2 true (.s 20))) (.pure 7 (zo 22 (.load 2 true (.s 3))) (.pure 8 (zo 23 (.eqS false [(0,2),(1,2)] (.s 21) (.s 22))) .done)))))))))) (.cond (.s 23) (.seq (.region g50 [(mv 24 5),(mv 4 24)]) .ret) .skip))) (.region g50 [(mv 13 5),(zo 14 (.bin (.add) (.s 13) (cj 1))),(mv 5 14)])))))) (.seq (.region g50 [(zo 4 (.move (cj (-1))))]) .ret))
theorem e50:bO Tryz.prog 50 g50 [] [] []=some (c50,[.slot 4],25):=by kernel_rfl
def X6:bC where
 X:=List Ky×Ky
 Y:=Int
 args:=λx=>.cons (.own 0 0) (.cons (.agg (jN x.2)) .nil)
 pre:=λx=>x.1.length<4611686018427387904
 h0:=λx=>rtH 1 x.1
 nx0:=2
 post:=λx y=>y=jJ x.1 x.2
 res:=λ_ y=>.int .i64 y
 h1:=λx _=>rtH 1 x.1
 nx1:=2
theorem Kl:X6.Ok Tryz.prog 50:=by
 refine Eng.bC.okR e50 .nil (λ_=>[]) (λ_ _=>aO.nil) ?_;rintro⟨l,v⟩ (hn:l.length<4611686018427387904);obtain⟨t,i⟩:=v;refine⟨trivial,?_⟩;refine⟨⟨Nat,λk=>k<=l.length/\∀j,j<k->l.getD j k0≠(t,i),λk=>[(5,.int .i64 (k:Int))],λ_=>[(0,.cells 79 (.cons (.lsl 1 2 l.length) .nil)),ksH 1 l,(2,.cells 32 (xK t i))],λk=>l.length-k⟩,0,⟨aS _,λj hj=>absurd hj (cO j)⟩,?_,?_⟩
 .repeat' (first|apply aA|exact trivial|exact rfl|exact lz λ_=>rfl|fail)
 rintro(k:Nat) ⟨(hk:k<=l.length),(hf:∀j,j<k->l.getD j k0≠(t,i))⟩;repeat' (first|refine aA ?_ ?_)
 .refine λ(hg:decide ((k:Int)<(l.length:Int))=true)=>?_;have h1:(k:Int)<(l.length:Int):=of_decide_eq_true hg;have h0:(0:Int)<=(k:Int):=by omega
  have b1:-9223372036854775808<=(k:Int)+1:=by omega
  have b2:(k:Int)+1<=9223372036854775807:=by omega
  have hkl:k<l.length:=by omega
  have heq:(decide ((l.getD (0+(k:Int).toNat) k0).1=t) && (decide ((l.getD (0+(k:Int).toNat) k0).2=i) && true))=decide (l.getD k k0=(t,i)):=by
   rw[cM,aP,bH,decide_eq_true_iff,Prod.ext_iff];simp
  repeat' (first|apply aA|(with_reducible first|exact h0|exact h1))
  .show 0+k<l.length;omega
  .refine λ(h:(decide ((l.getD (0+(k:Int).toNat) k0).1=t) && (decide ((l.getD (0+(k:Int).toNat) k0).2=i) && true))=true)=>?_;rw[heq]at h;have e:(k:Int)=jJ l (t,i):=(aBf hkl (of_decide_eq_true h) hf).symm;refine aB (k:Int) (aA e ?_);repeat' (first|apply aA|exact trivial|exact rfl|exact lz λ_=>rfl|fail)
  .refine λ(h:(decide ((l.getD (0+(k:Int).toNat) k0).1=t) && (decide ((l.getD (0+(k:Int).toNat) k0).2=i) && true))=false)=>?_;rw[heq]at h;have hkl':k+1<=l.length:=hkl;have hf':∀j,j<k+1->l.getD j k0≠(t,i):=λj hj=>by
    by_cases e:j=k
    .rw [e]; exact of_decide_eq_false h
    .exact hf j (by omega)
   have hms:l.length-(k+1)<l.length-k:=by omega
   repeat' (first|apply aA|(with_reducible first|exact b1|exact b2))
   refine aB (k+1) ?_;repeat' (first|exact(⟨hkl',hf'⟩:k+1<=l.length/\∀j,j<k+1->l.getD j k0≠(t,i))|with_reducible exact hms|apply aA|exact trivial|exact rfl|exact lz λ_=>rfl|fail)
 .refine λ(hg:decide ((k:Int)<(l.length:Int))=false)=>?_;have hk2:k=l.length:=by have:=of_decide_eq_false hg; omega
  subst hk2;have e:(-1:Int)=jJ l (t,i):=(Ry hf).symm;refine aB (-1:Int) (aA e ?_);repeat' (first|apply aA|exact trivial|exact rfl|exact lz λ_=>rfl|fail)
def nK(L:List Ky)(k:Ky):List Ky:=L.takeWhile (λa=>ltK a k)++k::L.dropWhile λa=>ltK a k
theorem aBx{l:List Ky}{v:Ky}{j:Nat}(hj:j<=l.length)(h1:∀q,q<j->ltK (l.getD q k0) v=true)(h2:(decide ((j:Int)<(l.length:Int)) && ltK (l.getD j k0) v)=false):nK l v=l.take j++v::l.drop j:=by
 have e:∀(l:List Ky) (j:Nat),j<=l.length->(∀q,q<j->ltK (l.getD q k0) v=true)->(j<l.length->ltK (l.getD j k0) v=false)->l.takeWhile (λa=>ltK a v)=l.take j/\l.dropWhile (λa=>ltK a v)=l.drop j:=by
  intro l;induction l with
  |nil=>simp
  |cons a l ih =>
   intro j hj h1 h2;cases j with
   |zero =>
    simp_all
   |succ j =>
    have ha:=h1 0 (by omega);simp only[List.getD_cons_zero]at ha;obtain⟨e1,e2⟩:=ih j (by grind) (by grind) (by grind);simp[*]
 obtain⟨e1,e2⟩:=e l j hj h1 λhlt=>by
  rw[decide_eq_true (show(j:Int)<(l.length:Int) by omega),jD]at h2;exact h2
 grind[nK]
theorem Yr{l:List Ky}{j:Nat}(h:j<l.length):l.take (j+1)=l.take j++[l.getD j k0]:=by
 simp[*]
theorem aE2{k:Keep}{hp:List (Nat×aL)}{l:List Ky}{j m:Nat}{E:Nat->SV}(h:j<l.length)(he:E 0=jN (l.getD (0+(j:Int).toNat) k0))(hm:m=(l.take j).length+1):∀i,i<m->lM k (sub k hp 200) (gH (l.take j).length (λq=>jN ((l.take j).getD q k0)) E i) (jN ((l.take (j+1)).getD i k0)):=by
 rw[Yr h];rw[cM,aP]at he;exact mK (enc:=jN) (d:=k0) (λa=>kI _ _ _ a) he hm
theorem aCb{k:Keep}{hp:List (Nat×aL)}{l:List Ky}{v:Ky}{j m:Nat}{E:Nat->SV}(hj:j<=l.length)(hins:nK l v=l.take j++v::l.drop j)(he:E 0=jN v)(hm:m=l.length+1):∀i,i<m->lM k (sub k hp 200) (gH ((l.take j).length+1) (gH (l.take j).length (λq=>jN ((l.take j).getD q k0)) E) (λq=>jN (l.getD (0+(j:Int).toNat+q) k0)) i) (jN ((nK l v).getD i k0)):=by
 intro i hi;have hl:(l.take j).length=j:=by simp[*]
 have e:gH ((l.take j).length+1) (gH (l.take j).length (λq=>jN ((l.take j).getD q k0)) E) (λq=>jN (l.getD (0+(j:Int).toNat+q) k0)) i=jN ((nK l v).getD i k0):=by
  rw[hins];unfold gH;rw[D6.wX,D6.wX,cM,aP]
  grind
 rw[e];exact Or.inl (kI _ _ _ _)
def g51:List Nat:=[1,23,3,4,0,5]
def c51:aY :=
 .seq (.region g51 [(zo 3 (.box 32 (.s 1)))]) (.seq (.region g51 [(zo 4 (.move (.c (.nilsl))))]) (.seq (.region g51 [(zo 5 (.move (cj 0)))]) (.seq (.block 0 (.loop 0 [6,7,8,9,10,11,12,13,14,15,16,17,18,19,20,21,22,23,24,25,26,27,28,29,30,31,32,33,4,34,35,5] (.seq (.seq (.drawn g51 (.pure 0 (mv 6 5) (.pure 1 (mv 7 0) (.pure 2 (zo 8 (.nilCheck (.s 7))) (.pure 3 (fa 9 0 8) (.pure 4 (ld 10 9) (.pure 5 (zo 11 (.lenSl (.s 10))) (.pure 6 (zo 12 (.bin (.lss) (.s 6) (.s 11))) (.pure 7 (mv 13 12) (.pure 8 (mg 14 13 true 0) (.pure 9 (zg 15 13 true (.nilCheck (.s 14))) (.pure 10 (fg 16 13 true 0 15) (.pure 11 (lg 17 13 true 16) (.pure 12 (mg 18 13 true 5) (.pure 13 (zg 19 13 true (.idxSl 2 (.s 17) (.s 18))) (.pure 14 (zg 20 13 true (.load 2 true (.s 19))) (.pure 15 (zg 21 13 true (.load 2 true (.s 3))) (.pure 16 (zg 22 13 true (.call (.c (.fn 75)) [.s 20,.s 21])) (.pure 17 (zo 23 (.pick (.s 13) (.s 22) cF)) .done))))))))))))))))))) (.cond (.s 23) .skip (.exit 0))) (.block 1 (.seq (.region g51 [(mv 24 4),(mv 25 0),(zo 26 (.nilCheck (.s 25))),(fa 27 0 26),(ld 28 27),(mv 29 5),(zo 30 (.idxSl 2 (.s 28) (.s 29))),(zo 31 (.load 2 true (.s 30))),(zo 32 (.buildSl 32 2 1 (.cons (.str []) (.cons (.str []) .nil)) [(0,2,.s 31)])),(zo 33 (.app 32 2 32 (.s 24) (.s 32))),(mv 4 33)]) (.region g51 [(mv 34 5),(zo 35 (.bin (.add) (.s 34) (cj 1))),(mv 5 35)])))))) (.seq (.region g51 [(mv 36 4),(zo 37 (.load 2 true (.s 3))),(zo 38 (.buildSl 32 2 1 (.cons (.str []) (.cons (.str []) .nil)) [(0,2,.s 37)])),(zo 39 (.app 32 2 32 (.s 36) (.s 38))),(mv 4 39)]) (.region g51 [(mv 40 0),(mv 41 4),(mv 42 0),(zo 43 (.nilCheck (.s 42))),(fa 44 0 43),(ld 45 44),(mv 46 5),(zo 47 (.sliceSl 2 (.s 45) (some (.s 46)) none)),(zo 48 (.app 32 2 32 (.s 41) (.s 47))),(zo 49 (.nilCheck (.s 40))),(fa 50 0 49),⟨none,none,.store 1 (.s 50) (.s 48),[]⟩])))))
theorem e51:bO Tryz.prog 51 g51 [] [] []=some (c51,[],51):=by kernel_rfl
def aDb:bC where
 X:=List Ky×Ky
 Y:=Unit
 args:=λx=>.cons (.own 0 0) (.cons (.agg (jN x.2)) .nil)
 pre:=λx=>x.1.length<=1000000
 h0:=λx=>rtH 1 x.1
 nx0:=2
 post:=λ_ _=>True
 res:=λ_ _=>.tup .nil
 h1:=λx _=>rtH 2 (nK x.1 x.2)
 nx1:=3
theorem Ul:aDb.Ok Tryz.prog 51:=by
 refine Eng.bC.okR e51 .nil (λ_=>[(75,.p aDz)]) (λ_ _=>aO.p aAj aO.nil) ?_;rintro⟨l,v⟩ (hn:l.length<=1000000);refine⟨trivial,?_⟩;refine⟨⟨Nat,λj=>j<=l.length/\∀q,q<j->ltK (l.getD q k0) v=true,λj=>[(5,.int .i64 (j:Int)),(4,.lsl 40 2 (l.take j).length)],λj=>[(0,.cells 79 (.cons (.lsl 1 2 l.length) .nil)),ksH 1 l,(2,.cells 32 (xK v.1 v.2)),ksH 40 (l.take j)],λj=>l.length-j⟩,0,⟨aS _,(by grind)⟩,?_,?_⟩
 .repeat' (first|apply aA|exact trivial|exact rfl|exact lz λ_=>rfl|fail)
 rintro(j:Nat) ⟨(kj:j<=l.length),(kf:∀q,q<j->ltK (l.getD q k0) v=true)⟩;repeat' (first|refine aA ?_ ?_)
 .exact λ(h:decide ((j:Int)<(l.length:Int))=true)=>⟨by omega,of_decide_eq_true h⟩
 .exact λ(h:decide ((j:Int)<(l.length:Int))=true)=>by
   have:=of_decide_eq_true h;show 0+j<l.length;omega
 .refine λ_=>?_;repeat' (first|apply aA|exact trivial|exact rfl)
 .refine λ(hg:bN _ _ _ _ _=true)=>?_;rw[bW,aI,decide_eq_true_eq]at hg;obtain⟨hg1,hg2⟩:=hg;have hj:j<l.length:=by omega
  have g0:(0:Int)<=(j:Int):=by omega
  have hlt:ltK (l.getD j k0) v=true:=by
   grind
  have hf2:∀q,q<j+1->ltK (l.getD q k0) v=true:=(by grind);have b1:-9223372036854775808<=(j:Int)+1:=by omega
  have b2:(j:Int)+1<=9223372036854775807:=by omega
  have hI:j+1<=l.length/\∀q,q<j+1->ltK (l.getD q k0) v=true:=⟨hj,hf2⟩;have hms:l.length-(j+1)<l.length-j:=by omega
  have hl1:(l.take j).length=j:=by simp[*]
  have hl2:(l.take (j+1)).length=j+1:=by simp[*]
  repeat' (first|apply aA|exact rfl|(with_reducible first|exact g0|exact hg1|exact b1|exact b2))
  .omega
  .omega
  .omega
  have hl3:(l.take j).length+1=(l.take (j+1)).length:=by omega
  refine aB (j+1) ?_;repeat' (first|exact hI|with_reducible exact hms|apply aA|exact trivial|exact rfl|exact lz λ_=>rfl|fail)
  .exact hl3
  .exact hl3
  .exact aE2 hj rfl rfl
 .refine λ(hg:bN _ _ _ _ _=false)=>?_;rw[bW,cM,aP]at hg;have hins:=aBx (v:=v) kj kf hg;have hl1:(l.take j).length=j:=by simp[*]
  repeat' (first|apply aA|exact rfl)
  .omega
  .omega
  .omega
  .omega
  .omega
  .exact λ_ _=>rfl
  .omega
  .omega
  have hl4:(l.take j).length+1+(l.length-(j:Int).toNat)=(nK l v).length:=by grind
  have hl5:(l.take j).length+1+(l.length-(j:Int).toNat)=l.length+1:=by omega
  refine aB () (aA trivial ?_);repeat' (first|apply aA|exact trivial|exact rfl)
  .exact hl4
  .exact hl4
  .exact aCb kj hins rfl hl5
end Q6
end
section
set_option maxHeartbeats 10000000
open Go Go.Eng Go.Proofs A0 T1 T3 T4 T6 T10 T11 T21 T25 T27 T33 T34 T35 T37 Q5 Q6
set_option maxRecDepth 100000
namespace Q7
def yU(L:List Ky)(k:Ky):Int:=bif kF k.1 k.2 then (bif decide (jJ L k>=0)then 8 else bif decide ((L.length:Int)>=20000)then 22 else 0)else 1
def g22:List Nat:=[1,11,15,21,0,3,4]
def c22:aY :=
 .seq (.region g22 [(zo 3 (.box 32 (.s 1))),(zo 4 (.move (cj 0)))]) (.seq (.seq (.region g22 [(mv 5 0),(zo 6 (.ptrEq false (.s 5) (.c (.nilptr)))),(mv 7 6),(zg 8 7 false (.load 2 true (.s 3))),(zg 9 7 false (.call (.c (.fn 49)) [.s 8])),(zg 10 7 false (.not (.s 9))),(zo 11 (.pick (.s 7) cT (.s 10)))]) (.cond (.s 11) (.seq (.region g22 [(zo 4 (.move (cj 1)))]) .ret) .skip)) (.seq (.seq (.region g22 [(mv 12 0),(zo 13 (.load 2 true (.s 3))),(zo 14 (.call (.c (.fn 50)) [.s 12,.s 13])),(zo 15 (.bin (.geq) (.s 14) (cj 0)))]) (.cond (.s 15) (.seq (.region g22 [(zo 4 (.move (cj 8)))]) .ret) .skip)) (.seq (.seq (.region g22 [(mv 16 0),(zo 17 (.nilCheck (.s 16))),(fa 18 0 17),(ld 19 18),(zo 20 (.lenSl (.s 19))),(zo 21 (.bin (.geq) (.s 20) (cj 20000)))]) (.cond (.s 21) (.seq (.region g22 [(zo 4 (.move (cj 22)))]) .ret) .skip)) (.seq (.region g22 [(mv 22 0),(zo 23 (.load 2 true (.s 3))),(zo 24 (.call (.c (.fn 51)) [.s 22,.s 23]))]) (.seq (.region g22 [(zo 4 (.move (cj 0)))]) .ret)))))
theorem e22:bO Tryz.prog 22 g22 [] [] []=some (c22,[.slot 4],25):=by kernel_rfl
def Zw:bC where
 X:=List Ky×Ky
 Y:=Bool×Int
 args:=λx=>.cons (.own 0 0) (.cons (.agg (jN x.2)) .nil)
 pre:=λx=>x.1.length<=1000000/\x.2.1.length<4611686018427387904/\x.2.2.length<4611686018427387904
 h0:=λx=>rtH 1 x.1
 nx0:=2
 post:=λx y=>y.2=yU x.1 x.2/\y.1=decide (y.2=0)
 res:=λ_ y=>.int .i64 y.2
 h1:=λx y=>bif y.1 then rtH 2 (nK x.1 x.2)else rtH 1 x.1
 nx1:=3
theorem Yb:Zw.Ok Tryz.prog 22:=by
 refine Eng.bC.okR e22 .nil (λ_=>[(49,.p aDh),(50,.m X6),(51,.m aDb)]) (λ_ _=>aO.p Ut (aO.m Kl (aO.m Ul aO.nil))) ?_;rintro⟨l,k⟩ ⟨(hn:l.length<=1000000),(h1:k.1.length<4611686018427387904),(h2:k.2.length<4611686018427387904)⟩;have hp:k.1.length<4611686018427387904/\k.2.length<4611686018427387904:=⟨h1,h2⟩;refine⟨trivial,?_⟩;repeat' (first|exact hp|apply aA|exact trivial|exact rfl|refine zt ?_|fail)
 .refine λ(h:(!kF k.1 k.2)=true)=>?_;have hv:kF k.1 k.2=false:=by simpa using h
  have e:(1:Int)=yU l k:=by unfold yU; rw[hv]; rfl
  refine aB (false,1) (aA ⟨e,rfl⟩ ?_);repeat' (first|apply aA|exact trivial|exact rfl|exact lz λ_=>rfl|fail)
 .refine λ(h:(!kF k.1 k.2)=false)=>?_;have hv:kF k.1 k.2=true:=by simpa using h
  have hl:l.length<4611686018427387904:=by omega
  refine aB (l,k) (aB [0,1] ?_);repeat' (first|exact hl|apply aA|exact trivial|exact rfl|exact lz λ_=>rfl|fail)
  refine λ(y:Int) (hy:y=jJ l k)=>?_;repeat' (first|refine aA ?_ ?_)
  .refine λ(hg:decide (y>=0)=true)=>?_;have e:(8:Int)=yU l k:=by unfold yU; rw[hv,<- hy,hg]; rfl
   refine aB (false,8) (aA ⟨e,rfl⟩ ?_);repeat' (first|apply aA|exact trivial|exact rfl|exact lz λ_=>rfl|fail)
  .refine λ(hg:decide (y>=0)=false)=>?_;repeat' (first|refine aA ?_ ?_)
   .refine λ(hz:decide ((l.length:Int)>=20000)=true)=>?_;have e:(22:Int)=yU l k:=by unfold yU; rw[hv,<- hy,hg,hz]; rfl
    refine aB (false,22) (aA ⟨e,rfl⟩ ?_);repeat' (first|apply aA|exact trivial|exact rfl|exact lz λ_=>rfl|fail)
   .refine λ(hz:decide ((l.length:Int)>=20000)=false)=>?_;have e:(0:Int)=yU l k:=by unfold yU; rw[hv,<- hy,hg,hz]; rfl
    refine aB (l,k) (aB [0,1] ?_);repeat' (first|exact hn|apply aA|exact trivial|exact rfl|exact lz λ_=>rfl|fail)
    refine λ(_:Unit) (_:True)=>?_;refine aB (true,0) (aA ⟨e,rfl⟩ ?_);repeat' (first|apply aA|exact trivial|exact rfl|exact lz λ_=>rfl|fail)
theorem Wa{k:Keep}{hp:List (Nat×aL)}{S R:List Ky}{i n:Nat}(hr:R=S.take i++S.drop (i+1))(hi:i<S.length):∀j,j<n->lM k (sub k hp 200) (gH (i:Int).toNat (λj=>jN (S.getD (0+j) k0)) (λj=>jN (S.getD (0+((i:Int)+1).toNat+j) k0)) j) (jN (R.getD j k0)):=by
 grind[aAy]
def Ho(L:List Ky)(k:Ky):List Ky:=bif decide (jJ L k<0)then L else L.take (jJ L k).toNat++L.drop ((jJ L k).toNat+1)
def g21:List Nat:=[1,7,3,12,0,5,4]
def c21:aY :=
 .seq (.region g21 [(zo 3 (.box 32 (.s 1))),(zo 4 (.move (cj 0)))]) (.seq (.seq (.region g21 [(mv 6 0),(zo 7 (.ptrEq false (.s 6) (.c (.nilptr))))]) (.cond (.s 7) (.seq (.region g21 [(zo 4 (.move (cj 1)))]) .ret) .skip)) (.seq (.region g21 [(mv 8 0),(zo 9 (.load 2 true (.s 3))),(zo 10 (.call (.c (.fn 50)) [.s 8,.s 9])),(mv 5 10)]) (.seq (.seq (.region g21 [(mv 11 5),(zo 12 (.bin (.lss) (.s 11) (cj 0)))]) (.cond (.s 12) (.seq (.region g21 [(zo 4 (.move (cj 10)))]) .ret) .skip)) (.seq (.drawn g21 (.pure 0 (mv 13 0) (.pure 1 (zo 14 (.buildSl 32 2 0 (.cons (.str []) (.cons (.str []) .nil)) [])) (.pure 2 (mv 15 0) (.pure 3 (zo 16 (.nilCheck (.s 15))) (.pure 4 (fa 17 0 16) (.pure 5 (ld 18 17) (.pure 6 (mv 19 5) (.pure 7 (zo 20 (.sliceSl 2 (.s 18) none (some (.s 19)))) (.pure 9 (mv 22 0) (.pure 10 (zo 23 (.nilCheck (.s 22))) (.pure 11 (fa 24 0 23) (.pure 12 (ld 25 24) (.pure 13 (mv 26 5) (.pure 14 (zo 27 (.bin (.add) (.s 26) (cj 1))) (.pure 15 (zo 28 (.sliceSl 2 (.s 25) (some (.s 27)) none)) (.eff 8 (zo 21 (.app 32 2 32 (.s 14) (.s 20))) [(ld 25 24)] (.eff 16 (zo 29 (.app 32 2 32 (.s 21) (.s 28))) [] (.pure 17 (zo 30 (.nilCheck (.s 13))) (.pure 18 (fa 31 0 30) (.eff 19 ⟨none,none,.store 1 (.s 31) (.s 29),[]⟩ [] .done .none))) .none) .none))))))))))))))))) (.seq (.region g21 [(zo 4 (.move (cj 0)))]) .ret)))))
theorem e21:bO Tryz.prog 21 g21 [] [] []=some (c21,[.slot 4],32):=by kernel_rfl
def aFt:bC where
 X:=List Ky×Ky
 Y:=Bool×Int
 args:=λx=>.cons (.own 0 0) (.cons (.agg (jN x.2)) .nil)
 pre:=λx=>x.1.length<=1000000
 h0:=λx=>rtH 1 x.1
 nx0:=2
 post:=λx y=>y.1=!decide (jJ x.1 x.2<0)/\y.2=bif decide (jJ x.1 x.2<0)then 10 else 0
 res:=λ_ y=>.int .i64 y.2
 h1:=λx y=>bif y.1 then rtH 2 (Ho x.1 x.2)else rtH 1 x.1
 nx1:=3
theorem aBd{l:List Ky}{k:Ky}(h:¬jJ l k<0):∃i,i<l.length/\l.getD i k0=k/\jJ l k=(i:Int):=by
 by_cases hm:k∈l
 .exact Ec hm
 grind[Lu]
theorem aC7:aFt.Ok Tryz.prog 21:=by
 refine Eng.bC.okR e21 .nil (λ_=>[(50,.m X6),(2097152,.own)]) (λ_ _=>aO.m Kl (aO.o aO.nil)) ?_;rintro⟨l,k⟩ (hn:l.length<=1000000);have hl:l.length<4611686018427387904:=by omega
 refine⟨trivial,?_⟩;repeat' (first|apply aA|exact zf|refine zt ?_|fail)
 refine aB (l,k) (aB [0,1] ?_);repeat' (first|exact hl|apply aA|exact trivial|exact rfl|exact lz λ_=>rfl|fail)
 refine λ(y:Int) (hy:y=jJ l k)=>?_;repeat' (first|refine aA ?_ ?_)
 .refine λ(hg:decide (y<0)=true)=>?_;have e1:false=!decide (jJ l k<0):=by grind
  have e2:(10:Int)=bif decide (jJ l k<0)then 10 else 0:=by grind
  refine aB (false,10) (aA ⟨e1,e2⟩ ?_);repeat' (first|apply aA|exact trivial|exact rfl|exact lz λ_=>rfl|fail)
 .refine λ(hg:decide (y<0)=false)=>?_;have hd:decide (jJ l k<0)=false:=by grind
  obtain⟨i,hi,hgi,hfi⟩:=aBd (of_decide_eq_false hd);have hy2:y=(i:Int):=hy.trans hfi;clear hy hg;subst hy2;have hr:Ho l k=l.take i++l.drop (i+1):=by grind[Ho]
  have e1:true=!decide (jJ l k<0):=by rw[hd]; rfl
  have e2:(0:Int)=bif decide (jJ l k<0)then 10 else 0:=by rw[hd]; rfl
  have hc:(0<=(i:Int)/\(i:Int)<=(l.length:Int))/\(-9223372036854775808<=(i:Int)+1/\(i:Int)+1<=9223372036854775807)/\(0<=(i:Int)+1/\(i:Int)+1<=(l.length:Int)):=by omega
  repeat' (first|apply aA|exact trivial|exact rfl|exact λ_ _=>rfl|(with_reducible first|exact hc.1.1|exact hc.1.2|exact hc.2.1.1|exact hc.2.1.2|exact hc.2.2.1|exact hc.2.2.2))
  .grind
  .omega
  .omega
  .grind
  .grind
  .grind
  have hl2:(i:Int).toNat+(l.length-((i:Int)+1).toNat)=(Ho l k).length:=by grind
  refine aB (true,0) (aA ⟨e1,e2⟩ ?_);repeat' (first|apply aA|exact trivial|exact rfl)
  .exact hl2
  .exact hl2
  .exact Wa hr hi
theorem ky0{k:Keep}{hp:List (Nat×aL)}{l:List Ky}{n:Nat}:∀i,i<n->lM k (sub k hp 200) (jN (l.getD (0+i) k0)) (kyE l i):=λi _=>by
 rw[aP];exact Or.inl (kI _ _ _ _)
def g29:List Nat:=[4,0,2]
def c29:aY :=
 .seq (.region g29 [(zo 2 (.move (.c (.nilsl))))]) (.seq (.seq (.region g29 [(mv 3 0),(zo 4 (.ptrEq false (.s 3) (.c (.nilptr))))]) (.cond (.s 4) (.seq (.region g29 [(zo 2 (.move (.c (.nilsl))))]) .ret) .skip)) (.seq (.region g29 [(zo 5 (.buildSl 32 2 0 (.cons (.str []) (.cons (.str []) .nil)) [])),(mv 6 0),(zo 7 (.nilCheck (.s 6))),(fa 8 0 7),(ld 9 8),(zo 10 (.app 32 2 32 (.s 5) (.s 9))),(mv 2 10)]) .ret))
theorem e29:bO Tryz.prog 29 g29 [] [] []=some (c29,[.slot 2],11):=by kernel_rfl
def Zv:bC where
 X:=List Ky
 Y:=Unit
 args:=λ_=>.cons (.own 0 0) .nil
 pre:=λx=>x.length<=1000000
 h0:=λx=>rtH 1 x
 nx0:=2
 post:=λ_ _=>True
 res:=λx _=>.lsl 2 2 x.length
 h1:=λx _=>(2,.arr 32 2 x.length (kyE x))::rtH 1 x
 nx1:=3
theorem X7:Zv.Ok Tryz.prog 29:=by
 refine Eng.bC.okR e29 .nil (λ_=>[]) (λ_ _=>aO.nil) ?_;rintro l (hn:l.length<=1000000);have g1:l.length<=9223372036854775807:=by omega
 have g2:l.length*32<=140737488355328:=by omega
 refine⟨trivial,?_⟩;repeat' (first|apply aA|exact zf|refine zt ?_|exact λ_ _=>rfl|fail)
 .omega
 .exact g1
 .exact g2
 refine aB () (aA trivial ?_);repeat' (first|apply aA|exact trivial|exact rfl|exact lz λ_=>rfl|exact ky0)
end Q7
end
section
open Go Go.Eng Go.Proofs A0 T1 T3 T4 T6 T10 T11 T21 T25 T27 T33 T34 T35 T37 Q5 Q6 Q7
set_option maxRecDepth 100000
namespace Q8
def uC:List Ky->List Ky->Int×List Ky
 | [],S=>(0,S)
 |k::l,S=>if 0<=jJ S k then (8,S)else uC l (nK S k)
def iO(l:List Ky):Int×List Ky:=if 20000<l.length then (2,[])else if l.any kM=true then (1,[])else uC l []
structure RY where
 e:Int
 o:Bool
 L:List Ky
theorem zE(L:List Ky)(k:Ky):(nK L k).length=L.length+1:=by
 unfold nK;have:=congrArg List.length (List.takeWhile_append_dropWhile (p:=λa=>ltK a k) (l:=L));rw[bF]at this;rw[bF,bA];omega
def g18:List Nat:=[9,13,21,4,27,36,0,6,5,2,3]
def c18:aY :=
 .seq (.region g18 [(zo 2 (.move (.c (.nilptr)))),(zo 3 (.move (cj 0)))]) (.seq (.seq (.region g18 [(mv 7 0),(zo 8 (.lenSl (.s 7))),(zo 9 (.bin (.gtr) (.s 8) (cj 20000)))]) (.cond (.s 9) (.seq (.region g18 [(zo 2 (.move (.c (.nilptr)))),(zo 3 (.move (cj 2)))]) .ret) .skip)) (.seq (.seq (.region g18 [(zo 4 (.move (cj 0)))]) (.block 0 (.loop 0 [10,11,12,13,16,17,18,19,20,21,2,3,14,15,4] (.seq (.seq (.region g18 [(mv 10 4),(mv 11 0),(zo 12 (.lenSl (.s 11))),(zo 13 (.bin (.lss) (.s 10) (.s 12)))]) (.cond (.s 13) .skip (.exit 0))) (.seq (.block 1 (.seq (.region g18 [(mv 16 0),(mv 17 4),(zo 18 (.idxSl 2 (.s 16) (.s 17))),(zo 19 (.load 2 true (.s 18))),(zo 20 (.call (.c (.fn 49)) [.s 19])),(zo 21 (.not (.s 20)))]) (.cond (.s 21) (.seq (.region g18 [(zo 2 (.move (.c (.nilptr)))),(zo 3 (.move (cj 1)))]) .ret) .skip))) (.region g18 [(mv 14 4),(zo 15 (.bin (.add) (.s 14) (cj 1))),(mv 4 15)])))))) (.seq (.region g18 [(zo 22 (.build (.cons (.nilsl) .nil) [])),(zo 23 (.box 79 (.s 22))),(mv 5 23)]) (.seq (.seq (.region g18 [(zo 6 (.move (cj 0)))]) (.block 2 (.loop 1 [24,25,26,27,30,31,32,33,34,35,36,2,3,37,38,39,40,41,42,28,29,6] (.seq (.seq (.region g18 [(mv 24 6),(mv 25 0),(zo 26 (.lenSl (.s 25))),(zo 27 (.bin (.lss) (.s 24) (.s 26)))]) (.cond (.s 27) .skip (.exit 2))) (.seq (.block 3 (.seq (.seq (.region g18 [(mv 30 5),(mv 31 0),(mv 32 6),(zo 33 (.idxSl 2 (.s 31) (.s 32))),(zo 34 (.load 2 true (.s 33))),(zo 35 (.call (.c (.fn 50)) [.s 30,.s 34])),(zo 36 (.bin (.geq) (.s 35) (cj 0)))]) (.cond (.s 36) (.seq (.region g18 [(zo 2 (.move (.c (.nilptr)))),(zo 3 (.move (cj 8)))]) .ret) .skip)) (.region g18 [(mv 37 5),(mv 38 0),(mv 39 6),(zo 40 (.idxSl 2 (.s 38) (.s 39))),(zo 41 (.load 2 true (.s 40))),(zo 42 (.call (.c (.fn 51)) [.s 37,.s 41]))]))) (.region g18 [(mv 28 6),(zo 29 (.bin (.add) (.s 28) (cj 1))),(mv 6 29)])))))) (.seq (.region g18 [(mv 43 5),(mv 2 43),(zo 3 (.move (cj 0)))]) .ret)))))
theorem e18:bO Tryz.prog 18 g18 [] [] []=some (c18,[.slot 2,.slot 3],44):=by kernel_rfl
def Uq:bC where
 X:=List Ky
 Y:=RY
 args:=λl=>.cons (ksE l) .nil
 pre:=λl=>l.length<4611686018427387904/\∀j,j<l.length->(l.getD j k0).1.length<4611686018427387904/\(l.getD j k0).2.length<4611686018427387904
 h0:=λ_=>[]
 nx0:=0
 post:=λl y=>y.e=(iO l).1/\y.o=decide (y.e=0)/\(y.o=true->y.L=(iO l).2)
 res:=λ_ y=>.tup (.cons (bif y.o then .own 0 0 else .val (.pointer none)) (.cons (.int .i64 y.e) .nil))
 h1:=λ_ y=>bif y.o then rtH 1 y.L else []
 nx1:=2
theorem M9:Uq.Ok Tryz.prog 18:=by
 refine Eng.bC.okR e18 .nil (λ_=>[(49,.p aDh),(50,.m X6),(51,.m aDb)]) (λ_ _=>aO.p Ut (aO.m Kl (aO.m Ul aO.nil))) ?_;rintro(l:List Ky) ⟨(hn:l.length<4611686018427387904),(ht:∀j,j<l.length->(l.getD j k0).1.length<4611686018427387904/\(l.getD j k0).2.length<4611686018427387904)⟩;refine⟨trivial,?_⟩;repeat' (first|refine aA ?_ ?_)
 .refine λ(h:decide ((l.length:Int)>20000)=true)=>?_;have h0:20000<l.length:=by have:=of_decide_eq_true h; omega
  have e:iO l=(2,[]):=if_pos h0;have p1:(2:Int)=(iO l).1:=by rw[e]
  refine aB (RY.mk 2 false []) (aA ⟨p1,rfl,λh=>(by cases h)⟩ ?_);repeat' (first|apply aA|exact trivial|exact rfl)
 .refine λ(h:decide ((l.length:Int)>20000)=false)=>?_;have h0:¬20000<l.length:=by have:=of_decide_eq_false h; omega
  refine⟨⟨Nat,λj=>j<=l.length/\∀q,q<j->kM (l.getD q k0)=false,λj=>[(4,.int .i64 (j:Int))],λ_=>[],λj=>l.length-j⟩,0,⟨aS _,λq hq=>absurd hq (cO q)⟩,?_,?_⟩
  .repeat' (first|apply aA|exact trivial|exact rfl|exact lz λ_=>rfl|fail)
  rintro(j:Nat) ⟨(kj:j<=l.length),(kv:∀q,q<j->kM (l.getD q k0)=false)⟩;repeat' (first|refine aA ?_ ?_)
  .refine λ(hg:decide ((j:Int)<(l.length:Int))=true)=>?_;have hj:j<l.length:=by have:=of_decide_eq_true hg; omega
   have g0:(0:Int)<=(j:Int):=by omega
   have g1:(j:Int)<(l.length:Int):=by omega
   have g2:-9223372036854775808<=(j:Int)+1:=by omega
   have g3:(j:Int)+1<=9223372036854775807:=by omega
   have hp:=ht j hj;repeat' (first|exact hp|apply aA|exact trivial|exact rfl|(with_reducible first|exact g0|exact g1))
   .refine λ(h:(!kF (l.getD j k0).1 (l.getD j k0).2)=true)=>?_;have hb:l.any kM=true:=by
     rw[iP];refine⟨l[j],eM hj,?_⟩;rw[aK,aM hj]at h;exact h
    have e:iO l=(1,[]):=by unfold iO; rw[if_neg h0,if_pos hb]
    have p1:(1:Int)=(iO l).1:=by rw[e]
    refine aB (RY.mk 1 false []) (aA ⟨p1,rfl,λh=>(by cases h)⟩ ?_);repeat' (first|apply aA|exact trivial|exact rfl)
   .refine λ(h:(!kF (l.getD j k0).1 (l.getD j k0).2)=false)=>?_;have hw:∀q,q<j+1->kM (l.getD q k0)=false:=λq hq=>by
     by_cases e:q=j
     .rw [e]; exact h
     .exact kv q (by omega)
    have k2:j+1<=l.length/\∀q,q<j+1->kM (l.getD q k0)=false:=⟨hj,hw⟩;have k3:l.length-(j+1)<l.length-j:=by omega
    repeat' (first|apply aA|(with_reducible first|exact g2|exact g3))
    refine aB (j+1) ?_;repeat' (first|exact k2|with_reducible exact k3|apply aA|exact trivial|exact rfl|exact lz λ_=>rfl|fail)
  .refine λ(hg:decide ((j:Int)<(l.length:Int))=false)=>?_;have hj:j=l.length:=by have:=of_decide_eq_false hg; omega
   subst hj;have hnb:¬l.any kM=true:=by
    rw[iP];rintro⟨a,ha,hb⟩;obtain⟨q,hq,rfl⟩:=bG ha;have:=kv q hq;rw[aK,aM hq,dR,hb]at this;cases this
   have hrv:iO l=uC l []:=by unfold iO; rw[if_neg h0,if_neg hnb]
   refine⟨⟨Nat×List Ky,λs=>s.1<=l.length/\uC (l.drop s.1) s.2=iO l/\s.2.length=s.1,λs=>[(6,.int .i64 (s.1:Int)),(5,.own 40 0)],λs=>[(40,.cells 79 (.cons (.lsl 41 2 s.2.length) .nil)),ksH 41 s.2],λs=>l.length-s.1⟩,(0,[]),⟨aS _,hrv.symm,rfl⟩,?_,?_⟩
   .repeat' (first|apply aA|exact trivial|exact rfl|exact lz λ_=>rfl|fail)
   rintro⟨j,S⟩ ⟨(kj:j<=l.length),(k1:uC (l.drop j) S=iO l),(k2:S.length=j)⟩;repeat' (first|refine aA ?_ ?_)
   .refine λ(hg:decide ((j:Int)<(l.length:Int))=true)=>?_;have hj:j<l.length:=by have:=of_decide_eq_true hg; omega
    have g0:(0:Int)<=(j:Int):=by omega
    have g1:(j:Int)<(l.length:Int):=by omega
    have g2:-9223372036854775808<=(j:Int)+1:=by omega
    have g3:(j:Int)+1<=9223372036854775807:=by omega
    have hdr:l.drop j=l.getD j k0::l.drop (j+1):=by rw[List.drop_eq_getElem_cons hj]; simp[hj]
    have hS:S.length<4611686018427387904:=by omega
    have hS2:S.length<=1000000:=by omega
    repeat' (first|apply aA|(with_reducible first|exact g0|exact g1))
    refine aB (S,l.getD j k0) (aB [40,41] ?_);repeat' (first|exact hS|apply aA|exact trivial|exact rfl|exact lz λ_=>rfl|fail)
    refine λ(y:Int) (hy:y=jJ S (l.getD j k0))=>?_;repeat' (first|refine aA ?_ ?_)
    .refine λ(hy0:decide (y>=0)=true)=>?_;have hf:0<=jJ S (l.getD j k0):=by rw[<- hy]; exact of_decide_eq_true hy0
     have e:iO l=(8,S):=by
      rw[<- k1,hdr];show(if 0<=jJ S (l.getD j k0)then _ else _)=_;rw[if_pos hf]
     have p1:(8:Int)=(iO l).1:=by rw[e]
     refine aB (RY.mk 8 false []) (aA ⟨p1,rfl,λh=>(by cases h)⟩ ?_);repeat' (first|apply aA|exact trivial|exact rfl)
    .refine λ(hy0:decide (y>=0)=false)=>?_;have hf:¬0<=jJ S (l.getD j k0):=by rw[<- hy]; exact of_decide_eq_false hy0
     have e:uC (l.drop (j+1)) (nK S (l.getD j k0))=iO l:=by
      rw[<- k1,hdr];show _=(if 0<=jJ S (l.getD j k0)then _ else _);rw[if_neg hf]
     have hI:j+1<=l.length/\uC (l.drop (j+1)) (nK S (l.getD j k0))=iO l/\(nK S (l.getD j k0)).length=j+1:=⟨hj,e,by rw[zE,k2]⟩;have k9:l.length-(j+1)<l.length-j:=by omega
     repeat' (first|apply aA|(with_reducible first|exact g0|exact g1))
     refine aB (S,l.getD j k0) (aB [40,41] ?_);repeat' (first|exact hS2|apply aA|exact trivial|exact rfl|exact lz λ_=>rfl|fail)
     refine λ(_:Unit) (_:True)=>?_;repeat' (first|apply aA|(with_reducible first|exact g2|exact g3))
     refine aB (j+1,nK S (l.getD j k0)) ?_;repeat' (first|exact hI|with_reducible exact k9|apply aA|exact trivial|exact rfl|exact lz λ_=>rfl|fail)
   .refine λ(hg:decide ((j:Int)<(l.length:Int))=false)=>?_;have hj:j=l.length:=by have:=of_decide_eq_false hg; omega
    subst hj;have e:iO l=(0,S):=by rw[<- k1,iQ]; rfl
    have p1:(0:Int)=(iO l).1:=by rw[e]
    have p2:S=(iO l).2:=by rw[e]
    refine aB (RY.mk 0 true S) (aA ⟨p1,rfl,λ_=>p2⟩ ?_);repeat' (first|apply aA|exact trivial|exact rfl|exact lz λ_=>rfl|fail)
end Q8
end
section
set_option maxHeartbeats 10000000
open Go Go.Eng Go.Proofs T1 D1 D2 D3
set_option maxRecDepth 100000
namespace Q1
def aCk(x:Int):Int :=
 let y:=IntKind.u64.wrap (gI .xor .u64 x (shI .shr .u64 x 31)*11400714819323198485);let z:=IntKind.u64.wrap (gI .xor .u64 y (shI .shr .u64 y 27)*15074714826142052245)
 gI .xor .u64 z (shI .shr .u64 z 33)
def g104:List Nat:=[0,2]
def c104:aY :=
 .seq (.region g104 [(zo 2 (.move (.c (.int (.u64) 0))))]) (.seq (.region g104 [(mv 3 0),(mv 4 0),(zo 5 (.bin (.shr) (.s 4) (.c (.int (.u64) 31)))),(zo 6 (.bin (.xor) (.s 3) (.s 5))),(mv 0 6)]) (.seq (.region g104 [(mv 7 0),(zo 8 (.bin (.mul) (.s 7) (.c (.int (.u64) 11400714819323198485)))),(mv 0 8)]) (.seq (.region g104 [(mv 9 0),(mv 10 0),(zo 11 (.bin (.shr) (.s 10) (.c (.int (.u64) 27)))),(zo 12 (.bin (.xor) (.s 9) (.s 11))),(mv 0 12)]) (.seq (.region g104 [(mv 13 0),(zo 14 (.bin (.mul) (.s 13) (.c (.int (.u64) 15074714826142052245)))),(mv 0 14)]) (.seq (.region g104 [(mv 15 0),(mv 16 0),(zo 17 (.bin (.shr) (.s 16) (.c (.int (.u64) 33)))),(zo 18 (.bin (.xor) (.s 15) (.s 17))),(mv 2 18)]) .ret)))))
theorem e104:bO Tryz.prog 104 g104 [] [] []=some (c104,[.slot 2],19):=by kernel_rfl
def aE9:Eng.Spec where
 X:=Int
 args:=λx=>.cons (.int .u64 x) .nil
 pre:=λx=>0<=x/\x<18446744073709551616
 res:=λx=>.int .u64 (aCk x)
 inst:=fun
  |.cons (.int _ n) _=>some n
  |_=>none
theorem aCl:aE9.Ok Tryz.prog 104:=by
 refine Eng.Spec.okR e104 .nil (λ_=>[]) (λ_ _=>aO.nil) ?_;rintro(x:Int) ⟨(h0:0<=x),(h1:x<18446744073709551616)⟩;refine⟨trivial,?_⟩;repeat' (first|apply aA|exact rfl)
 .omega
 .omega
 omega
def tbl:B:=[48,49,50,51,52,53,54,55,56,57]
theorem aDo:∀d,d<10->(tbl.drop d).take 1=[UInt8.ofNat (48+d)]:=by decide
def g77:List Nat:=[13,0,3,2]
def c77:aY :=
 .seq (.region g77 [(zo 2 (.move (.c (.str []))))]) (.seq (.region g77 [(mv 4 0),(zo 5 (.bin (.rem) (.s 4) (.c (.int (.u64) 10)))),(mv 6 0),(zo 7 (.bin (.rem) (.s 6) (.c (.int (.u64) 10)))),(zo 8 (.bin (.add) (.s 7) (.c (.int (.u64) 1)))),(zo 9 (.sliceStr (.c (.str [48,49,50,51,52,53,54,55,56,57])) (some (.s 5)) (some (.s 8)))),(mv 3 9)]) (.seq (.seq (.region g77 [(mv 10 0),(zo 11 (.bin (.quo) (.s 10) (.c (.int (.u64) 10)))),(mv 0 11)]) (.block 0 (.loop 0 [12,13,16,17,18,19,20,21,22,23,3,14,15,0] (.seq (.seq (.region g77 [(mv 12 0),(zo 13 (.bin (.gtr) (.s 12) (.c (.int (.u64) 0))))]) (.cond (.s 13) .skip (.exit 0))) (.seq (.block 1 (.region g77 [(mv 16 0),(zo 17 (.bin (.rem) (.s 16) (.c (.int (.u64) 10)))),(mv 18 0),(zo 19 (.bin (.rem) (.s 18) (.c (.int (.u64) 10)))),(zo 20 (.bin (.add) (.s 19) (.c (.int (.u64) 1)))),(zo 21 (.sliceStr (.c (.str [48,49,50,51,52,53,54,55,56,57])) (some (.s 17)) (some (.s 20)))),(mv 22 3),(zo 23 (.bin (.add) (.s 21) (.s 22))),(mv 3 23)])) (.region g77 [(mv 14 0),(zo 15 (.bin (.quo) (.s 14) (.c (.int (.u64) 10)))),(mv 0 15)])))))) (.seq (.region g77 [(mv 24 3),(mv 2 24)]) .ret)))
theorem e77:bO Tryz.prog 77 g77 [] [] []=some (c77,[.slot 2],25):=by kernel_rfl
def DI(n:Nat)(m:Nat)(s:B):Prop:=(m=0/\s=Lib.decDigits n)\/(0<m/\Lib.decDigits m++s=Lib.decDigits n)
theorem aGj(n:Nat):DI n (n/10) [UInt8.ofNat (48+n%10)]:=by
 by_cases h:n<10
 .left;simp_all[Lib.decDigits,Nat.mod_eq_of_lt]
 .right;refine⟨by omega,?_⟩;rw[Lib.decDigits.eq_def n,dif_neg h]
theorem Wf{n m:Nat}{s:B}(hm:0<m)(h:DI n m s):DI n (m/10) (UInt8.ofNat (48+m%10)::s):=by
 have h2:Lib.decDigits m++s=Lib.decDigits n:=by
  rcases h with h|h
  .omega
  .exact h.2
 by_cases hl:m<10
 .left;refine⟨by omega,?_⟩;rw[<- h2,Lib.decDigits,dif_pos hl,iT hl]; rfl
 .right;refine⟨by omega,?_⟩;rw[<- h2,Lib.decDigits.eq_def m,dif_neg hl];simp
theorem H8(n:Nat):((n:Int).tmod 10)=((n%10:Nat):Int):=rfl
theorem wr1(n:Nat):IntKind.u64.wrap ((n:Int).tmod 10+1)=((n%10+1:Nat):Int):=by
 rw[H8];show(((n%10:Nat):Int)+1)%18446744073709551616=_;omega
theorem tm0(n:Nat):(0:Int)<=(n:Int).tmod 10:=by grind
theorem tm1(n:Nat):(n:Int).tmod 10<=IntKind.u64.wrap ((n:Int).tmod 10+1):=by grind[wr1]
theorem tm2(n:Nat):IntKind.u64.wrap ((n:Int).tmod 10+1)<=(tbl.length:Int):=by rw[wr1]; show _<=(10:Int); omega
theorem ten0:(10:Int)≠0:=by decide
theorem td0(n:Nat):(0:Int)<=(n:Int).tdiv 10:=by grind
theorem td1{n:Nat}(h:(n:Int)<18446744073709551616):(n:Int).tdiv 10<=18446744073709551615:=by grind
theorem Ra(n:Nat):(tbl.drop ((n:Int).tmod 10).toNat).take ((IntKind.u64.wrap ((n:Int).tmod 10+1)).toNat-((n:Int).tmod 10).toNat)=[UInt8.ofNat (48+n%10)]:=by
 rw[wr1,H8,cM,cM,Nat.add_sub_cancel_left]
 grind[aDo]
theorem aA3(n:Nat)(s:B):(tbl.drop ((n:Int).tmod 10).toNat).take ((IntKind.u64.wrap ((n:Int).tmod 10+1)).toNat-((n:Int).tmod 10).toNat)++s=UInt8.ofNat (48+n%10)::s:=by rw[Ra]; rfl
theorem aA4{n m:Nat}{s:B}(hn:(n:Int)<=9223372036854775807)(hm:0<m)(h:DI n m s):((tbl.drop ((m:Int).tmod 10).toNat).take ((IntKind.u64.wrap ((m:Int).tmod 10+1)).toNat-((m:Int).tmod 10).toNat)).length+s.length<=9223372036854775807:=by
 rw[Ra];have h1:=Lib.itoa_length_le (n:Int) (by omega) hn;have e:Lib.itoa (n:Int)=Lib.decDigits n:=if_neg (by omega);rw[e]at h1;rcases h with h|h
 .omega
 grind
def Dn:Eng.Spec where
 X:=Int
 args:=λx=>.cons (.int .u64 x) .nil
 pre:=λx=>0<=x/\x<=9223372036854775807
 res:=λx=>.str (Lib.decDigits x.toNat)
 inst:=fun
  |.cons (.int _ n) _=>some n
  |_=>none
theorem uO:Dn.Ok Tryz.prog 77:=by
 refine Eng.Spec.okR e77 .nil (λ_=>[]) (λ_ _=>aO.nil) ?_;rintro(x:Int) ⟨(h0:0<=x),(h1:x<=9223372036854775807)⟩;obtain⟨n,rfl⟩:∃n:Nat,x=(n:Int):=⟨x.toNat,by omega⟩;refine⟨trivial,?_⟩;repeat' (first|refine aA ?_ ?_)
 .decide
 .decide
 .exact tm0 n
 .exact tm1 n
 .exact tm2 n
 .decide
 .exact td0 n
 .grind
 refine⟨⟨Nat×B,λs=>s.1<=n/\DI n s.1 s.2,λs=>[(0,.int .u64 (s.1:Int)),(3,.str s.2)],λ_=>[],λs=>s.1⟩,(n/10,[UInt8.ofNat (48+n%10)]),⟨Nat.div_le_self _ _,aGj n⟩,?_,?_⟩
 .repeat' (first|apply aA|exact trivial|exact rfl)
  exact Ra n
 rintro⟨m,s⟩ ⟨(hm:m<=n),(hd:DI n m s)⟩;repeat' (first|refine aA ?_ ?_)
 .refine λ(hg:decide ((0:Int)<(m:Int))=true)=>?_;have hm0:0<m:=by grind
  have hmx:(m:Int)<18446744073709551616:=by omega
  have hd2:=Wf hm0 hd;have hln:=aA4 h1 hm0 hd;have hm2:m/10<=n:=by omega
  have hm3:m/10<m:=by omega
  repeat' (first|apply aA|exact tm0 m|exact tm1 m|exact tm2 m|exact td0 m|exact td1 hmx|exact ten0|exact hln)
  refine aB (m/10,UInt8.ofNat (48+m%10)::s) ?_;repeat' (first|(with_reducible first|exact hm2|exact hm3|exact hd2)|apply aA|exact trivial|exact rfl|exact aA3 m s|fail)
 .refine λ(hg:decide ((0:Int)<(m:Int))=false)=>?_;have hm0:m=0:=by grind
  subst hm0;have hs:s=Lib.decDigits n:=by
   rcases hd with h|h
   .exact h.2
   .omega
  repeat' (first|exact hs)
def g53:List Nat:=[4,0,2]
def c53:aY :=
 .seq (.region g53 [(zo 2 (.move (.c (.str []))))]) (.seq (.seq (.region g53 [(mv 3 0),(zo 4 (.bin (.lss) (.s 3) (cj 0)))]) (.cond (.s 4) (.seq (.region g53 [(mv 5 0),(zo 6 (.bin (.add) (.s 5) (cj 1))),(zo 7 (.neg (.s 6))),(zo 8 (.cnv (.u64) (.s 7))),(zo 9 (.bin (.add) (.s 8) (.c (.int (.u64) 1)))),(zo 10 (.call (.c (.fn 77)) [.s 9])),(zo 11 (.bin (.add) (.c (.str [45])) (.s 10))),(mv 2 11)]) .ret) .skip)) (.seq (.region g53 [(mv 12 0),(zo 13 (.cnv (.u64) (.s 12))),(zo 14 (.call (.c (.fn 77)) [.s 13])),(mv 2 14)]) .ret))
theorem e53:bO Tryz.prog 53 g53 [] [] []=some (c53,[.slot 2],15):=by kernel_rfl
def aEc:Eng.Spec where
 X:=Int
 args:=λx=>.cons (.int .i64 x) .nil
 pre:=λx=>0<=x/\x<=9223372036854775807
 res:=λx=>.str (Lib.itoa x)
 inst:=fun
  |.cons (.int _ n) _=>some n
  |_=>none
theorem Qz:aEc.Ok Tryz.prog 53:=by
 refine Eng.Spec.okR e53 .nil (λ_=>[(77,.p Dn)]) (λ_ _=>aO.p uO aO.nil) ?_;rintro(x:Int) ⟨(h0:0<=x),(h1:x<=9223372036854775807)⟩;refine⟨trivial,?_⟩;repeat' (first|refine aA ?_ ?_)
 .exact (by grind)
 .refine λ_=>?_;have g1:x<=18446744073709551615:=by omega
  have hp:0<=x/\x<=9223372036854775807:=⟨h0,h1⟩;repeat' (first|exact h0|exact g1|exact hp|apply aA|exact trivial|exact rfl)
  exact(if_neg (by omega):Lib.itoa x=_).symm
end Q1
end
section
set_option maxHeartbeats 10000000
open Go Go.Eng Go.Proofs T1 D1 D2 D3 Q1
set_option maxRecDepth 100000
namespace Q2
theorem u64w{x:Int}(h0:0<=x)(h1:x<18446744073709551616):IntKind.u64.wrap x=x:=Int.emod_eq_of_lt h0 h1
theorem shl8{a:Int}(h0:0<=a)(h1:a<72057594037927936):shI .shl .u64 a 8=a*256:=by
 show IntKind.u64.wrap (a*256)=_
 grind[u64w]
theorem or8{a b:Int}(h0:0<=a)(h1:a<72057594037927936)(h2:0<=b)(h3:b<256):gI .or .u64 (a*256) b=a*256+b:=by
 obtain⟨x,rfl⟩:∃x:Nat,a=(x:Int):=⟨a.toNat,by omega⟩;obtain⟨y,rfl⟩:∃y:Nat,b=(y:Int):=⟨b.toNat,by omega⟩;have e1:(x:Int)*256=((x*256:Nat):Int):=by omega
 rw[e1];show IntKind.u64.wrap ((BitVec.ofInt 64 ((x*256:Nat):Int) ||| BitVec.ofInt 64 (y:Int)).toNat:Int)=_;rw[BitVec.ofInt_natCast,BitVec.ofInt_natCast,BitVec.toNat_or,BitVec.toNat_ofNat,BitVec.toNat_ofNat,iT (by omega),iT (by omega)];have e2:=Nat.shiftLeft_add_eq_or_of_lt (i:=8) (b:=y) (by omega) x;rw[Nat.shiftLeft_eq]at e2;rw[show x*256 ||| y=x*256+y from e2.symm,u64w (by omega) (by omega)];omega
def pO(f:Nat->Int):Nat->Int
 |0=>0
 |j+1=>pO f j*256+f j
theorem Lb{f:Nat->Int}(hf:∀i,0<=f i/\f i<256):∀j,0<=pO f j/\pO f j<256^j
 |0=>⟨gY _,(by decide:(0:Int)<1)⟩
 |j+1=>by
  have h1:=Lb hf j
  grind[pO]
theorem Il{f:Nat->Int}(hf:∀i,0<=f i/\f i<256){j:Nat}(hj:j<=7):0<=pO f j/\pO f j<72057594037927936:=by
 have h:=Lb hf j;have:(256:Int)^j<=256^7:=by
  have:=Nat.pow_le_pow_right (n:=256) (by decide) hj
  exact_mod_cast this
 omega
theorem Qi{f:Nat->Int}(hf:∀i,0<=f i/\f i<256):∀{j:Nat},j<=8->Qh f j=pO f j
 |0,_=>rfl
 |j+1,hj=>by
  have h:=Il hf (j:=j) (by omega);simp only[Qh,pO];rw[Qi hf (by omega),shl8 h.1 h.2,or8 h.1 h.2 (hf j).1 (hf j).2]
theorem mul256{f:Nat->Int}(hf:∀i,0<=f i/\f i<256){j:Nat}(hj:j<8):IntKind.u64.wrap (pO f j*256)=pO f j*256:=by
 grind[Il,u64w]
theorem U5{f:Nat->Int}(hf:∀i,0<=f i/\f i<256){j:Nat}(hj:j<8){b:Int}(hb:f j=b):IntKind.u64.wrap (IntKind.u64.wrap (pO f j*256)+b)=pO f (j+1):=by
 have h:=Il hf (j:=j) (by omega);have h2:=hf j;rw[mul256 hf hj,<- hb];exact u64w (by omega) (by omega)
theorem Yk{f:Nat->Int}(hf:∀i,0<=f i/\f i<256){j:Nat}(hj:j<8)(hb:f j=0):IntKind.u64.wrap (pO f j*256)=pO f (j+1):=by
 grind[mul256,pO]
theorem Vd(s:Int){f:Nat->Int}(hf:∀i,0<=f i/\f i<256):aCk (gI .xor .u64 s (pO f 8))=Bh s f:=by
 rw[<- Qi hf (aN 8)];rfl
def fix:Nat->Nat->B->B
 |0,_,acc=>acc
 |f+1,n,acc=>fix f (n/16) (dgt (n%16)::acc)
theorem Zb:∀(f:Nat) (acc:B),fix f 0 acc=List.replicate f 48++acc
 |0,_=>rfl
 |f+1,acc=>by
  show fix f 0 (48::acc)=_;rw[Zb f,List.replicate_succ'];simp
theorem Lt:∀(f n:Nat) (acc:B),n<16^(f+1)->List.replicate (f+1+acc.length-(vW (f+1) n acc).length) 48++vW (f+1) n acc=fix (f+1) n acc
 |f,n,acc,h=>by
  by_cases hn:n<16
  .have e:vW (f+1) n acc=dgt n::acc:=by simp_all[vW]
   rw[e];simp only[fix];rw[Nat.div_eq_of_lt hn,iT hn,Zb,bA]
   grind
  .have e:vW (f+1) n acc=vW f (n/16) (dgt (n%16)::acc):=by simp_all[vW,if_neg]
   rw[e];cases f with
   |zero=>simp at h; omega
   |succ f =>
    have:=Lt f (n/16) (dgt (n%16)::acc) (by rw[Nat.pow_succ]at h; omega);simp only[fix];simp only[fix]at this;rw[<- this,bA];congr 2;omega
theorem flat48:∀n,(List.replicate n ([48]:B)).flatten=List.replicate n 48
 |0=>rfl
 |n+1=>by simp
theorem Yo(t:B):fix 16 (nA t (jI t) (t.length/8+1)).toNat []=yW t:=by
 have hs:0<=jI t/\jI t<18446744073709551616:=rG _ _;have hb:=zU t hs (t.length/8+1);rw[<- Lt 15 _ [] (by omega)];unfold yW;rw[flat48];unfold tR;simp
theorem Iv{t:B}{j k:Nat}(hk:k<8)(h:8*j+k<t.length):kN (t.drop (8*j)) k=((t.getD (8*j+k) 0).toNat:Int):=by
 unfold kN;have:Nat.blt k (min (t.drop (8*j)).length 8)=true:=by grind[Nat.blt_eq]
 grind
theorem Nv{t:B}{j k:Nat}(h:t.length<=8*j+k):kN (t.drop (8*j)) k=0:=by
 unfold kN;simp[*]
structure HI(t:B)(k v:Nat)(s:B):Prop where
 fx:fix (16-k) v s=yW t
 lt:(v:Int)<18446744073709551616
 ln:s.length=k
theorem aGo(t:B):HI t 0 (nA t (jI t) (t.length/8+1)).toNat []:=by
 have hs:0<=jI t/\jI t<18446744073709551616:=rG _ _;have hb:=zU t hs (t.length/8+1);exact⟨Yo t,by omega,rfl⟩
theorem Ww{t s:B}{k v:Nat}(h:HI t k v s)(hk:k<16):HI t (k+1) (v/16) (dgt (v%16)::s):=by
 refine⟨?_,?_,?_⟩
 .rw [<- h.fx,show 16-k=(16-(k+1))+1 by omega];rfl
 .have:=h.lt;omega
 .rw [bA,h.ln]
theorem aBo{t s:B}{v:Nat}(h:HI t 16 v s):s=yW t:=h.fx
def htb:B:=[48,49,50,51,52,53,54,55,56,57,97,98,99,100,101,102]
theorem aBp:∀d,d<16->(htb.drop d).take 1=[dgt d]:=by decide
theorem tmod16(n:Nat):((n:Int).tmod 16)=((n%16:Nat):Int):=rfl
theorem wr16(n:Nat):IntKind.u64.wrap ((n:Int).tmod 16+1)=((n%16+1:Nat):Int):=by
 rw[tmod16];show(((n%16:Nat):Int)+1)%18446744073709551616=_;omega
theorem sm0(n:Nat):(0:Int)<=(n:Int).tmod 16:=by grind
theorem sm1(n:Nat):(n:Int).tmod 16<=IntKind.u64.wrap ((n:Int).tmod 16+1):=by grind[wr16]
theorem sm2(n:Nat):IntKind.u64.wrap ((n:Int).tmod 16+1)<=(htb.length:Int):=by rw[wr16]; show _<=(16:Int); omega
theorem six0:(16:Int)≠0:=by decide
theorem sd0(n:Nat):(0:Int)<=(n:Int).tdiv 16:=by grind
theorem sd1{n:Nat}(h:(n:Int)<18446744073709551616):(n:Int).tdiv 16<=18446744073709551615:=by grind
theorem Zg(n:Nat):(htb.drop ((n:Int).tmod 16).toNat).take ((IntKind.u64.wrap ((n:Int).tmod 16+1)).toNat-((n:Int).tmod 16).toNat)=[dgt (n%16)]:=by
 rw[wr16,tmod16,cM,cM,Nat.add_sub_cancel_left]
 grind[aBp]
theorem aBq(n:Nat)(s:B):(htb.drop ((n:Int).tmod 16).toNat).take ((IntKind.u64.wrap ((n:Int).tmod 16+1)).toNat-((n:Int).tmod 16).toNat)++s=dgt (n%16)::s:=by rw[Zg]; rfl
theorem aBr{n k:Nat}{s:B}(hk:s.length=k)(h:k<16):((htb.drop ((n:Int).tmod 16).toNat).take ((IntKind.u64.wrap ((n:Int).tmod 16+1)).toNat-((n:Int).tmod 16).toNat)).length+s.length<=9223372036854775807:=by
 grind[Zg]
def g78:List Nat:=[16,23,31,0,6,5,4,43,3,8,7,2]
def c78:aY :=
 .seq (.region g78 [(zo 2 (.move (.c (.str []))))]) (.seq (.region g78 [(mv 9 0),(zo 10 (.lenStr (.s 9))),(zo 11 (.cnv (.u64) (.s 10))),(zo 12 (.bin (.xor) (.c (.int (.u64) 7640891576956012809)) (.s 11))),(mv 3 12)]) (.seq (.seq (.region g78 [(zo 4 (.move (cj 0)))]) (.block 0 (.loop 0 [13,14,15,16,19,20,21,22,23,26,27,28,29,30,31,32,33,34,35,36,37,5,24,25,6,38,39,40,41,3,17,18,4] (.seq (.seq (.region g78 [(mv 13 4),(mv 14 0),(zo 15 (.lenStr (.s 14))),(zo 16 (.bin (.leq) (.s 13) (.s 15)))]) (.cond (.s 16) .skip (.exit 0))) (.seq (.block 1 (.seq (.region g78 [(zo 5 (.move (.c (.int (.u64) 0))))]) (.seq (.seq (.region g78 [(mv 19 4),(mv 6 19)]) (.block 2 (.loop 1 [20,21,22,23,26,27,28,29,30,31,32,33,34,35,36,37,5,24,25,6] (.seq (.seq (.region g78 [(mv 20 6),(mv 21 4),(zo 22 (.bin (.add) (.s 21) (cj 8))),(zo 23 (.bin (.lss) (.s 20) (.s 22)))]) (.cond (.s 23) .skip (.exit 2))) (.seq (.block 3 (.seq (.region g78 [(mv 26 5),(zo 27 (.bin (.mul) (.s 26) (.c (.int (.u64) 256)))),(mv 5 27)]) (.seq (.region g78 [(mv 28 6),(mv 29 0),(zo 30 (.lenStr (.s 29))),(zo 31 (.bin (.lss) (.s 28) (.s 30)))]) (.join 2 [32,33,34,35,36,37,5] (.cond (.s 31) (.region g78 [(mv 32 5),(mv 33 0),(mv 34 6),(zo 35 (.idxStr (.s 33) (.s 34))),(zo 36 (.cnv (.u64) (.s 35))),(zo 37 (.bin (.add) (.s 32) (.s 36))),(mv 5 37)]) .skip))))) (.region g78 [(mv 24 6),(zo 25 (.bin (.add) (.s 24) (cj 1))),(mv 6 25)])))))) (.region g78 [(mv 38 3),(mv 39 5),(zo 40 (.bin (.xor) (.s 38) (.s 39))),(zo 41 (.call (.c (.fn 104)) [.s 40])),(mv 3 41)])))) (.region g78 [(mv 17 4),(zo 18 (.bin (.add) (.s 17) (cj 8))),(mv 4 18)])))))) (.seq (.region g78 [(zo 7 (.move (.c (.str []))))]) (.seq (.seq (.region g78 [(zo 8 (.move (cj 0)))]) (.block 4 (.loop 3 [42,43,46,47,48,49,50,51,52,53,7,54,55,3,44,45,8] (.seq (.seq (.region g78 [(mv 42 8),(zo 43 (.bin (.lss) (.s 42) (cj 16)))]) (.cond (.s 43) .skip (.exit 4))) (.seq (.block 5 (.seq (.region g78 [(mv 46 3),(zo 47 (.bin (.rem) (.s 46) (.c (.int (.u64) 16)))),(mv 48 3),(zo 49 (.bin (.rem) (.s 48) (.c (.int (.u64) 16)))),(zo 50 (.bin (.add) (.s 49) (.c (.int (.u64) 1)))),(zo 51 (.sliceStr (.c (.str [48,49,50,51,52,53,54,55,56,57,97,98,99,100,101,102])) (some (.s 47)) (some (.s 50)))),(mv 52 7),(zo 53 (.bin (.add) (.s 51) (.s 52))),(mv 7 53)]) (.region g78 [(mv 54 3),(zo 55 (.bin (.quo) (.s 54) (.c (.int (.u64) 16)))),(mv 3 55)]))) (.region g78 [(mv 44 8),(zo 45 (.bin (.add) (.s 44) (cj 1))),(mv 8 45)])))))) (.seq (.region g78 [(mv 56 7),(mv 2 56)]) .ret)))))
theorem e78:bO Tryz.prog 78 g78 [2] [] []=some (c78,[.slot 2],57):=by kernel_rfl
def Zz:Eng.Spec where
 X:=B
 args:=λt=>.cons (.str t) .nil
 pre:=λt=>t.length<4611686018427387904
 res:=λt=>.str (yW t)
 inst:=fun
  |.cons (.str s) _=>some s
  |_=>none
theorem Yd:Zz.Ok Tryz.prog 78:=by
 refine Eng.Spec.okR e78 .nil (λ_=>[(104,.p aE9)]) (λ_ _=>aO.p aCl aO.nil) ?_;rintro(t:B) (ht:t.length<4611686018427387904);refine⟨trivial,?_⟩;repeat' (first|refine aA ?_ ?_)
 .omega
 .omega
 have hs:0<=jI t/\jI t<18446744073709551616:=rG _ _;refine⟨⟨Nat,λj=>8*j<=t.length+8,λj=>[(4,.int .i64 ((8*j:Nat):Int)),(3,.int .u64 (nA t (jI t) j))],λ_=>[],λj=>t.length+8-8*j⟩,0,?_,?_,?_⟩
 .omega
 .repeat' (first|apply aA|exact trivial|exact rfl)
 rintro(j:Nat) (k0:8*j<=t.length+8);have hb:=zU t hs j;have hf:=Fx (t.drop (8*j));repeat' (first|refine aA ?_ ?_)
 .refine λ(h:decide (((8*j:Nat):Int)<=(t.length:Int))=true)=>?_;have hj:8*j<=t.length:=by grind
  refine⟨⟨Nat,λk=>k<=8,λk=>[(6,.int .i64 ((8*j+k:Nat):Int)),(5,.int .u64 (pO (kN (t.drop (8*j))) k))],λ_=>[],λk=>8-k⟩,0,aS _,?_,?_⟩
  .repeat' (first|apply aA|exact trivial|exact rfl)
  rintro(k:Nat) (k1:k<=8);have g1:-9223372036854775808<=((8*j:Nat):Int)+8:=by omega
  have g2:((8*j:Nat):Int)+8<=9223372036854775807:=by omega
  repeat' (first|apply aA|(with_reducible first|exact g1|exact g2))
  .refine λ(hg:decide (((8*j+k:Nat):Int)<((8*j:Nat):Int)+8)=true)=>?_;have hk:k<8:=by grind
   have g3:(0:Int)<=((8*j+k:Nat):Int):=by omega
   have g5:-9223372036854775808<=((8*j+k:Nat):Int)+1:=by omega
   have g6:((8*j+k:Nat):Int)+1<=9223372036854775807:=by omega
   have k2:k+1<=8:=hk;have k3:8-(k+1)<8-k:=by omega
   refine aB ⟨Unit,λ_=>True,λ_=>[(5,.int .u64 (pO (kN (t.drop (8*j))) (k+1)))],λ_=>[],λ_=>0⟩ (aA ?_ ?_)
   .repeat' (first|refine aA ?_ ?_)
    .refine λ(hg:decide (((8*j+k:Nat):Int)<(t.length:Int))=true)=>?_;have hl:8*j+k<t.length:=by grind
     have g4:((8*j+k:Nat):Int)<(t.length:Int):=by omega
     have hst:IntKind.u64.wrap (IntKind.u64.wrap (pO (kN (t.drop (8*j))) k*256)+((t.getD ((8*j+k:Nat):Int).toNat 0).toNat:Int))=pO (kN (t.drop (8*j))) (k+1):=U5 hf hk (Iv hk hl);have hby:=(t.getD (8*j+k) 0).toNat_lt;repeat' (first|apply aA|(with_reducible first|exact g3|exact g4))
     .omega
     .grind
     refine aB () ?_;repeat' (first|with_reducible exact hst|apply aA|exact trivial|exact rfl)
    .refine λ(hg:decide (((8*j+k:Nat):Int)<(t.length:Int))=false)=>?_;have hl:t.length<=8*j+k:=by grind
     have hst:=Yk hf hk (Nv hl);refine aB () ?_;repeat' (first|with_reducible exact hst|apply aA|exact trivial|exact rfl)
   rintro⟨⟩ (_:True);repeat' (first|apply aA|(with_reducible first|exact g5|exact g6))
   refine aB (k+1) ?_;repeat' (first|(with_reducible first|exact k2|exact k3)|apply aA|exact trivial|exact rfl)
  .refine λ(hg:decide (((8*j+k:Nat):Int)<((8*j:Nat):Int)+8)=false)=>?_;have hk:k=8:=by grind
   subst hk;repeat' (first|apply aA|exact trivial|exact rfl)
   .simp_all [rG]
   .simp_all [rG]
   .exact g1
   .exact g2
   have e8:((8*j:Nat):Int)+8=((8*(j+1):Nat):Int):=by omega
   have m1:8*(j+1)<=t.length+8:=by omega
   have m2:t.length+8-8*(j+1)<t.length+8-8*j:=by omega
   have m3:aCk (gI .xor .u64 (nA t (jI t) j) (pO (kN (t.drop (8*j))) 8))=nA t (jI t) (j+1):=Vd _ hf;refine aB (j+1) ?_;repeat' (first|(with_reducible first|exact m1|exact m2|exact m3|exact e8)|apply aA|exact trivial|exact rfl)
 .refine λ(h:decide (((8*j:Nat):Int)<=(t.length:Int))=false)=>?_;have hj:j=t.length/8+1:=by grind
  subst hj;have hv:((nA t (jI t) (t.length/8+1)).toNat:Int)=nA t (jI t) (t.length/8+1):=by omega
  refine⟨⟨Nat×Nat×B,λs=>s.1<=16/\HI t s.1 s.2.1 s.2.2,λs=>[(8,.int .i64 (s.1:Int)),(3,.int .u64 (s.2.1:Int)),(7,.str s.2.2)],λ_=>[],λs=>16-s.1⟩,(0,(nA t (jI t) (t.length/8+1)).toNat,[]),⟨aS _,aGo t⟩,?_,?_⟩
  .repeat' (first|with_reducible exact hv.symm|apply aA|exact trivial|exact rfl)
  rintro⟨k,v,s⟩ ⟨(k1:k<=16),(k2:HI t k v s)⟩;repeat' (first|refine aA ?_ ?_)
  .refine λ(hg:decide ((k:Int)<16)=true)=>?_;have hk:k<16:=by grind
   have f1:=Ww k2 hk;have f4:k+1<=16:=hk;have f5:16-(k+1)<16-k:=by omega
   have f6:-9223372036854775808<=(k:Int)+1:=by omega
   have f7:(k:Int)+1<=9223372036854775807:=by omega
   have f8:=sd1 k2.lt;have f9:=aBr (n:=v) k2.ln hk;repeat' (first|refine aA ?_ ?_)
   .exact six0
   .exact six0
   .exact sm0 v
   .exact sm1 v
   .exact sm2 v
   .exact f9
   .exact six0
   .exact sd0 v
   .exact f8
   .exact f6
   .exact f7
   refine aB (k+1,v/16,dgt (v%16)::s) ?_;repeat' (first|(with_reducible first|exact f1|exact f4|exact f5)|apply aA|exact trivial|with_reducible exact rfl|exact aBq v s|exact rfl)
  .refine λ(hg:decide ((k:Int)<16)=false)=>?_;have hk:k=16:=by grind
   subst hk;have k3:=aBo k2;repeat' (first|exact k3)
end Q2
end
