/- A part of the proof. -/
import Derived.Test.YtpiolkcdfgiefaaGreatDoorT21
import Derived.Test.YtpiolkcdfgiefaaGreatDoorT4
import Derived.Shelf.Strings.BuilderK
import Derived.WalkKit
import Derived.BigCall
import Derived.Test.YtpiolkcdfgiefaaGreatDoorProg
import Derived.Test.YtpiolkcdfgiefaaGreatDoorEngVia
section
set_option maxHeartbeats 10000000
open Go Go.Eng Go.Proofs T1 T2 T3 T4 T5 T6 T10 T11 T21
set_option maxRecDepth 100000
namespace T22
theorem Ge{α:Type}{a b:List α}{d:α}(hl:a.length=b.length)(h:∀j,j<a.length->a.getD j d=b.getD j d):a=b:=by
 grind[List.ext_getElem]
def g31:List Nat:=[10,14,0,1,25,5,4]
def c31:aY :=
 .seq (.region g31 [(zo 4 (.move cF))]) (.seq (.seq (.region g31 [(mv 6 0),(zo 7 (.lenSl (.s 6))),(mv 8 1),(zo 9 (.lenSl (.s 8))),(zo 10 (.bin (.neq) (.s 7) (.s 9)))]) (.cond (.s 10) (.seq (.region g31 [(zo 4 (.move cF))]) .ret) .skip)) (.seq (.seq (.region g31 [(zo 5 (.move (cj 0)))]) (.block 0 (.loop 0 [11,12,13,14,17,18,19,20,21,22,23,24,25,4,15,16,5] (.seq (.seq (.region g31 [(mv 11 5),(mv 12 0),(zo 13 (.lenSl (.s 12))),(zo 14 (.bin (.lss) (.s 11) (.s 13)))]) (.cond (.s 14) .skip (.exit 0))) (.seq (.block 1 (.seq (.drawn g31 (.pure 0 (mv 17 0) (.pure 1 (mv 18 5) (.pure 2 (zo 19 (.idxSl 1 (.s 17) (.s 18))) (.pure 3 (ld 20 19) (.pure 4 (mv 21 1) (.pure 5 (mv 22 5) (.pure 6 (zo 23 (.idxSl 1 (.s 21) (.s 22))) (.pure 7 (ld 24 23) (.pure 8 (zo 25 (.bin (.neq) (.s 20) (.s 24))) .done)))))))))) (.cond (.s 25) (.seq (.region g31 [(zo 4 (.move cF))]) .ret) .skip))) (.region g31 [(mv 15 5),(zo 16 (.bin (.add) (.s 15) (cj 1))),(mv 5 16)])))))) (.seq (.region g31 [(zo 4 (.move cT))]) .ret)))
theorem e31:bO Tryz.prog 31 g31 [] [] []=some (c31,[.slot 4],26):=by kernel_rfl
def aGb:Eng.Spec where
 X:=List B×List B
 args:=λx=>.cons (slE x.1) (.cons (slE x.2) .nil)
 pre:=λx=>x.1.length<4611686018427387904
 res:=λx=>.bool (decide (x.1=x.2))
 inst:=λ_=>none
theorem aDp:aGb.Ok Tryz.prog 31:=by
 refine Eng.Spec.okR e31 .nil (λ_=>[]) (λ_ _=>aO.nil) ?_;rintro⟨a,b⟩ (hn:a.length<4611686018427387904);refine⟨trivial,?_⟩;repeat' (first|refine aA ?_ ?_)
 .refine λ(h:(!decide ((a.length:Int)=(b.length:Int)))=true)=>?_;have hne:a≠b:=by
   grind
  have e:false=decide (a=b):=(decide_eq_false hne).symm;repeat' (first|exact e)
 .refine λ(h:(!decide ((a.length:Int)=(b.length:Int)))=false)=>?_;have hl:a.length=b.length:=by
   grind
  refine⟨⟨Nat,λk=>k<=a.length/\∀j,j<k->a.getD j []=b.getD j [],λk=>[(5,.int .i64 (k:Int))],λ_=>[],λk=>a.length-k⟩,0,⟨aS _,(by grind)⟩,?_,?_⟩
  .repeat' (first|apply aA|exact trivial|exact rfl|exact lz λ_=>rfl|fail)
  rintro(k:Nat) ⟨(hk:k<=a.length),(hf:∀j,j<k->a.getD j []=b.getD j [])⟩;repeat' (first|refine aA ?_ ?_)
  .refine λ(hg:decide ((k:Int)<(a.length:Int))=true)=>?_;have h1:(k:Int)<(a.length:Int):=of_decide_eq_true hg;have h2:(k:Int)<(b.length:Int):=by omega
   have h0:(0:Int)<=(k:Int):=by omega
   have b1:-9223372036854775808<=(k:Int)+1:=by omega
   have b2:(k:Int)+1<=9223372036854775807:=by omega
   have hkl:k<a.length:=by omega
   repeat' (first|apply aA|(with_reducible first|exact h0|exact h1|exact h2))
   .refine λ(hv:(!decide (a.getD k []=b.getD k []))=true)=>?_;have hne:a≠b:=by
     grind
    have e:false=decide (a=b):=(decide_eq_false hne).symm;repeat' (first|exact e)
   .refine λ(hv:(!decide (a.getD k []=b.getD k []))=false)=>?_;have hv':a.getD k []=b.getD k []:=by
     grind
    have hkl':k+1<=a.length:=hkl;have hf':∀j,j<k+1->a.getD j []=b.getD j []:=(by grind);have hms:a.length-(k+1)<a.length-k:=by omega
    repeat' (first|apply aA|(with_reducible first|exact b1|exact b2))
    refine aB (k+1) ?_;repeat' (first|apply aA|exact trivial|exact rfl|(with_reducible first|exact hkl'|exact hf'|exact hms)|exact lz λ_=>rfl|fail)
  .refine λ(hg:decide ((k:Int)<(a.length:Int))=false)=>?_;have hkl:k=a.length:=by grind
   subst hkl;have e:true=decide (a=b):=(decide_eq_true (Ge hl hf)).symm;repeat' (first|exact e)
def aGa:bC:=aGb.mof Bool (λx y=>y=decide (x.1=x.2)) (λ_ y=>.bool y)
theorem Ys:aGa.Ok Tryz.prog 31:=Eng.Spec.jW aDp λ_ _=>⟨_,rfl,rfl⟩
def g28:List Nat:=[10,14,0,1,25,5,4]
def c28:aY :=
 .seq (.region g28 [(zo 4 (.move cF))]) (.seq (.seq (.region g28 [(mv 6 0),(zo 7 (.lenSl (.s 6))),(mv 8 1),(zo 9 (.lenSl (.s 8))),(zo 10 (.bin (.neq) (.s 7) (.s 9)))]) (.cond (.s 10) (.seq (.region g28 [(zo 4 (.move cF))]) .ret) .skip)) (.seq (.seq (.region g28 [(zo 5 (.move (cj 0)))]) (.block 0 (.loop 0 [11,12,13,14,17,18,19,20,21,22,23,24,25,4,15,16,5] (.seq (.seq (.region g28 [(mv 11 5),(mv 12 0),(zo 13 (.lenSl (.s 12))),(zo 14 (.bin (.lss) (.s 11) (.s 13)))]) (.cond (.s 14) .skip (.exit 0))) (.seq (.block 1 (.seq (.drawn g28 (.pure 0 (mv 17 0) (.pure 1 (mv 18 5) (.pure 2 (zo 19 (.idxSl 2 (.s 17) (.s 18))) (.pure 3 (zo 20 (.load 2 true (.s 19))) (.pure 4 (mv 21 1) (.pure 5 (mv 22 5) (.pure 6 (zo 23 (.idxSl 2 (.s 21) (.s 22))) (.pure 7 (zo 24 (.load 2 true (.s 23))) (.pure 8 (zo 25 (.eqS true [(0,2),(1,2)] (.s 20) (.s 24))) .done)))))))))) (.cond (.s 25) (.seq (.region g28 [(zo 4 (.move cF))]) .ret) .skip))) (.region g28 [(mv 15 5),(zo 16 (.bin (.add) (.s 15) (cj 1))),(mv 5 16)])))))) (.seq (.region g28 [(zo 4 (.move cT))]) .ret)))
theorem e28:bO Tryz.prog 28 g28 [] [] []=some (c28,[.slot 4],26):=by kernel_rfl
def aE0:Eng.Spec where
 X:=List Ky×List Ky
 args:=λx=>.cons (ksE x.1) (.cons (ksE x.2) .nil)
 pre:=λx=>x.1.length<4611686018427387904
 res:=λx=>.bool (decide (x.1=x.2))
 inst:=λ_=>none
theorem Ep:aE0.Ok Tryz.prog 28:=by
 refine Eng.Spec.okR e28 .nil (λ_=>[]) (λ_ _=>aO.nil) ?_;rintro⟨a,b⟩ (hn:a.length<4611686018427387904);refine⟨trivial,?_⟩;repeat' (first|refine aA ?_ ?_)
 .refine λ(h:(!decide ((a.length:Int)=(b.length:Int)))=true)=>?_;have hne:a≠b:=by
   grind
  have e:false=decide (a=b):=(decide_eq_false hne).symm;repeat' (first|exact e)
 .refine λ(h:(!decide ((a.length:Int)=(b.length:Int)))=false)=>?_;have hl:a.length=b.length:=by
   grind
  refine⟨⟨Nat,λk=>k<=a.length/\∀j,j<k->a.getD j k0=b.getD j k0,λk=>[(5,.int .i64 (k:Int))],λ_=>[],λk=>a.length-k⟩,0,⟨aS _,(by grind)⟩,?_,?_⟩
  .repeat' (first|apply aA|exact trivial|exact rfl|exact lz λ_=>rfl|fail)
  rintro(k:Nat) ⟨(hk:k<=a.length),(hf:∀j,j<k->a.getD j k0=b.getD j k0)⟩;repeat' (first|refine aA ?_ ?_)
  .refine λ(hg:decide ((k:Int)<(a.length:Int))=true)=>?_;have h1:(k:Int)<(a.length:Int):=of_decide_eq_true hg;have h2:(k:Int)<(b.length:Int):=by omega
   have h0:(0:Int)<=(k:Int):=by omega
   have b1:-9223372036854775808<=(k:Int)+1:=by omega
   have b2:(k:Int)+1<=9223372036854775807:=by omega
   have hkl:k<a.length:=by omega
   repeat' (first|apply aA|(with_reducible first|exact h0|exact h1|exact h2))
   .refine λ(hv:(!(decide ((a.getD k k0).1=(b.getD k k0).1) && (decide ((a.getD k k0).2=(b.getD k k0).2) && true)))=true)=>?_;have heq:(decide ((a.getD k k0).1=(b.getD k k0).1) && (decide ((a.getD k k0).2=(b.getD k k0).2) && true))=decide (a.getD k k0=b.getD k k0):=by
     grind
    rw[heq]at hv;have hne:a≠b:=by
     grind
    have e:false=decide (a=b):=(decide_eq_false hne).symm;repeat' (first|exact e)
   .refine λ(hv:(!(decide ((a.getD k k0).1=(b.getD k k0).1) && (decide ((a.getD k k0).2=(b.getD k k0).2) && true)))=false)=>?_;have heq:(decide ((a.getD k k0).1=(b.getD k k0).1) && (decide ((a.getD k k0).2=(b.getD k k0).2) && true))=decide (a.getD k k0=b.getD k k0):=by
     grind
    rw[heq]at hv;have hv':a.getD k k0=b.getD k k0:=by
     grind
    have hkl':k+1<=a.length:=hkl;have hf':∀j,j<k+1->a.getD j k0=b.getD j k0:=(by grind);have hms:a.length-(k+1)<a.length-k:=by omega
    repeat' (first|apply aA|(with_reducible first|exact b1|exact b2))
    refine aB (k+1) ?_;repeat' (first|apply aA|exact trivial|exact rfl|(with_reducible first|exact hkl'|exact hf'|exact hms)|exact lz λ_=>rfl|fail)
  .refine λ(hg:decide ((k:Int)<(a.length:Int))=false)=>?_;have hkl:k=a.length:=by grind
   subst hkl;have e:true=decide (a=b):=(decide_eq_true (Ge hl hf)).symm;repeat' (first|exact e)
def aB9:bC:=aE0.mof Bool (λx y=>y=decide (x.1=x.2)) (λ_ y=>.bool y)
theorem Mi:aB9.Ok Tryz.prog 28:=Eng.Spec.jW Ep λ_ _=>⟨_,rfl,rfl⟩
def lY(k:Ky):Bool:=decide (k.1.length<=40) && decide (k.2.length<=40)
def tP(l:List Ky)(n:Nat):Bool:=decide (l.length<=n) && l.all lY
def g17:List Nat:=[14,32,5,0,1,4]
def c17:aY :=
 .seq (.region g17 [(zo 4 (.move cF))]) (.seq (.seq (.region g17 [(zo 5 (.move (cj 0)))]) (.block 0 (.loop 0 [6,7,8,9,10,11,12,13,14,17,18,19,20,21,22,23,24,25,26,27,28,29,30,31,32,4,15,16,5] (.seq (.seq (.region g17 [(mv 6 5),(mv 7 0),(zo 8 (.lenSl (.s 7))),(zo 9 (.bin (.lss) (.s 6) (.s 8))),(mv 10 9),(mg 11 10 true 5),(mg 12 10 true 1),(zg 13 10 true (.bin (.lss) (.s 11) (.s 12))),(zo 14 (.pick (.s 10) (.s 13) cF))]) (.cond (.s 14) .skip (.exit 0))) (.seq (.block 1 (.seq (.region g17 [(mv 17 0),(mv 18 5),(zo 19 (.idxSl 2 (.s 17) (.s 18))),(fa 20 0 19),(ld 21 20),(zo 22 (.lenStr (.s 21))),(zo 23 (.bin (.gtr) (.s 22) (cj 40))),(mv 24 23),(mg 25 24 false 0),(mg 26 24 false 5),(zg 27 24 false (.idxSl 2 (.s 25) (.s 26))),(fg 28 24 false 1 27),(lg 29 24 false 28),(zg 30 24 false (.lenStr (.s 29))),(zg 31 24 false (.bin (.gtr) (.s 30) (cj 40))),(zo 32 (.pick (.s 24) cT (.s 31)))]) (.cond (.s 32) (.seq (.region g17 [(zo 4 (.move cF))]) .ret) .skip))) (.region g17 [(mv 15 5),(zo 16 (.bin (.add) (.s 15) (cj 1))),(mv 5 16)])))))) (.seq (.region g17 [(mv 33 0),(zo 34 (.lenSl (.s 33))),(mv 35 1),(zo 36 (.bin (.leq) (.s 34) (.s 35))),(mv 4 36)]) .ret))
theorem e17:bO Tryz.prog 17 g17 [] [] []=some (c17,[.slot 4],37):=by kernel_rfl
def aEm:Eng.Spec where
 X:=List Ky×Nat
 args:=λx=>.cons (ksE x.1) (.cons (.int .i64 (x.2:Int)) .nil)
 pre:=λx=>x.1.length<4611686018427387904
 res:=λx=>.bool (tP x.1 x.2)
 inst:=λ_=>none
theorem aBa:aEm.Ok Tryz.prog 17:=by
 refine Eng.Spec.okR e17 .nil (λ_=>[]) (λ_ _=>aO.nil) ?_;rintro⟨l,n⟩ (hn:l.length<4611686018427387904);refine⟨trivial,?_⟩;refine⟨⟨Nat,λk=>(k<=l.length/\k<=n)/\∀j,j<k->lY (l.getD j k0)=true,λk=>[(5,.int .i64 (k:Int))],λ_=>[],λk=>l.length-k⟩,0,⟨⟨aS _,aS _⟩,λj hj=>absurd hj (cO j)⟩,?_,?_⟩
 .repeat' (first|apply aA|exact trivial|exact rfl|exact lz λ_=>rfl|fail)
 rintro(k:Nat) ⟨⟨(hk:k<=l.length),(hkn:k<=n)⟩,(hf:∀j,j<k->lY (l.getD j k0)=true)⟩;have b1:-9223372036854775808<=(k:Int)+1:=by omega
 have b2:(k:Int)+1<=9223372036854775807:=by omega
 have h0:(0:Int)<=(k:Int):=by omega
 repeat' (first|refine aA ?_ ?_)
 .refine λ(hg:bN (decide ((k:Int)<(l.length:Int))) (.s 13) cF (decide ((k:Int)<(n:Int))) false=true)=>?_;rw[bW,aI,decide_eq_true_eq,decide_eq_true_eq]at hg;have h1:=hg.1;have hkl:k<l.length:=by omega
  repeat' (first|apply aA|(with_reducible first|exact h0|exact h1))
  .refine λ_=>?_;repeat' (first|apply aA|(with_reducible first|exact h0|exact h1))
  .refine λ(hv:bN (decide (((l.getD k k0).1.length:Int)>40)) cT (.s 31) true (decide (((l.getD k k0).2.length:Int)>40))=true)=>?_;rw[dL,fN,decide_eq_true_eq,decide_eq_true_eq]at hv;have e:false=tP l n:=by
    symm;unfold tP;have:l.all lY=false:=by
     rw[List.all_eq_false];refine⟨l.getD k k0,?_,?_⟩
     .rw [aK,aM hkl]; exact eM hkl
     .unfold lY;rw[aI,decide_eq_true_eq,decide_eq_true_eq];omega
    rw[this,Bool.and_false]
   repeat' (first|exact e)
  .refine λ(hv:bN (decide (((l.getD k k0).1.length:Int)>40)) cT (.s 31) true (decide (((l.getD k k0).2.length:Int)>40))=false)=>?_;rw[dL,cZ,decide_eq_false_iff_not,decide_eq_false_iff_not]at hv;have hkl':k+1<=l.length:=hkl;have hkn':k+1<=n:=by omega
   have hf':∀j,j<k+1->lY (l.getD j k0)=true:=λj hj=>by
    by_cases e:j=k
    .rw [e]; unfold lY; rw[aI,decide_eq_true_eq,decide_eq_true_eq]; omega
    .exact hf j (by omega)
   have hms:l.length-(k+1)<l.length-k:=by omega
   repeat' (first|apply aA|(with_reducible first|exact b1|exact b2))
   refine aB (k+1) ?_;repeat' (first|apply aA|exact trivial|exact rfl|(with_reducible first|exact hkl'|exact hkn'|exact hf'|exact hms)|exact lz λ_=>rfl|fail)
 .refine λ(hg:bN (decide ((k:Int)<(l.length:Int))) (.s 13) cF (decide ((k:Int)<(n:Int))) false=false)=>?_;rw[bW,Bool.and_eq_false_iff,decide_eq_false_iff_not,decide_eq_false_iff_not]at hg;have e:decide ((l.length:Int)<=(n:Int))=tP l n:=by
   unfold tP;by_cases hl:l.length<=n
   .have hkl:k=l.length:=by omega
    have:l.all lY=true:=by
     rw[dI];intro x hx;obtain⟨j,hj,rfl⟩:=bG hx;have:=hf j (by omega);simpa[hj]using this
    rw[this,decide_eq_true hl,decide_eq_true (by omega)]; rfl
   .rw [decide_eq_false hl,decide_eq_false (by omega)]; rfl
  repeat' (first|exact e)
end T22
end
section
set_option maxHeartbeats 10000000
open Go Go.Eng Go.Proofs T1 T2 T3 T4 T5 T6 T10 T11 T21 T22
set_option maxRecDepth 100000
namespace T23
structure ND where
 ids:List B
 bys:B
 kids:List B
 deriving DecidableEq
def ndL(n:ND):SV:=.cons (slE n.ids) (.cons (.str n.bys) (.cons (slE n.kids) .nil))
def g27:List Nat:=[0,1,2,3,4]
def c27:aY :=
 .seq (.region g27 [(zo 2 (.box 39 (.s 0))),(zo 3 (.box 39 (.s 1))),(zo 4 (.move cF))]) (.seq (.region g27 [(fa 5 0 2),(ld 6 5),(fa 7 0 3),(ld 8 7),(zo 9 (.call (.c (.fn 31)) [.s 6,.s 8])),(mv 10 9),(fg 11 10 true 1 2),(lg 12 10 true 11),(fg 13 10 true 1 3),(lg 14 10 true 13),(zg 15 10 true (.bin (.eql) (.s 12) (.s 14))),(zo 16 (.pick (.s 10) (.s 15) cF)),(mv 17 16),(fg 18 17 true 2 2),(lg 19 17 true 18),(fg 20 17 true 2 3),(lg 21 17 true 20),(zg 22 17 true (.call (.c (.fn 31)) [.s 19,.s 21])),(zo 23 (.pick (.s 17) (.s 22) cF)),(mv 4 23)]) .ret)
theorem e27:bO Tryz.prog 27 g27 [] [] []=some (c27,[.slot 4],24):=by kernel_rfl
def Z0:Eng.Spec where
 X:=ND×ND
 args:=λx=>.cons (.agg (ndL x.1)) (.cons (.agg (ndL x.2)) .nil)
 pre:=λx=>x.1.ids.length<4611686018427387904/\x.1.kids.length<4611686018427387904
 res:=λx=>.bool (decide (x.1=x.2))
 inst:=λ_=>none
theorem Ye:Z0.Ok Tryz.prog 27:=by
 refine Eng.Spec.okR e27 .nil (λ_=>[(31,.m aGa)]) (λ_ _=>aO.m Ys aO.nil) ?_;rintro⟨⟨i1,b1,k1⟩,⟨i2,b2,k2⟩⟩ ⟨(hi:i1.length<4611686018427387904),(hk:k1.length<4611686018427387904)⟩;refine⟨trivial,?_⟩;refine aB (i1,i2) (aB [] ?_);repeat' (first|apply aA|exact trivial|exact rfl|exact lz λ_=>rfl|exact hi)
 refine λ(y:Bool) (hy:y=decide (i1=i2))=>?_;subst hy;repeat' (first|refine aA ?_ ?_)
 .refine λ(h:bN (decide (i1=i2)) (.s 15) cF (decide (b1=b2)) false=true)=>?_;rw[bW,aI,decide_eq_true_eq,decide_eq_true_eq]at h;refine aB (k1,k2) (aB [] ?_);repeat' (first|apply aA|exact trivial|exact rfl|exact lz λ_=>rfl|exact hk)
  refine λ(y:Bool) (hy:y=decide (k1=k2))=>?_;subst hy;have e:bN (bN (decide (i1=i2)) (.s 15) cF (decide (b1=b2)) false) (.s 22) cF (decide (k1=k2)) false=decide (ND.mk i1 b1 k1=ND.mk i2 b2 k2):=by
   grind[bW]
  repeat' (first|exact e)
 .refine λ(h:bN (decide (i1=i2)) (.s 15) cF (decide (b1=b2)) false=!true)=>?_;have h':(decide (i1=i2) && decide (b1=b2))=false:=by
   grind[bW]
  have e:false=decide (ND.mk i1 b1 k1=ND.mk i2 b2 k2):=by
   grind
  repeat' (first|apply aA|exact e|exact h)
def aD0:Eng.Spec where
 X:=B×B
 args:=λx=>.cons (.str x.1) (.cons (.str x.2) .nil)
 pre:=λ_=>True
 res:=λx=>.bool (x.2.isPrefixOf x.1)
 inst:=fun
  |.cons (.str s) (.cons (.str w) _)=>some (s,w)
  |_=>none
end T23
end
section
open Go Go.Eng Go.Proofs T1 T2 T3 T4 T5 T6 T10 T11 T21 T22 T23
set_option maxRecDepth 100000
namespace T24
abbrev Ac:=Bool×Ky
def a0:Ac:=(false,k0)
def Qj(a:Ac):SV:=.cons (.bool a.1) (jN a.2)
theorem aGf(k:Keep)(hp:List (Nat×aL))(m:Nat)(x:Ac):sub k hp (m+5) (Qj x) (Qj x):=⟨rfl,rfl,rfl,trivial⟩
def acE(l:List Ac):SV:=.slice 3 l.length λi=>Qj (l.getD i a0)
def Wl:bC:=aEm.mof Bool (λx y=>y=tP x.1 x.2) (λ_ y=>.bool y)
theorem Eb:Wl.Ok Tryz.prog 17:=Eng.Spec.jW aBa λ_ _=>⟨_,rfl,rfl⟩
def Ae(l:List Ac):Bool:=decide (l.length<=12) && l.all λa=>lY a.2
def g12:List Nat:=[7,0,21,3,2]
def c12:aY :=
 .seq (.region g12 [(zo 2 (.move cF))]) (.seq (.seq (.region g12 [(zo 3 (.move (cj 0)))]) (.block 0 (.loop 0 [4,5,6,7,10,11,12,13,14,15,16,17,18,19,20,21,2,8,9,3] (.seq (.seq (.region g12 [(mv 4 3),(mv 5 0),(zo 6 (.lenSl (.s 5))),(zo 7 (.bin (.lss) (.s 4) (.s 6)))]) (.cond (.s 7) .skip (.exit 0))) (.seq (.block 1 (.seq (.region g12 [(mv 10 3),(zo 11 (.bin (.geq) (.s 10) (cj 12))),(mv 12 11),(mg 13 12 false 0),(mg 14 12 false 3),(zg 15 12 false (.idxSl 3 (.s 13) (.s 14))),(fg 16 12 false 1 15),(zg 17 12 false (.load 2 true (.s 16))),(zg 18 12 false (.buildSl 32 2 1 (.cons (.str []) (.cons (.str []) .nil)) [(0,2,.s 17)])),(zg 19 12 false (.call (.c (.fn 17)) [.s 18,cj 1])),(zg 20 12 false (.not (.s 19))),(zo 21 (.pick (.s 12) cT (.s 20)))]) (.cond (.s 21) (.seq (.region g12 [(zo 2 (.move cF))]) .ret) .skip))) (.region g12 [(mv 8 3),(zo 9 (.bin (.add) (.s 8) (cj 1))),(mv 3 9)])))))) (.seq (.region g12 [(zo 2 (.move cT))]) .ret))
theorem e12:bO Tryz.prog 12 g12 [] [] []=some (c12,[.slot 2],22):=by kernel_rfl
def Zn:Eng.Spec where
 X:=List Ac
 args:=λx=>.cons (acE x) .nil
 pre:=λx=>x.length<4611686018427387904
 res:=λx=>.bool (Ae x)
 inst:=λ_=>none
theorem Xj:Zn.Ok Tryz.prog 12:=by
 refine Eng.Spec.okR e12 .nil (λ_=>[(17,.m Wl)]) (λ_ _=>aO.m Eb aO.nil) ?_;rintro(l:List Ac) (hn:l.length<4611686018427387904);refine⟨trivial,?_⟩;refine⟨⟨Nat,λk=>(k<=l.length/\k<=12)/\∀j,j<k->lY (l.getD j a0).2=true,λk=>[(3,.int .i64 (k:Int))],λ_=>[],λk=>l.length-k⟩,0,⟨⟨aS _,aS _⟩,λj hj=>absurd hj (cO j)⟩,?_,?_⟩
 .repeat' (first|apply aA|exact trivial|exact rfl|exact lz λ_=>rfl|fail)
 rintro(k:Nat) ⟨⟨(hk:k<=l.length),(hkn:k<=12)⟩,(hf:∀j,j<k->lY (l.getD j a0).2=true)⟩;have b1:-9223372036854775808<=(k:Int)+1:=by omega
 have b2:(k:Int)+1<=9223372036854775807:=by omega
 have h0:(0:Int)<=(k:Int):=by omega
 repeat' (first|refine aA ?_ ?_)
 .refine λ(hg:decide ((k:Int)<(l.length:Int))=true)=>?_;have h1:=of_decide_eq_true hg;have hkl:k<l.length:=by omega
  repeat' (first|refine aA ?_ ?_)
  .refine λ_=>?_;repeat' (first|apply aA|(with_reducible first|exact h0|exact h1))
  .refine λ(hv:decide ((k:Int)>=12)=false)=>?_;have h12:=of_decide_eq_false hv;have hl1:[(l.getD k a0).2].length<4611686018427387904:=by simp
   refine aB ([(l.getD k a0).2],1) (aB [] ?_);repeat' (first|apply aA|exact trivial|exact rfl|exact hl1)
   refine λ(y:Bool) (hy:y=tP [(l.getD k a0).2] 1)=>?_;subst hy;have hfe:tP [(l.getD k a0).2] 1=lY (l.getD k a0).2:=by
    unfold tP;simp
   repeat' (first|refine aA ?_ ?_)
   .refine λ(hp:bN (decide ((k:Int)>=12)) cT (.s 20) true (!tP [(l.getD k a0).2] 1)=true)=>?_;rw[dL,hv,gV]at hp;have hp':=T12.Xx hp;have e:false=Ae l:=by
     symm;unfold Ae;have:(l.all λa=>lY a.2)=false:=by
      rw[List.all_eq_false];refine⟨l.getD k a0,?_,?_⟩
      .rw [aK,aM hkl]; exact eM hkl
      .unfold tP at hp';simpa using hp'
     rw[this,Bool.and_false]
    repeat' (first|exact e)
   .refine λ(hp:bN (decide ((k:Int)>=12)) cT (.s 20) true (!tP [(l.getD k a0).2] 1)=false)=>?_;rw[dL,hv,gV]at hp;have hp':=T12.Xw hp;have hs:lY (l.getD k a0).2=true:=by
     unfold tP at hp';simpa using hp'
    have hkl':k+1<=l.length:=hkl;have hkn':k+1<=12:=by omega
    have hf':∀j,j<k+1->lY (l.getD j a0).2=true:=λj hj=>by
     by_cases e:j=k
     .rw [e]; exact hs
     .exact hf j (by omega)
    have hms:l.length-(k+1)<l.length-k:=by omega
    repeat' (first|apply aA|(with_reducible first|exact b1|exact b2))
    refine aB (k+1) ?_;repeat' (first|apply aA|exact trivial|exact rfl|(with_reducible first|exact hkl'|exact hkn'|exact hf'|exact hms)|exact lz λ_=>rfl|fail)
  .refine λ(hv:decide ((k:Int)>=12)=!false)=>?_;have h12:(k:Int)>=12:=of_decide_eq_true hv;have e:false=Ae l:=by
    symm;unfold Ae;rw[decide_eq_false (by omega),Bool.false_and]
   repeat' (first|apply aA|exact zh|refine zt ?_|exact e|exact hv|exact λ(h:decide ((k:Int)>=12)=false)=>Bool.noConfusion (hv.symm.trans h)|fail)
 .refine λ(hg:decide ((k:Int)<(l.length:Int))=false)=>?_;have hkl:k=l.length:=by have:=of_decide_eq_false hg; omega
  have e:true=Ae l:=by
   symm;unfold Ae;rw[aI,decide_eq_true_eq,dI];refine⟨by omega,λx hx=>?_⟩;obtain⟨j,hj,rfl⟩:=bG hx;have:=hf j (by omega);simpa[hj]using this
  repeat' (first|exact e)
end T24
end
section
open Go Go.Eng Go.Proofs T1 T2 T3 T4 T5 T6 T23
set_option maxRecDepth 100000
namespace T25
def lsH(i:Nat)(l:List B):Nat×aL:=(i,.arr 9 1 l.length λj=>idE (l.getD j []))
theorem Qs{P:Bool->Prop}(h1:P true)(h0:P false):∀b,P b
 |true=>h1
 |false=>h0
def g80:List Nat:=[4,0,2]
def c80:aY :=
 .seq (.region g80 [(zo 2 (.move (.c (.nilsl))))]) (.seq (.seq (.region g80 [(mv 3 0),(zo 4 (.slNil false (.s 3) (.c (.nilsl))))]) (.cond (.s 4) (.seq (.region g80 [(zo 2 (.move (.c (.nilsl))))]) .ret) .skip)) (.seq (.region g80 [(zo 5 (.buildSl 9 1 0 (.cons (.str []) .nil) [])),(mv 6 0),(zo 7 (.app 9 1 16 (.s 5) (.s 6))),(mv 2 7)]) .ret))
theorem e80:bO Tryz.prog 80 g80 [] [] []=some (c80,[.slot 2],8):=by kernel_rfl
def aD4:bC where
 X:=List B
 Y:=Unit
 args:=λl=>.cons (slE l) .nil
 pre:=λl=>l.length<=1000000
 h0:=λ_=>[]
 nx0:=0
 post:=λ_ _=>True
 res:=λl _=>.lsl 0 1 l.length
 h1:=λl _=>[lsH 0 l]
 nx1:=1
theorem aAq:aD4.Ok Tryz.prog 80:=by
 refine Eng.bC.okR e80 .nil (λ_=>[]) (λ_ _=>aO.nil) ?_;rintro(l:List B) (hn:l.length<=1000000);refine⟨trivial,?_⟩;refine Qs (λ(h:0<l.length->true=false)=>?_) (λ(_:0<l.length->false=false)=>?_)
 .have h0:l.length=0:=by
   rcases kB l.length with h'|h'
   .exact h'
   .exact Bool.noConfusion (h h')
  repeat' (first|apply aA|exact zh|refine zt ?_|fail)
  refine aB () ?_;repeat' (first|apply aA|exact trivial|exact h0)
 .repeat' (first|apply aA|exact zf|refine zt ?_|fail)
  .exact λ_ _=>rfl
  .show l.length<=9223372036854775807;omega
  .show l.length*16<=140737488355328;omega
  refine aB () ?_;repeat' (first|apply aA|exact trivial|exact rfl|exact lz λ_=>rfl|fail)
end T25
end
section
set_option maxHeartbeats 10000000
open Go Go.Eng Go.Proofs T1 T3 T23 T25 D3
set_option maxRecDepth 100000
namespace D6
def dG(l:List B):B:=(l.map λs=>Lib.itoa (s.length:Int)++58::s).flatten
def mQ(l:List B):B:=yW (dG l)
def As:Eng.Spec where
 X:=List B
 args:=λl=>.cons (slE l) .nil
 pre:=λl=>l.length<=1000000/\(dG l).length<=140737488355328
 res:=λl=>.str (mQ l)
 inst:=λ_=>none
def S1:bC:=As.mof B (λx y=>y=mQ x) (λ_ y=>.str y)
theorem G0(h:As.Ok Tryz.prog 35):S1.Ok Tryz.prog 35:=Eng.Spec.jW h λ_ _=>⟨_,rfl,rfl⟩
def cA(n:ND):List B:=[116,114,105,101]::Lib.itoa (n.ids.length:Int)::n.ids
def dO(n:ND):Nat->List B
 |0=>[]
 |j+1=>dO n j++[(n.bys.drop j).take 1,n.kids.getD j []]
def kQ(n:ND):B:=if n.bys.length=n.kids.length then mQ (cA n++dO n n.kids.length)else []
def g19:List Nat:=[0,12,23,25,22,1,4,5,24,3,2]
def c19:aY :=
 .seq (.region g19 [(zo 1 (.box 39 (.s 0))),(zo 2 (.move (.c (.str []))))]) (.seq (.seq (.region g19 [(fa 6 1 1),(ld 7 6),(zo 8 (.lenStr (.s 7))),(fa 9 2 1),(ld 10 9),(zo 11 (.lenSl (.s 10))),(zo 12 (.bin (.neq) (.s 8) (.s 11)))]) (.cond (.s 12) (.seq (.region g19 [(zo 2 (.move (.c (.str []))))]) .ret) .skip)) (.seq (.drawn g19 (.pure 0 (fa 13 0 1) (.pure 1 (ld 14 13) (.pure 2 (zo 15 (.lenSl (.s 14))) (.pure 3 (zo 16 (.call (.c (.fn 52)) [.s 15])) (.pure 5 (fa 18 0 1) (.pure 6 (ld 19 18) (.eff 4 (zo 17 (.buildSl 9 1 2 (.cons (.str []) .nil) [(0,1,.c (.str [116,114,105,101])),(1,1,.s 16)])) [(ld 19 18)] (.eff 7 (zo 20 (.app 9 1 16 (.s 17) (.s 19))) [] (.pure 8 (mv 3 20) .done) .none) .none)))))))) (.seq (.seq (.region g19 [(fa 21 2 1),(ld 22 21),(zo 23 (.lenSl (.s 22))),(zo 24 (.move (cj 0)))]) (.block 0 (.loop 0 [25,26,27,28,4,5,29,30,31,32,33,34,35,36,37,38,3,39,24] (.seq (.region g19 [(zo 25 (.bin (.lss) (.s 24) (.s 23)))]) (.seq (.cond (.s 25) .skip (.exit 0)) (.seq (.block 1 (.seq (.region g19 [(mv 26 24),(zo 27 (.idxSl 1 (.s 22) (.s 24))),(ld 28 27),(mv 4 26),(mv 5 28)]) (.region g19 [(mv 29 3),(fa 30 1 1),(ld 31 30),(mv 32 4),(mv 33 4),(zo 34 (.bin (.add) (.s 33) (cj 1))),(zo 35 (.sliceStr (.s 31) (some (.s 32)) (some (.s 34)))),(mv 36 5),(zo 37 (.buildSl 9 1 2 (.cons (.str []) .nil) [(0,1,.s 35),(1,1,.s 36)])),(zo 38 (.app 9 1 16 (.s 29) (.s 37))),(mv 3 38)]))) (.region g19 [(zo 39 (.bin (.add) (.s 24) (cj 1))),(mv 24 39)]))))))) (.seq (.region g19 [(mv 40 3),(zo 41 (.call (.c (.fn 35)) [.s 40])),(mv 2 41)]) .ret))))
theorem e19:bO Tryz.prog 19 g19 [] [17] []=some (c19,[.slot 2],42):=by kernel_rfl
def Dn:Eng.Spec where
 X:=ND
 args:=λn=>.cons (.agg (ndL n)) .nil
 pre:=λn=>(n.ids.length<=100000/\n.kids.length<=100000)/\(dG (cA n++dO n n.kids.length)).length<=140737488355328
 res:=λn=>.str (kQ n)
 inst:=λ_=>none
theorem R7(n:ND):(cA n++dO n 0).length=2+n.ids.length:=by grind[cA,dO]
theorem wX{α:Type}(a b:Nat)(x y:α):(bif Nat.blt a b then x else y)=if a<b then x else y:=by
 simp
theorem aBn{k:Keep}{hp:List (Nat×aL)}(n:ND){m:Nat}:∀i,i<m->lM k (sub k hp 200) (gH 2 (mO (.cons (.cons (.str [116,114,105,101]) .nil) (.cons (.cons (.str (Lib.itoa (n.ids.length:Int))) .nil) .nil))) (λi=>idE (n.ids.getD i [])) i) (idE ((cA n++dO n 0).getD i [])):=by
 intro i _;have e:gH 2 (mO (.cons (.cons (.str [116,114,105,101]) .nil) (.cons (.cons (.str (Lib.itoa (n.ids.length:Int))) .nil) .nil))) (λi=>idE (n.ids.getD i [])) i=idE ((cA n++dO n 0).getD i []):=by
  unfold gH cA dO;rw[wX,eY]
  match i with
  |0=>rfl
  |1=>rfl
  |i+2 =>
   rfl
 rw[e];exact Or.inl (fS _ _ _ _)
theorem Gt(n:ND):∀j,(dO n j).length=2*j
 |0=>rfl
 |j+1=>by rw[dO,bF,Gt n j]; simp only[bA,eZ]; omega
theorem mY(n:ND)(j:Nat):(cA n++dO n j).length=2+n.ids.length+2*j:=by
 grind[Gt,cA]
theorem Si{k:Keep}{hp:List (Nat×aL)}{n:ND}{j:Nat}{x y:B}{m:Nat}(hx:x=(n.bys.drop j).take 1)(hy:y=n.kids.getD j [])(hm:m=(cA n++dO n j).length+2):∀i,i<m->lM k (sub k hp 200) (gH (cA n++dO n j).length (λq=>idE ((cA n++dO n j).getD q [])) (λq=>mO (.cons (.cons (.str x) .nil) (.cons (.cons (.str y) .nil) .nil)) (0+q)) i) (idE ((cA n++dO n (j+1)).getD i [])):=by
 intro i hi;subst hx hy hm;rw[dO,<- gB];generalize cA n++dO n j=L at *
 have e:gH L.length (λj=>idE (L.getD j [])) (λq=>mO (.cons (.cons (.str ((n.bys.drop j).take 1)) .nil) (.cons (.cons (.str (n.kids.getD j [])) .nil) .nil)) (0+q)) i=idE ((L++[(n.bys.drop j).take 1,n.kids.getD j []]).getD i []):=by
  unfold gH;rw[wX];by_cases h:i<L.length
  .simp [*]
  .rw [if_neg h];have e2:(L++[(n.bys.drop j).take 1,n.kids.getD j []]).getD i []=[(n.bys.drop j).take 1,n.kids.getD j []].getD (i-L.length) []:=by
    grind
   rw[e2];show mO _ (0+(i-L.length))=_;rw[aP];have hc:i-L.length=0\/i-L.length=1:=by omega
   rcases hc with hc|hc<;>rw[hc]<;>rfl
 rw[e];exact Or.inl (fS _ _ _ _)
theorem Nj{P:Nat->Prop}(h0:P 0)(h1:P 1):∀j,j<2->P j:=by
 grind
theorem uO(hl:As.Ok Tryz.prog 35):Dn.Ok Tryz.prog 19:=by
 refine Eng.Spec.okR e19 .nil (λ_=>[(52,.p Mg),(35,.m S1),(2097152,.own)]) (λ_ _=>aO.p D5.itoa (aO.m (G0 hl) (aO.o aO.nil))) ?_;rintro⟨ids,bys,kids⟩ ⟨⟨(h1:ids.length<=100000),(h2:kids.length<=100000)⟩,(h3:(dG (cA ⟨ids,bys,kids⟩++dO ⟨ids,bys,kids⟩ kids.length)).length<=140737488355328)⟩;refine⟨trivial,?_⟩;repeat' (first|refine aA ?_ ?_)
 .refine λ(h:(!decide ((bys.length:Int)=(kids.length:Int)))=true)=>?_;have hne:¬bys.length=kids.length:=by
   grind
  have e:[]=kQ ⟨ids,bys,kids⟩:=(if_neg hne).symm;repeat' (first|exact e)
 .refine λ(h:(!decide ((bys.length:Int)=(kids.length:Int)))=false)=>?_;have he:bys.length=kids.length:=by
   grind
  repeat' (first|apply aA|exact trivial|exact rfl)
  .omega
  .grind
  .exact λ_ _=>rfl
  .grind
  .grind
  refine⟨⟨Nat,λj=>j<=kids.length,λj=>[(24,.int .i64 (j:Int)),(3,.lsl 30 1 (cA ⟨ids,bys,kids⟩++dO ⟨ids,bys,kids⟩ j).length)],λj=>[lsH 30 (cA ⟨ids,bys,kids⟩++dO ⟨ids,bys,kids⟩ j)],λj=>kids.length-j⟩,0,aS _,?_,?_⟩
  .repeat' (first|apply aA|exact trivial|exact rfl|exact lz λ_=>rfl|fail)
   .grind [R7]
   .grind [R7]
   .exact aBn ⟨ids,bys,kids⟩
  rintro(j:Nat) (kj:j<=kids.length);repeat' (first|refine aA ?_ ?_)
  .refine λ(hlt:decide ((j:Int)<(kids.length:Int))=true)=>?_;replace hlt:j<kids.length:=by grind
   have g0:(0:Int)<=(j:Int):=by omega
   have g1:(j:Int)<(kids.length:Int):=by omega
   have g2:-9223372036854775808<=(j:Int)+1:=by omega
   have g3:(j:Int)+1<=9223372036854775807:=by omega
   have g4:(j:Int)<=(j:Int)+1:=by omega
   have g5:(j:Int)+1<=(bys.length:Int):=by omega
   have hal:=mY ⟨ids,bys,kids⟩ j;have hal2:=mY ⟨ids,bys,kids⟩ (j+1);replace hal:(cA ⟨ids,bys,kids⟩++dO ⟨ids,bys,kids⟩ j).length=2+ids.length+2*j:=hal;replace hal2:(cA ⟨ids,bys,kids⟩++dO ⟨ids,bys,kids⟩ (j+1)).length=2+ids.length+2*(j+1):=hal2;have g6:(cA ⟨ids,bys,kids⟩++dO ⟨ids,bys,kids⟩ j).length+2<=9223372036854775807:=by omega
   have g7:((cA ⟨ids,bys,kids⟩++dO ⟨ids,bys,kids⟩ j).length+2)*16<=140737488355328:=by omega
   have g8:kids.length-(j+1)<kids.length-j:=by omega
   have g9:(cA ⟨ids,bys,kids⟩++dO ⟨ids,bys,kids⟩ j).length+2=(cA ⟨ids,bys,kids⟩++dO ⟨ids,bys,kids⟩ (j+1)).length:=by omega
   have hx:(bys.drop (j:Int).toNat).take (((j:Int)+1).toNat-(j:Int).toNat)=(bys.drop j).take 1:=by
    simp
   repeat' (first|apply aA|exact rfl|(with_reducible first|exact g0|exact g1|exact g2|exact g3))
   .exact g4
   .exact g5
   .omega
   .exact Nj rfl rfl
   .exact g6
   .exact g7
   refine aB (j+1) (aA hlt (aA ?_ g8));repeat' (first|apply aA|exact trivial|exact rfl|exact lz λ_=>rfl|fail)
   .exact g9
   .exact g9
   .exact Si hx rfl rfl
  .refine λ(hlt:decide ((j:Int)<(kids.length:Int))=false)=>?_;replace hlt:j=kids.length:=by grind
   subst hlt;have hal:=mY ⟨ids,bys,kids⟩ kids.length;replace hal:(cA ⟨ids,bys,kids⟩++dO ⟨ids,bys,kids⟩ kids.length).length=2+ids.length+2*kids.length:=hal;have g1:(cA ⟨ids,bys,kids⟩++dO ⟨ids,bys,kids⟩ kids.length).length<=1000000:=by omega
   refine aB (cA ⟨ids,bys,kids⟩++dO ⟨ids,bys,kids⟩ kids.length) (aB [] ?_);repeat' (first|exact g1|exact h3|apply aA|exact trivial|exact rfl|exact cN (aP _)|exact(λ(j:Nat) _=>by rw[aP]; exact Or.inl (fS _ _ _ _))|fail)
   refine λ(y:B) (hy:y=mQ (cA ⟨ids,bys,kids⟩++dO ⟨ids,bys,kids⟩ kids.length))=>?_;have he2:y=kQ ⟨ids,bys,kids⟩:=by rw[hy]; exact(if_pos he).symm
   repeat' (first|exact he2)
end D6
end
section
set_option maxHeartbeats 10000000
namespace Go.Proofs
open Go.RowKit Go.Shelf
set_option maxRecDepth 1000000
def Tryz.Ck:Go.Shelf.Ren:=⟨fun|167=>61|n=>Tryz.lW.f n,Tryz.lW.t,Tryz.lW.g⟩
theorem Tryz.aE5:Go.Proofs.Lays.n167 Tryz.prog Tryz.Ck :=
 { Tryz.Ar with
  f167:=Tryz.func61.trans (congrArg some (by kernel_rfl)) }
theorem Tryz.Zl:Go.Proofs.Lays.n166 Tryz.prog Tryz.lW:={ Tryz.Ar with }
theorem Tryz.aE4:Go.Proofs.Lays.n169 Tryz.prog Tryz.lW:={ Tryz.Ar with }
theorem Tryz.aGi:Builder.Extra Tryz.prog Tryz.Ck:={ Tryz.bx with }
end Go.Proofs
namespace D7
open Go Go.Eng Go.Proofs Go.RowKit Go.Shelf T1 D3 D6
def rK(s:B):B:=Lib.itoa (s.length:Int)++58::s
theorem Jn(n:Nat)(hn:n<=9223372036854775807)(w:World)(hg:GV w):Calls Tryz.prog 52 #[.int .i64 (n:Int)] w λe w'=>e=.returned (.string ⟨(Lib.itoa (n:Int)).toArray⟩)/\RowKit.Below w.heap.size w w':=by
 refine(D5.itoa.does (n:Int) w [.int .i64 (n:Int)] (λ_=>False) (λ_ h=>h.elim) hg ⟨by omega,by omega⟩ ⟨_,_,rfl,rfl,rfl⟩).mono ?_;intro e w' he;cases e with
 |returned v =>
  obtain⟨h1,h2⟩:=he;exact⟨by rw[aC.1 h1],h2.row⟩
 |panicked c=>exact he.elim
 |outgrown=>exact he.elim
theorem P2(hs:Vb.Ok Tryz.prog 62)(t:B)(ht:t.length<4611686018427387904)(w:World)(hg:GV w):Calls Tryz.prog 62 #[.string ⟨t.toArray⟩] w λe w'=>e=.returned (.string ⟨(yW t).toArray⟩)/\RowKit.Below w.heap.size w w':=by
 refine(hs.does t w [.string ⟨t.toArray⟩] (λ_=>False) (λ_ h=>h.elim) hg ht ⟨_,_,rfl,rfl,rfl⟩).mono ?_;intro e w' he;cases e with
 |returned v =>
  obtain⟨h1,h2⟩:=he;exact⟨by rw[aC.1 h1],h2.row⟩
 |panicked c=>exact he.elim
 |outgrown=>exact he.elim
theorem B3{T e:TypeId}{B b:Nat}{p:Value}{bs:List Value}{W W':World}(h:Lib.BuilderAtF T e B b p bs W)(hb:RowKit.Below W.heap.size W W'):Lib.BuilderAtF T e B b p bs W':=by
 have hlt:=h.lt;obtain⟨hB,v,hv,hown,hne⟩:=h;exact⟨hB,v,(hb.block b hlt).trans hv,hown.kept (row:=none) ⟨hb.os,hb.tape,hb.output,hb.size,λk hk _=>hb.block k hk⟩ (Classical.em _),hne⟩
theorem Oq{T e:TypeId}{B b:Nat}{bs:List Value}{W W':World}(h:Lib.IsBuilderF T e B b bs W)(hb:RowKit.Below W.heap.size W W'):Lib.IsBuilderF T e B b bs W' :=
 h.elim (λx=>.inl (B3 x hb)) (λx=>.inr (B3 x hb))
theorem zQ{l:List B}(_hn:l.length<=1000000)(hj:(dG l).length<=140737488355328)(i:Nat)(hi:i<l.length):(dG (l.take i)).length+(rK (l.getD i [])).length<=140737488355328:=by
 have e:dG l=dG (l.take i)++(rK (l.getD i [])++dG (l.drop (i+1))):=by
  have e1:l=l.take i++(l.getD i []::l.drop (i+1)):=by
   simp[*]
  conv=>lhs; rw[e1]
  simp only[dG,eD,bK,List.flatten_append,iJ];rfl
 grind
theorem blw{B:Nat}{w w':World}(h:RowKit.Below B w w'):Eng.Below B w w':=by
 exact .sQ h (DLe.no rfl)
theorem Lx{w w':World}(h:GV w)(b:RowKit.Below w.heap.size w w'):GV w':=h.below (blw b)
theorem Al{l:List B}(i:Nat)(hi:i<l.length):dG (l.take (i+1))=dG (l.take i)++rK (l.getD i []):=by
 rw[List.take_add_one,dG,dG,eD,List.flatten_append,aK,aM hi];simp[rK]
set_option maxHeartbeats 1000000 in
theorem S3(hs:Vb.Ok Tryz.prog 62)(l:List B)(a:Option Addr)(cap:Nat)(w:World)(hgv:GV w)(hn:l.length<=1000000)(hj:(dG l).length<=140737488355328)
  (hel:∀i,i<l.length->∃b off,a=some ⟨b,off,none⟩/\b<w.heap.size/\w.cell? ⟨b,off+i,none⟩=some (.string ⟨(l.getD i []).toArray⟩)) :
  Calls Tryz.prog 35 #[.slice a l.length cap] w λe w'=>e=.returned (.string ⟨(mQ l).toArray⟩)/\RowKit.Below w.heap.size w w':=by
 have b0:RowKit.Below w.heap.size w (w.alloc (.cells #[.pointer none,.slice none 0 0] 89)):=(RowKit.Below.refl _ w).alloc (aN _) _;have h0:Lib.IsBuilderF 89 5 w.heap.size w.heap.size [] (w.alloc (.cells #[.pointer none,.slice none 0 0] 89)):=Lib.IsBuilderF.of (Lib.fresh_isBuilder 89 5 w)
 go_enter Tryz.func35,Tryz.ntmps35
 go_wp2
 go_loopg [8] l.length (λg s8 wx=>∃i:Nat,s8=.int .i64 (i:Int)/\i+g=l.length/\Lib.IsBuilderF 89 5 w.heap.size w.heap.size (Lib.byteCells (dG (l.take i))) wx/\RowKit.Below w.heap.size w wx)
 case atStart=>exact⟨0,rfl,by omega,h0,b0⟩
 case round =>
  obtain⟨i,rfl,hig,hB,hbx⟩:=hrel;cases gk with
  |zero =>
   obtain rfl:i=l.length:=by omega
   have hno:¬((l.length:Int)<(l.length:Int)):=Int.lt_irrefl _;rw[iS]at hB;have cStr:Calls Tryz.prog 63 #[.pointer (some ⟨w.heap.size,0,none⟩)] wr λe w'=>e=.returned (.string ⟨(dG l).toArray⟩)/\(Lib.IsBuilderF 89 5 w.heap.size w.heap.size (Lib.byteCells (dG l)) w'/\RowKit.Below w.heap.size wr w') :=
    Any.Builder_String_any_f Tryz.aE4 Tryz.bx w.heap.size w.heap.size (dG l) wr hB hbx.size
   go_wp2_with (go_at_call 63; go_fit cStr; rintro e W1 ⟨rfl,h1,b1⟩)
   have cSum:=P2 hs (dG l) (by omega) W1 (Lx hgv (hbx.trans b1))
   go_wp2_with (go_at_call 62; go_fit cSum; rintro e W2 ⟨rfl,b2⟩)
   go_ret
   exact⟨rfl,hbx.trans (b1.trans (b2.mono (aV hbx.size b1.size)))⟩
  |succ g =>
   have hil:i<l.length:=by omega
   have hil':(i:Int)<(l.length:Int):=by omega
   obtain⟨b,off,rfl,hb,hc⟩:=hel i hil;have hc2:=(hbx.cell (p:=⟨b,off+i,none⟩) hb).trans hc;obtain⟨s,hs'⟩:∃s,l.getD i []=s:=⟨_,rfl⟩;have hsl:=zQ hn hj i hil;rw[hs']at hc2 hsl;obtain⟨S,hS⟩:∃S:ByteArray,(⟨s.toArray⟩:ByteArray)=S:=⟨_,rfl⟩;rw[hS]at hc2;have hSz:S.size=s.length:=by rw[<- hS]; rfl
   have hlen:(rK s).length=(Lib.itoa (s.length:Int)).length+(s.length+1):=by grind[rK]
   have cI:=Jn s.length (by omega) wr (Lx hgv hbx);obtain⟨I,hI⟩:∃I:ByteArray,(⟨(Lib.itoa (s.length:Int)).toArray⟩:ByteArray)=I:=⟨_,rfl⟩;rw[hI]at cI;have hId:I.data.toList=Lib.itoa (s.length:Int):=by rw[<- hI]
   have hIz:I.size=(Lib.itoa (s.length:Int)).length:=by rw[Lib.size_eq,hId]
   have hSd:S.data.toList=s:=by rw[<- hS]
   go_wp2_with (go_at_call 52; go_fit cI; rintro e W1 ⟨rfl,b1⟩)
   have cW:Calls Tryz.prog 60 #[.pointer (some ⟨w.heap.size,0,none⟩),.string I] W1 λe w'=>e=.returned (.tuple #[.int .i64 I.size,.nilIface])/\(Lib.BuilderAtF 89 5 w.heap.size w.heap.size (.pointer (some ⟨w.heap.size,0,none⟩)) (Lib.byteCells (dG (l.take i))++Lib.strCells I) w'/\RowKit.Below w.heap.size W1 w') :=
    Any.Builder_WriteString_f Tryz.Zl Tryz.bx w.heap.size w.heap.size _ I W1 (Oq hB b1) (by grind[Lib.byteCells_length]) (aV hbx.size b1.size)
   go_wp2_with (go_at_call 60; go_fit cW; rintro e W2 ⟨rfl,h2,b2⟩)
   have cB:Calls Tryz.prog 61 #[.pointer (some ⟨w.heap.size,0,none⟩),.int .u8 58] W2 λe w'=>e=.returned .nilIface/\(Lib.BuilderAtF 89 5 w.heap.size w.heap.size (.pointer (some ⟨w.heap.size,0,none⟩)) (Lib.byteCells (dG (l.take i))++Lib.strCells I++[.int .u8 58]) w'/\RowKit.Below w.heap.size W2 w'/\Lib.OthersKept 5 (some w.heap.size) W2 w') :=
    Any.Builder_WriteByte_k Tryz.aE5 Tryz.aGi w.heap.size w.heap.size _ 58 W2 (Or.inr h2) (by grind[Lib.byteCells_length,Lib.strCells_eq]) (aV hbx.size (aV b1.size b2.size))
   go_wp2_with (go_at_call 61; go_fit cB; rintro e W3 ⟨rfl,h3,b3,-⟩)
   have cV:Calls Tryz.prog 60 #[.pointer (some ⟨w.heap.size,0,none⟩),.string S] W3 λe w'=>e=.returned (.tuple #[.int .i64 S.size,.nilIface])/\(Lib.BuilderAtF 89 5 w.heap.size w.heap.size (.pointer (some ⟨w.heap.size,0,none⟩)) (Lib.byteCells (dG (l.take i))++Lib.strCells I++[.int .u8 58]++Lib.strCells S) w'/\RowKit.Below w.heap.size W3 w') :=
    Any.Builder_WriteString_f Tryz.Zl Tryz.bx w.heap.size w.heap.size _ S W3 (Or.inr h3) (by grind[Lib.byteCells_length,Lib.strCells_eq]) (aV hbx.size (aV b1.size (aV b2.size b3.size)))
   go_wp2_with (go_at_call 60; go_fit cV; rintro e W4 ⟨rfl,h4,b4⟩)
   go_roundg g
   case measure=>omega
   case rel =>
    refine⟨i+1,rfl,by omega,Or.inr ?_,hbx.trans ((b1.mono hbx.size).trans (b2.trans (b3.trans b4)))⟩;rw[Lib.strCells_eq,Lib.strCells_eq,hId,hSd]at h4;have e:Lib.byteCells (dG (l.take (i+1)))=Lib.byteCells (dG (l.take i))++Lib.byteCells (Lib.itoa (s.length:Int))++[.int .u8 58]++Lib.byteCells s:=by
     grind[Al,rK,Lib.byteCells]
    grind
theorem zF(hs:Vb.Ok Tryz.prog 62):As.Ok Tryz.prog 35:=by
 refine pX (enters_of Tryz.func35 (by kernel_rfl) rfl) ?_;rintro l w vs U hg ⟨(h1:l.length<=1000000),(h2:(dG l).length<=140737488355328)⟩ hR;simp only[As,T3.slE,R]at hR;obtain⟨v1,r1,rfl,⟨a,cap,e1,-,hel⟩,rfl⟩:=hR;obtain rfl:=aC.1 e1;refine⟨_,(S3 hs l a cap w hg h1 h2 λi hi=>?_).mono λe w' h=>⟨h.1,blw h.2⟩,λE=>by simp only[As,R]⟩;obtain⟨b,off,cs,ha,h3,h4,h5⟩:=hel i hi;simp only[T1.idE,R]at h4;obtain⟨x,xs,rfl,e2,rfl⟩:=h4;obtain rfl:=aC.1 e2;have hc:=h5.2 0 _ rfl;rw[Nat.mul_one,Nat.add_zero]at hc;refine⟨b,off,ha,?_,hc⟩;exact World.block_lt_of_cell? w _ hc
end D7
end
section
set_option maxHeartbeats 10000000
namespace D8
open Go Go.Eng Go.Proofs Go.RowKit Go.Shelf T1 D3
set_option maxRecDepth 1000000
theorem Kj(w:World):Calls Tryz.prog 148 #[.int .i64 16] w λe w'=>e=.returned (.bool true)/\w'=w:=by
 go_enter Tryz.func148,Tryz.ntmps148
 go_wp2
 go_ret
 exact⟨rfl,rfl⟩
theorem K4(w:World)(hg:GV w):Calls Tryz.prog 172 #[.int .u64 16] w λe w'=>e=.returned (.int .i64 4)/\w'=w:=by
 obtain⟨T,fr,hd⟩:=hg.d;have hc:w.cell? ⟨7,15,none⟩=some (.int .u8 4):=by
  have hd':w.heap[7]?=some (.cells (dbr64.map λz=>Value.int .u8 z).toArray T fr):=hd;simp only[World.cell?,hd'];rfl
 have h16:IntKind.u64.wrap (bits BinOp.and IntKind.u64 16 (IntKind.u64.wrap (-16))*285870213051353865)/288230376151711744=15:=by decide
 clear hd
 go_enter Tryz.func172,Tryz.ntmps172
 go_wp2
 go_ret
 simp
theorem Vf(w:World)(hg:GV w):Calls Tryz.prog 149 #[.int .u64 16] w λe w'=>e=.returned (.int .i64 4)/\w'=w:=by
 have c:=K4 w hg
 go_enter Tryz.func149,Tryz.ntmps149
 go_wp2_with (go_at_call 172; go_fit c; rintro e w' ⟨rfl,hw⟩; rw[hw])
 go_ret
 simp
def Row(b:Nat)(acc:List UInt8)(w:World):Prop :=
 (∀j,j<65->∃v,w.cell? ⟨b,j,none⟩=some v)/\(∀j,w.frozen? ⟨b,j,none⟩=false)/\∀j,j<acc.length->w.cell? ⟨b,65-acc.length+j,none⟩=some (.int .u8 ((acc.getD j 0).toNat:Int))
theorem Ya(w:World):Row w.heap.size [] (w.alloc (.cells Tryz.zeroCells177 177)):=by
 refine⟨λj hj=>?_,(by simp_all),(by grind)⟩;simp[*]
theorem Nb{b:Nat}{acc:List UInt8}{w:World}(h:Row b acc w)(ha:acc.length<65)(d:UInt8):Row b (d::acc) (w.setCell ⟨b,65-acc.length-1,none⟩ (.int .u8 (d.toNat:Int))):=by
 refine⟨λj hj=>?_,λj=>by rw[World.frozen?_setCell]; exact h.2.1 j,λj hj=>?_⟩
 .by_cases e:j=65-acc.length-1
  .subst e;obtain⟨v,hv⟩:=h.1 _ hj
   grind[World.cell?_setCell_same]
  .obtain ⟨v,hv⟩:=h.1 _ hj
   grind[World.cell?_setCell_other]
 .cases j with
  |zero =>
   obtain⟨v,hv⟩:=h.1 (65-acc.length-1) (by omega)
   grind[World.cell?_setCell_same]
  |succ j =>
   rw[bA]at hj;rw[bA,show 65-(acc.length+1)+(j+1)=65-acc.length+j by omega,List.getD_cons_succ,World.cell?_setCell_other _ _ _ _ (λx=>by injection x with _ x _; omega)];exact h.2.2 j (by omega)
abbrev digs:ByteArray:={ data:=#[48,49,50,51,52,53,54,55,56,57,97,98,99,100,101,102,103,104,105,106,107,108,109,110,111,112,113,114,115,116,117,118,119,120,121,122] }
theorem lt36{u:Nat}(h:u<16):u<digs.size:=Nat.lt_trans h (by decide)
theorem Rd(u:Nat)(h:u<16)(h':u<digs.size):digs[u]=dgt u:=by
 match u,h with
 |0,_|1,_|2,_|3,_|4,_|5,_|6,_|7,_|8,_|9,_|10,_|11,_|12,_|13,_|14,_|15,_=>rfl
 |u+16,h=>omega
theorem and15(u:Nat)(hu:u<18446744073709551616):bits .and .u64 (u:Int) 15=((u%16:Nat):Int):=by
 have h:=bits_mask .u64 64 (by decide) (by grind[IntKind.wrap_u64]) 4 (by decide) (u:Int) (by omega) (by omega)
 grind
theorem Wn(n:Nat)(hn:n<18446744073709551616)(w:World)(hgv:GV w) :
  Calls Tryz.prog 129 #[.slice none 0 0,.int .u64 n,.int .i64 16,.bool false,.bool false] w λe w'=>e=.returned (.tuple #[.slice none 0 0,.string ⟨(tR n).toArray⟩])/\RowKit.Below w.heap.size w w':=by
 have b0:RowKit.Below w.heap.size w (w.alloc (.cells Tryz.zeroCells177 177)):=(RowKit.Below.refl _ w).alloc (aN _) _;have cT:=Vf _ (D7.Lx hgv b0)
 go_enter Tryz.func129,Tryz.ntmps129
 go_wp2_with (first
  | (go_at_call 148; refine(Kj _).mono ?_; rintro e w' ⟨rfl,hw⟩; rw[hw])
  | (go_at_call 149; refine cT.mono ?_; rintro e w' ⟨rfl,hw⟩; rw[hw]))
 go_loopg [1,13] 16 (λg s1 s13 wx=>∃(u:Nat) (acc:List UInt8),s1=.int .u64 (u:Int)/\s13=.int .i64 (((65-acc.length:Nat)):Int)/\acc.length+g=16/\vW g u acc=tR n/\u<16^g/\1<=g/\Row w.heap.size acc wx/\RowKit.Below w.heap.size w wx)
 case atStart=>exact⟨n,[],rfl,rfl,rfl,rfl,by omega,by omega,Ya w,b0⟩
 case round =>
  obtain⟨u,acc,rfl,rfl,hag,hV,hu,hg1,hr,hbx⟩:=hrel;obtain⟨g,rfl⟩:∃g,gk=g+1:=⟨gk-1,by omega⟩;simp only[vW]at hV;obtain⟨p,hp⟩:∃p,65-acc.length=p+1:=⟨64-acc.length,by omega⟩;rw[hp];have hp1:((p+1:Nat):Int)-1=(p:Int):=by omega
  have hp65:p<65:=by omega
  have hp65':(p:Int)<65:=by omega
  obtain⟨v,hv⟩:=hr.1 p hp65;have hf:=hr.2.1 p;have hn2:u<18446744073709551616:=bM hu (Nat.pow_le_pow_right (n:=16) (j:=16) (by decide) (by omega));by_cases h16:u<16
  .have h16':¬((u:Int)>=16):=by omega
   have h36':(u:Int)<36:=by omega
   have hal:Tryz.prog.arrayLen 177=65:=by rfl
   have hsl:∀W,(Instr.sliceAt 177 (.pointer (some ⟨w.heap.size,0,none⟩)) (some (.int .i64 (p:Int))) none none).run Tryz.prog W=.ok (.slice (some ⟨w.heap.size,p,none⟩) (65-p) (65-p)) W:=λW=>by
    rw[run_sliceAt_array_l W 177 ⟨w.heap.size,0,none⟩ (by simp[Program.arrayLen,Program.elem,Tryz.underlying177]) .i64 (p:Int) (by omega) (by rw[hal]; omega)]
    go_simp
    omega
   clear hal;have hr2:Row w.heap.size (dgt (u)::acc) (wr.setCell ⟨w.heap.size,p,none⟩ (.int .u8 ((digs[u]'(lt36 h16)).toNat:Int))):=by
    rw[Rd _ h16 (lt36 h16)];have h:=Nb hr (by omega) (dgt (u))
    grind
   rw[if_pos h16]at hV;have hcv:(convert 87 9 (.slice (some ⟨w.heap.size,p,none⟩) (65-p) (65-p))).run Tryz.prog (wr.setCell ⟨w.heap.size,p,none⟩ (.int .u8 ((digs[u]'(lt36 h16)).toNat:Int)))=.ok (.string ⟨(tR n).toArray⟩) (wr.setCell ⟨w.heap.size,p,none⟩ (.int .u8 ((digs[u]'(lt36 h16)).toNat:Int))):=by
    have hl:(dgt u::acc).length=65-p:=by grind
    have h:=run_convert_bytes_back (P:=Tryz.prog) (wr.setCell ⟨w.heap.size,p,none⟩ (.int .u8 ((digs[u]'(lt36 h16)).toNat:Int))) 87 9 5 ⟨w.heap.size,p,none⟩ (65-p) (dgt u::acc) Tryz.underlying87 Tryz.underlying5 Tryz.underlying9 (λj hj=>by
     have h:=hr2.2.2 j hj
     grind[Lib.add_plain])
    grind
   have hb2:RowKit.Below w.heap.size w (wr.setCell ⟨w.heap.size,p,none⟩ (.int .u8 ((digs[u]'(lt36 h16)).toNat:Int))):=hbx.setCell (aN _) _;unfold digs at hcv hb2
   go_wp2
   go_ret2
   exact⟨rfl,hb2⟩
  .have h16':(u:Int)>=16:=by omega
   have hm:u%16<16:=Nat.mod_lt _ (by decide);have hmk:bits .and .u64 (u:Int) 15=((u%16:Nat):Int):=and15 u hn2;have hr2:Row w.heap.size (dgt (u%16)::acc) (wr.setCell ⟨w.heap.size,p,none⟩ (.int .u8 ((digs[u%16]'(lt36 hm)).toNat:Int))):=by
    rw[Rd _ hm (lt36 hm)];have h:=Nb hr (by omega) (dgt (u%16));rw[hp,Nat.add_sub_cancel]at h;exact h
   rw[if_neg h16]at hV;have h4:∀g,u<16^(g+1)->u/16<16^g:=(by grind)
   go_wp2
   go_roundg g
   case measure=>omega
   case rel =>
    refine⟨u/16,dgt (u%16)::acc,?_,?_,?_,hV,h4 _ hu,?_,hr2,hbx.setCell (aN _) _⟩
    .rfl
    .grind
    .grind
    grind
theorem Rv(n:Nat)(hn:n<18446744073709551616)(w:World)(hgv:GV w) :
  Calls Tryz.prog 110 #[.int .u64 n,.int .i64 16] w λe w'=>e=.returned (.string ⟨(tR n).toArray⟩)/\RowKit.Below w.heap.size w w':=by
 have c:=Wn n hn w hgv
 go_enter Tryz.func110,Tryz.ntmps110
 go_wp2_with (go_at_call 129; go_fit c; rintro e w' ⟨rfl,hb⟩)
 go_ret
 simp[*]
theorem Rw(n:Nat)(hn:n<18446744073709551616)(w:World)(hgv:GV w) :
  Calls Tryz.prog 91 #[.int .u64 n,.int .i64 16] w λe w'=>e=.returned (.string ⟨(tR n).toArray⟩)/\RowKit.Below w.heap.size w w':=by
 have c:=Rv n hn w hgv
 go_enter Tryz.func91,Tryz.ntmps91
 go_wp2_with (go_at_call 110; go_fit c; rintro e w' ⟨rfl,hb⟩)
 go_ret
 simp[*]
theorem aBb:fmtS.Ok Tryz.prog 91:=by
 refine pX (enters_of Tryz.func91 (by kernel_rfl) rfl) ?_;rintro(x:Int) w vs U hg ⟨(h1:0<=x),(h2:x<18446744073709551616)⟩ hR;simp only[fmtS,R]at hR;obtain⟨v1,r1,rfl,e1,v2,r2,rfl,e2,rfl⟩:=hR;obtain rfl:=aC.1 e1;obtain rfl:=aC.1 e2;obtain⟨n,rfl⟩:∃n:Nat,x=(n:Int):=⟨x.toNat,by omega⟩;exact⟨_,(Rw n (by omega) w hg).mono λe w' h=>⟨h.1,D7.blw h.2⟩,λE=>by simp only[fmtS,R]⟩
theorem K1:Vb.Ok Tryz.prog 62:=D3.K1 aBb D4.aDa
theorem zF:D6.As.Ok Tryz.prog 35:=D7.zF K1
theorem uO:D6.Dn.Ok Tryz.prog 19:=D6.uO zF
end D8
end
section
set_option maxHeartbeats 10000000
open Go Go.Eng Go.Proofs T1 T2 T3 T4 T5 T6 T7 T8 T9 T10 T11 T12 T13 T14 T15 T16 T17 T18 T19 T24
set_option maxRecDepth 100000
namespace T26
theorem _root_.T18.Tr.mono{D:Dg}{T:TT}{N:Nat->NO}{c r:Nat}{K K':Int}(h:Tr D T N c r K)(hK:K<=K'):Tr D T N c r K':=by
 refine⟨h.rep,⟨h.ok.cl,h.ok.nd,?_⟩,h.wf,h.val,h.sz⟩;intro j a n m sz mk hj;have:=h.ok.bd _ _ _ _ _ _ hj;omega
def lP(T:TT)(k:Ky):TT:=if Br T k.1 k.2=true then rO k.2 k.1 T else T
def lQ(T:TT)(k:Ky):TT:=if pcT T k=0 then mH k.2 k.1 T else T
def opT(T:TT)(a:Ac):TT:=bif a.1 then lP T a.2 else lQ T a.2
theorem _root_.T18.Tr.drop1{D:Dg}{T:TT}{N:Nat->NO}{c r:Nat}{K:Int}(h:Tr D T N c r K)(hK:0<=K)(k:Ky):Tr D (lP T k) (T12.nB ⟨false,N,c,r,k.1,k.2⟩) c r (K+1000):=by
 unfold lP;split
 .rename_i hm;exact h.drop hK (iY.1 hm)
 .rename_i hm;have:HX.has ⟨false,N,c,r,k.1,k.2⟩=false:=by
   rw[Bool.eq_false_iff];intro h';exact hm (iY.2 (h.has.1 h'))
  have e:T12.nB ⟨false,N,c,r,k.1,k.2⟩=N:=by grind[T12.nB]
  rw[e];exact h.mono (by omega)
theorem _root_.T18.Tr.put1{D:Dg}{T:TT}{N:Nat->NO}{c r:Nat}{K:Int}(h:Tr D T N c r K)(hK:0<=K)(k:Ky){y:Nat}(hy:HX.puts ⟨true,N,c,r,k.1,k.2⟩=true->chS.post ⟨true,N,c,r,k.1,k.2⟩ y) :
  Tr D (lQ T k) (sR ⟨true,N,c,r,k.1,k.2⟩ y) (putc ⟨true,N,c,r,k.1,k.2⟩) r (K+1000):=by
 unfold lQ;have hp:=h.puts0 (t:=k.1) (i:=k.2);split
 .rename_i hm;have hp':HX.puts ⟨true,N,c,r,k.1,k.2⟩=true:=by simp[*]
  exact h.put hK hp' (hy hp')
 .rename_i hm;have hp':HX.puts ⟨true,N,c,r,k.1,k.2⟩=false:=by simp[*]
  have e:sR ⟨true,N,c,r,k.1,k.2⟩ y=N:=by grind[sR]
  have e2:putc ⟨true,N,c,r,k.1,k.2⟩=c:=by grind[putc]
  rw[e,e2];exact h.mono (by omega)
end T26
end
section
open Go Go.Eng Go.Proofs T1 T2 T3 T4 T5 T6 T10 T11
set_option maxRecDepth 100000
namespace T27
def yO:List Ky:=[([97,98,99],[115,49]),([97,98],[115,50]),([97,98],[115,49])]
def ksH(i:Nat)(l:List Ky):Nat×aL:=(i,.arr 32 2 l.length λj=>jN (l.getD j k0))
def g34:List Nat:=[0]
def c34:aY :=
 .seq (.region g34 [(zo 0 (.move (.c (.nilsl))))]) (.seq (.region g34 [(zo 1 (.build (.cons (.str []) (.cons (.str []) .nil)) [(0,1,.c (.str [97,98,99])),(1,1,.c (.str [115,49]))])),(zo 2 (.build (.cons (.str []) (.cons (.str []) .nil)) [(0,1,.c (.str [97,98])),(1,1,.c (.str [115,50]))])),(zo 3 (.build (.cons (.str []) (.cons (.str []) .nil)) [(0,1,.c (.str [97,98])),(1,1,.c (.str [115,49]))])),(zo 4 (.buildSl 32 2 3 (.cons (.str []) (.cons (.str []) .nil)) [(0,2,.s 1),(2,2,.s 2),(4,2,.s 3)])),(mv 0 4)]) .ret)
theorem e34:bO Tryz.prog 34 g34 [] [] []=some (c34,[.slot 0],5):=by kernel_rfl
def Z1:bC where
 X:=Unit
 Y:=Unit
 args:=λ_=>.nil
 pre:=λ_=>True
 h0:=λ_=>[]
 nx0:=0
 post:=λ_ _=>True
 res:=λ_ _=>.lsl 0 2 3
 h1:=λ_ _=>[ksH 0 yO]
 nx1:=1
theorem Yf:Z1.Ok Tryz.prog 34:=by
 refine Eng.bC.okR e34 .nil (λ_=>[(2097152,.own)]) (λ_ _=>aO.o aO.nil) ?_;rintro⟨⟩ _;refine⟨trivial,?_⟩;refine aB () ?_;repeat' (first|apply aA|exact trivial|exact rfl|(refine λ(j:Nat) (hj:j<3)=>?_; rcases(by omega:j=0\/j=1\/j=2)with rfl|rfl|rfl; exact Or.inl (kI _ _ _ ([97,98,99],[115,49])); exact Or.inl (kI _ _ _ ([97,98],[115,50])); exact Or.inl (kI _ _ _ ([97,98],[115,49])))|fail)
end T27
end
section
set_option maxHeartbeats 10000000
open Go Go.Eng
set_option maxRecDepth 100000
namespace A0
def lc{α:Type}(enc:α->SV)(d:α)(l:List α)(i:Nat):SV:=enc (l.getD i d)
section
variable {α:Type} {enc:α->SV} {d:α} {k:Keep} {hp:List (Nat×aL)} {m:Nat}
theorem cE(h:∀a,sub k hp m (enc a) (enc a)){l:List α}{n:Nat}:∀j,j<n->lM k (sub k hp m) (lc enc d l j) (lc enc d l j):=λ_ _=>Or.inl (h _)
theorem mK(h:∀a,sub k hp m (enc a) (enc a)){l:List α}{x:α}{e:Nat->SV}(he:e 0=enc x){n:Nat}(hn:n=l.length+1):∀j,j<n->lM k (sub k hp m) (gH l.length (lc enc d l) e j) (lc enc d (l++[x]) j):=by
 intro j hj;subst hn;have e:gH l.length (lc enc d l) e j=lc enc d (l++[x]) j:=by
  unfold gH lc;rw[aK,aK];by_cases e:j<l.length
  .have hb:Nat.blt j l.length=true:=by simp[*]
   simp[*]
  .have hb:Nat.blt j l.length=false:=by
    grind[Nat.blt_eq]
   grind
 rw[e];exact Or.inl (h _)
theorem Eu{l:List α}{x:α}:l.length+1=(l++[x]).length:=by simp
end
theorem Kb{V:Type}{l:List (bQ×V×Nat)}(hn:(l.map (·.2.2)).Nodup){a b:bQ×V×Nat}(ha:a∈l)(hb:b∈l)(e:a.2.2=b.2.2):a=b:=by
 induction l with
 |nil=>cases ha
 |cons z t ih =>
  grind
def left{V:Type}(il:List (bQ×V×Nat))(seen:List Nat):Nat:=(il.filter λy=>!dU seen y.2.2).length
theorem Oy{V:Type}{il:List (bQ×V×Nat)}{seen:List Nat}{y:bQ×V×Nat}(hy:y∈il)(hs:y.2.2∉seen):left il (seen++[y.2.2])<left il seen:=by
 unfold left;have hm:∀z:bQ×V×Nat,dU (seen++[y.2.2]) z.2.2=(dU seen z.2.2 || decide (z.2.2=y.2.2)):=by
  intro z;rw[bH,fN,gA,gA,decide_eq_true_eq,bT,eS]
 have hsub:(il.filter λz=>!dU (seen++[y.2.2]) z.2.2)=(il.filter λz=>!dU seen z.2.2).filter λz=>!decide (z.2.2=y.2.2):=by
  rw[List.filter_filter];congr 1;funext z
  grind
 rw[hsub];have hyl:y∈il.filter λz=>!dU seen z.2.2:=by
  grind[gA]
 grind[List.length_filter_eq_length_iff]
end A0
end
section
set_option maxHeartbeats 10000000
open Go Go.Eng Go.Proofs A0 T1 T2 T3 T4 T5 T6
set_option maxRecDepth 100000
namespace T28
def bE(n:Int):SV:=.cons (.int .u8 n) .nil
theorem dC(k:Keep)(hp:List (Nat×aL))(m:Nat)(n:Int):sub k hp (m+3) (bE n) (bE n):=⟨⟨rfl,rfl⟩,trivial⟩
abbrev IL:=List (bQ×Nat×Nat)
def aB8:bQ->Int
 |.i _ n=>n
 |_=>0
def lJ(l:IL):List Int:=l.map λx=>aB8 x.1
def FSn(l:IL)(seen:List Nat)(L:List Int):Prop:=L.Perm (lJ (l.filter λx=>dU seen x.2.2))/\∀t∈seen,∃x∈l,x.2.2=t
theorem R1(l:IL):FSn l [] []:=by
 refine⟨?_,(by grind)⟩;have:(l.filter λx=>dU [] x.2.2)=[]:=(by grind[List.filter_eq_nil_iff,dU]);rw[this];rfl
theorem aBi{l:IL}{seen:List Nat}{L:List Int}(h:FSn l seen L):L.length<=l.length:=by
 rw[h.1.length_eq]
 grind[lJ]
theorem Wr{l:IL}(hn:(l.map (·.2.2)).Nodup){seen:List Nat}{L:List Int}(h:FSn l seen L){k:IntKind}{s:Int}{b t:Nat}(hy:(bQ.i k s,b,t)∈l)(hs:t∉seen):FSn l (seen++[t]) (L++[s]):=by
 refine⟨?_,λu hu=>?_⟩
 .have key:∀{l:IL},(l.map (·.2.2)).Nodup->(bQ.i k s,b,t)∈l->(lJ (l.filter λx=>dU (seen++[t]) x.2.2)).Perm (s::lJ (l.filter λx=>dU seen x.2.2)):=by
   intro l;induction l with
   |nil=>simp
   |cons x r ih =>
    intro hn hm;simp only[bK,fQ]at hn;have hmem:∀z:Nat,dU (seen++[t]) z=(dU seen z || decide (z=t)):=by
     intro z;rw[bH,fN,gA,gA,decide_eq_true_eq,bT,eS]
    have hst:dU seen t=false:=by
     grind[gA]
    rcases aR.1 hm with e|e
    .subst e;have hr:(r.filter λx=>dU (seen++[t]) x.2.2)=r.filter λx=>dU seen x.2.2:=by
      grind[List.filter_congr]
     rw[fG (by simp[hmem]),List.filter_cons_of_neg (by simp[hst]),hr];rfl
    .have hxt:x.2.2≠t:=(by grind);cases hx:dU seen x.2.2 with
     |true =>
      rw[fG (by simp[hmem,hx]),fG (by simp[hx])];exact((ih hn.2 e).cons (aB8 x.1)).trans (List.Perm.swap _ _ _)
     |false =>
      grind
  refine List.Perm.trans ?_ (key hn hy).symm;exact(List.perm_append_comm (l₁:=L) (l₂:=[s])).trans (h.1.cons s)
 .rcases bT.1 hu with hu|hu
  .exact h.2 u hu
  grind
theorem Wq{l:IL}{seen:List Nat}{L:List Int}(h:FSn l seen L)(hall:∀x∈l,x.2.2∈seen):L.Perm (lJ l):=by
 have:(l.filter λx=>dU seen x.2.2)=l:=(by grind[List.filter_eq_self,gA]);rw[<- this];exact h.1
theorem aDw{l:IL}(hk:∀x∈l,x.1.kind=.i .u8){seen:List Nat}{Q:bQ×Nat×Nat->Prop}(h:∀(s:Int) (b t:Nat),(bQ.i .u8 s,b,t)∈l->t∉seen->Q (bQ.i .u8 s,b,t)):∀y∈l,y.2.2∉seen->Q y:=by
 rintro⟨ky,b,t⟩ hy hs;have hks:ky.kind=.i .u8:=hk _ hy;cases ky with
 |i k n=>cases hks; simp[*]
 |s _=>cases hks
 |a _ _=>cases hks
 |t _=>cases hks
structure KX where
 N:Nat->NO
 m:Nat
 l:IL
 q:Nat
structure KOk(x:KX):Prop where
 at_:x.N x.m=.map x.l x.q
 tk:Tk x.l x.q
 kd:∀y∈x.l,y.1.kind=.i .u8
 ln:x.l.length<=20000
def clo(m:Nat):SV:=.fn 124 (.cons (.cptr (.cons (.fmref 0 m) .nil)) .nil)
def g100:List Nat:=[0,1,2]
def c100:aY :=
 .seq (.region g100 [(zo 1 (.box 68 (.s 0))),(zo 2 (.move (.c (.nilfn))))]) (.seq (.region g100 [(zo 3 (.mkfn 124 [.s 1])),(mv 2 3)]) .ret)
theorem e100:bO Tryz.prog 100 g100 [] [] []=some (c100,[.slot 2],4):=by kernel_rfl
def Ta:bC where
 X:=KX
 Y:=Unit
 args:=λx=>.cons (.fmref 0 x.m) .nil
 pre:=λ_=>True
 h0:=λx=>[(0,.fam λq=>noO 0 (x.N q))]
 nx0:=1
 post:=λ_ _=>True
 res:=λx _=>clo x.m
 h1:=λx _=>[(0,.fam λq=>noO 0 (x.N q))]
 nx1:=1
theorem Tc:Ta.Ok Tryz.prog 100:=by
 refine Eng.bC.okR e100 .nil (λ_=>[]) (λ_ _=>aO.nil) ?_;rintro⟨N,m,l,q⟩ _;refine⟨trivial,?_⟩;refine aB () ?_;repeat' (first|apply aA|exact trivial|exact rfl|exact zm N rfl|fail)
def g124:List Nat:=[1,7,5,0,3,13]
def c124:aY :=
 .seq (.region g124 [(ld 4 1),(zo 5 (.mrange (.s 4)))]) (.block 0 (.loop 0 [6,7,8,9,3,10,11,12,13] (.seq (.region g124 [(zo 6 (.mnext (.s 5))),(zo 7 (.extract 0 (.s 6)))]) (.seq (.cond (.s 7) .skip (.exit 0)) (.block 1 (.seq (.region g124 [(zo 8 (.mentry (.s 5))),(zo 9 (.extract 0 (.s 8))),(mv 3 9)]) (.seq (.region g124 [(mv 10 0),(mv 11 3),(zo 12 (.call (.s 10) [.s 11])),(zo 13 (.not (.s 12)))]) (.cond (.s 13) .ret .skip))))))))
theorem e124:bO Tryz.prog 124 g124 [] [] []=some (c124,[],14):=by kernel_rfl
def g142:List Nat:=[0,1,6,7,5,2,4]
def c142:aY :=
 .seq (.region g142 [(zo 2 (.box 87 (.s 0))),(zo 4 (.move (.c (.nilsl))))]) (.seq (.seq (.region g142 [(mv 6 1)]) (.block 0 (.range 0 (.s 6) 124 (c124) 14 [7] (.region g142 [(mv 5 7)]) (.block 1 (.region g142 [(ld 8 2),(mv 9 5),(zo 10 (.buildSl 5 1 1 (.cons (.int (.u8) 0) .nil) [(0,1,.s 9)])),(zo 11 (.app 5 1 1 (.s 8) (.s 10))),⟨none,none,.store 1 (.s 2) (.s 11),[]⟩]))))) (.seq (.region g142 [(ld 12 2),(mv 4 12)]) .ret))
def r142:List lL:=[.slot 4]
def k142:List (Nat×Nat×aY×Nat):=[(0,124,c124,14)]
theorem e142:bO Tryz.prog 142 g142 [] [] k142=some (c142,r142,13):=by kernel_rfl
theorem q142:lT Tryz.prog k142:=lT.cons (lT.nil) .nil e124
def aDy:bC where
 X:=KX
 Y:=List Int
 args:=λx=>.cons .nilsl (.cons (clo x.m) .nil)
 pre:=KOk
 h0:=λx=>[(0,.fam λq=>noO 0 (x.N q))]
 nx0:=1
 post:=λx y=>y.Perm (lJ x.l)
 res:=λ_ y=>.lsl 1 1 y.length
 h1:=λx y=>[(0,.fam λq=>noO 0 (x.N q)),(1,.arr 5 1 y.length (lc bE 0 y))]
 nx1:=2
structure XS where
 seen:List Nat
 L:List Int
theorem aAh:aDy.Ok Tryz.prog 142:=by
 refine Eng.bC.okR e142 q142 (λ_=>[]) (λ_ _=>aO.nil) ?_;rintro⟨N,m,l,q⟩ ⟨(hat:N m=.map l q),(htk:Tk l q),(hkd:∀y∈l,y.1.kind=.i .u8),(hln:l.length<=20000)⟩;refine⟨trivial,?_⟩;repeat' (first|apply aA|exact trivial)
 refine aB (noO 0 (.map l q)) (aA (congrArg (noO 0) hat) ?_);refine⟨⟨XS,λx=>FSn l x.seen x.L,λ_=>[(5,.own 60 0)],λx=>[(60,.iter (.fmref 0 m) q x.seen q),(1,.cells 87 (.cons (.lsl 40 1 x.L.length) .nil)),(40,.arr 5 1 x.L.length (lc bE 0 x.L))],λx=>left l x.seen⟩,⟨[],[]⟩,R1 l,?_,?_⟩
 .repeat' (first|apply aA|exact trivial|exact rfl|exact zm N rfl|fail)
 rintro⟨seen,L⟩ hF;replace hF:FSn l seen L:=hF;have hlen:=aBi hF;refine aB (noO 0 (.map l q)) (aA (congrArg (noO 0) hat) ?_);repeat' (first|refine aA ?_ ?_)
 .exact htk.1
 .omega
 .refine aDw hkd (λ(s:Int) (b t:Nat) hy hns=>?_);have hF2:=Wr htk.2 hF hy hns;repeat' (first|apply aA|exact zh|refine zt ?_|fail)
  refine aB (noO 0 (.map l q)) (aA (congrArg (noO 0) hat) ?_);refine aA rfl (aB _ (aA hy (aA (λz hz hzt=>Kb htk.2 hz hy hzt) (aA ⟨_,rfl⟩ ?_))));repeat' (first|apply aA|exact rfl|exact zf|refine zt ?_|fail)
  .grind
  .grind
  refine aB (XS.mk (seen++[t]) (L++[s])) (aA hF2 (aA ?_ ?_))
  .repeat' (first|apply aA|exact trivial|exact rfl|exact zm N rfl|exact Eu|exact mK (λa=>dC _ _ _ a) rfl rfl|fail)
  .exact Oy hy hns
 .intro hall;repeat' (first|apply aA|exact zf|refine zt ?_|fail)
  refine aB L (aA (Wq hF hall) ?_);repeat' (first|apply aA|exact trivial|exact rfl|exact zm N rfl|grind[cE,dC]|fail)
def g122:List Nat:=[0,2]
def c122:aY :=
 .seq (.region g122 [(zo 2 (.move (.c (.nilsl))))]) (.seq (.region g122 [(mv 3 0),(zo 4 (.call (.c (.fn 142)) [.c (.nilsl),.s 3])),(mv 2 4)]) .ret)
theorem e122:bO Tryz.prog 122 g122 [] [] []=some (c122,[.slot 2],5):=by kernel_rfl
def Y5:bC where
 X:=KX
 Y:=List Int
 args:=λx=>.cons (clo x.m) .nil
 pre:=KOk
 h0:=λx=>[(0,.fam λq=>noO 0 (x.N q))]
 nx0:=1
 post:=λx y=>y.Perm (lJ x.l)
 res:=λ_ y=>.lsl 1 1 y.length
 h1:=λx y=>[(0,.fam λq=>noO 0 (x.N q)),(1,.arr 5 1 y.length (lc bE 0 y))]
 nx1:=2
theorem V9:Y5.Ok Tryz.prog 122:=by
 refine Eng.bC.okR e122 .nil (λ_=>[(142,.m aDy)]) (λ_ _=>aO.m aAh aO.nil) ?_;rintro⟨N,m,l,q⟩ (h:KOk ⟨N,m,l,q⟩);refine⟨trivial,?_⟩;refine aB ⟨N,m,l,q⟩ (aB [0] ?_);repeat' (first|exact h|apply aA|exact trivial|exact rfl|exact zm N rfl|fail)
 refine λ(y:List Int) (hy:y.Perm (lJ l))=>?_;refine aB y (aA hy ?_);repeat' (first|apply aA|exact trivial|exact rfl|exact zr N rfl rfl|exact cE (λa=>dC _ _ _ a)|fail)
end T28
end
