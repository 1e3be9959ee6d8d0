/- A part of the proof. -/
import Derived.Test.YtpiolkcdfgiefaaGreatDoorT52
section
set_option maxHeartbeats 10000000
open Go Go.Eng Go.Proofs A0 T1 T28 T29 T50 T51 T52
set_option maxRecDepth 100000
namespace T53
def SdR(a i:Nat)(L:List Int):Prop:=∀p q,a<=p->p<q->q<i->L.getD p 0<=L.getD q 0
def InR(a i j:Nat)(L:List Int):Prop:=∀p q,a<=p->p<q->q<=i->q≠j->L.getD p 0<=L.getD q 0
theorem Gh{a i:Nat}{L:List Int}(h:SdR a i L):InR a i i L:=λp q h1 h2 h3 h4=>h p q h1 h2 (by omega)
theorem Sa{a i j:Nat}{L:List Int}(h:InR a i j L)(hi:j<=i)(hc:a<j->¬L.getD j 0<L.getD (j-1) 0):SdR a (i+1) L:=by
 intro p q h1 h2 h3;by_cases e:q=j
 .subst e;have hj:=hc (by omega);by_cases e2:p=q-1
  .grind
  .have:=h p (q-1) h1 (by omega) (by omega) (by omega);omega
 .exact h p q h1 h2 (by omega) e
theorem W6{a i j:Nat}{L:List Int}(h:InR a i j L)(hj:a<j)(hi:j<=i)(hl:i<L.length)(hc:L.getD j 0<L.getD (j-1) 0):InR a i (j-1) (xch L j (j-1)):=by
 intro p q h1 h2 h3 h4;have hg:∀p,(xch L j (j-1)).getD p 0=if p=j-1 then L.getD j 0 else if p=j then L.getD (j-1) 0 else L.getD p 0:=(by grind[tO])
 rw[hg,hg,if_neg h4];by_cases e:q=j
 .subst e;rw[if_pos rfl];by_cases e2:p=q-1
  .omega
  .rw [if_neg e2,if_neg (by omega)];exact h p (q-1) h1 (by omega) (by omega) (by omega)
 .rw [if_neg e];by_cases e2:p=j-1
  .rw [if_pos e2];exact h j q (by omega) (by omega) h3 e
  .rw [if_neg e2];by_cases e3:p=j
   .rw [if_pos e3];exact h (j-1) q (by omega) (by omega) h3 e
   .rw [if_neg e3];exact h p q h1 h2 h3 e
theorem gdL{x y:Int}{P:Prop}(h:x<y->P):decide (x<y)=true->P:=λk=>h (of_decide_eq_true k)
def g161:List Nat:=[2,12,1,30,0,7,6]
def c161:aY :=
 .seq (.region g161 [(mv 8 1),(zo 9 (.bin (.add) (.s 8) (cj 1))),(mv 6 9)]) (.block 0 (.loop 0 [10,11,12,15,16,17,18,19,20,21,22,23,24,25,26,27,28,29,30,33,34,35,36,37,38,39,40,41,42,43,44,45,46,47,48,31,32,7,13,14,6] (.seq (.seq (.region g161 [(mv 10 6),(mv 11 2),(zo 12 (.bin (.lss) (.s 10) (.s 11)))]) (.cond (.s 12) .skip (.exit 0))) (.seq (.block 1 (.seq (.region g161 [(mv 15 6),(mv 7 15)]) (.block 2 (.loop 1 [16,17,18,19,20,21,22,23,24,25,26,27,28,29,30,33,34,35,36,37,38,39,40,41,42,43,44,45,46,47,48,31,32,7] (.seq (.seq (.drawn g161 (.pure 0 (mv 16 7) (.pure 1 (mv 17 1) (.pure 2 (zo 18 (.bin (.gtr) (.s 16) (.s 17))) (.pure 3 (mv 19 18) (.pure 4 (mg 20 19 true 0) (.pure 5 (mg 21 19 true 7) (.pure 6 (zg 22 19 true (.idxSl 1 (.s 20) (.s 21))) (.pure 7 (lg 23 19 true 22) (.pure 8 (mg 24 19 true 0) (.pure 9 (mg 25 19 true 7) (.pure 10 (zg 26 19 true (.bin (.sub) (.s 25) (cj 1))) (.pure 11 (zg 27 19 true (.idxSl 1 (.s 24) (.s 26))) (.pure 12 (lg 28 19 true 27) (.pure 13 (zg 29 19 true (.call (.c (.fn 167)) [.s 23,.s 28])) (.pure 14 (zo 30 (.pick (.s 19) (.s 29) cF)) .done)))))))))))))))) (.cond (.s 30) .skip (.exit 2))) (.seq (.block 3 (.drawn g161 (.pure 0 (mv 33 0) (.pure 1 (mv 34 7) (.pure 2 (mv 35 0) (.pure 3 (mv 36 7) (.pure 4 (zo 37 (.bin (.sub) (.s 36) (cj 1))) (.pure 5 (mv 38 0) (.pure 6 (mv 39 7) (.pure 7 (zo 40 (.bin (.sub) (.s 39) (cj 1))) (.pure 8 (zo 41 (.idxSl 1 (.s 38) (.s 40))) (.pure 9 (ld 42 41) (.pure 10 (mv 43 0) (.pure 11 (mv 44 7) (.pure 12 (zo 45 (.idxSl 1 (.s 43) (.s 44))) (.pure 13 (ld 46 45) (.pure 14 (zo 47 (.idxSl 1 (.s 33) (.s 34))) (.eff 15 ⟨none,none,.store 1 (.s 47) (.s 42),[]⟩ [] (.pure 16 (zo 48 (.idxSl 1 (.s 35) (.s 37))) (.eff 17 ⟨none,none,.store 1 (.s 48) (.s 46),[]⟩ [] .done .none)) .none)))))))))))))))))) (.region g161 [(mv 31 7),(zo 32 (.bin (.sub) (.s 31) (cj 1))),(mv 7 32)]))))))) (.region g161 [(mv 13 6),(zo 14 (.bin (.add) (.s 13) (cj 1))),(mv 6 14)])))))
theorem e161:bO Tryz.prog 161 g161 [] [] []=some (c161,[],49):=by kernel_rfl
def aBw:bC where
 X:=List Int×Nat×Nat
 Y:=List Int
 args:=λx=>.cons (.lsl 0 1 x.1.length) (.cons (.int .i64 (x.2.1:Int)) (.cons (.int .i64 (x.2.2:Int)) .nil))
 pre:=λx=>x.2.2<=x.1.length/\x.1.length<=24/\x.2.1<=24
 h0:=λx=>[arH x.1]
 nx0:=1
 post:=λx y=>PR x.2.1 x.2.2 x.1 y/\SdR x.2.1 x.2.2 y
 res:=λ_ _=>.tup .nil
 h1:=λx y=>[(0,.arr 5 1 x.1.length (lc bE 0 y))]
 nx1:=1
theorem Sc:aBw.Ok Tryz.prog 161:=by
 refine Eng.bC.okR e161 .nil (λ_=>[(167,.p wC)]) (λ_ _=>aO.p qY aO.nil) ?_;rintro⟨L,a,b⟩ ⟨(hb:b<=L.length),(hn:L.length<=24),(hab:a<=24)⟩;refine⟨trivial,?_⟩;have b1:-9223372036854775808<=(a:Int)+1:=by omega
 have b2:(a:Int)+1<=9223372036854775807:=by omega
 repeat' (first|apply aA|(with_reducible first|exact b1|exact b2))
 refine⟨⟨Nat×List Int,λx=>(a+1<=x.1/\x.1<=26)/\PR a b L x.2/\SdR a x.1 x.2,λx=>[(6,.int .i64 (x.1:Int))],λx=>[(0,.arr 5 1 L.length (lc bE 0 x.2))],λx=>26-x.1⟩,(a+1,L),⟨⟨aN _,by omega⟩,PR.refl _ _ _,λp q h1 h2 h3=>by omega⟩,?_,?_⟩
 .repeat' (first|apply aA|exact trivial|exact rfl|grind[cE,dC]|fail)
 rintro⟨i,M⟩ ⟨⟨(h1:a+1<=i),(h2:i<=26)⟩,(hp:PR a b L M),(hs:SdR a i M)⟩;have hml:M.length=L.length:=hp.len;repeat' (first|refine aA ?_ ?_)
 .refine λ(hg:decide ((i:Int)<(b:Int))=true)=>?_;have hib:i<b:=by grind
  refine⟨⟨Nat×List Int,λx=>(a<=x.1/\x.1<=i)/\PR a b L x.2/\InR a i x.1 x.2,λx=>[(7,.int .i64 (x.1:Int))],λx=>[(0,.arr 5 1 L.length (lc bE 0 x.2))],λx=>x.1⟩,(i,M),⟨⟨by omega,aN _⟩,hp,Gh hs⟩,?_,?_⟩
  .repeat' (first|apply aA|exact trivial|exact rfl|grind[cE,dC]|fail)
  clear hs hp hml;rintro⟨j,M⟩ ⟨⟨(g1:a<=j),(g2:j<=i)⟩,(hp:PR a b L M),(hs:InR a i j M)⟩;have hml:M.length=L.length:=hp.len;have k1:(0:Int)<=(j:Int):=by omega
  have k2:(j:Int)<(L.length:Int):=by omega
  have k3:0+(j:Int).toNat<L.length:=by omega
  have k4:(a:Int)<(j:Int)->0<=(j:Int)-1:=by omega
  have k5:(j:Int)-1<(L.length:Int):=by omega
  have k6:0+((j:Int)-1).toNat<L.length:=by omega
  have k7:-9223372036854775808<=(j:Int)-1:=by omega
  have k8:(j:Int)-1<=9223372036854775807:=by omega
  have ej:0+(j:Int).toNat=j:=by omega
  have ej1:0+((j:Int)-1).toNat=j-1:=by omega
  repeat' (first|apply aA|exact trivial|exact rfl|refine gdL λhp=>?_|(with_reducible first|exact k1|exact k2)|exact k3|with_reducible exact k4 hp|with_reducible exact k5|exact k6|(with_reducible first|exact k7|exact k8))
  .refine λ(hz:bN _ _ _ _ _=true)=>?_;rw[bW,aI,decide_eq_true_iff,decide_eq_true_iff,ej,ej1]at hz;have hj:a<j:=by grind
   have hil:i<M.length:=by omega
   have hjl:j<M.length:=by omega
   have hjl1:j-1<M.length:=by omega
   have hs2:=W6 hs hj g2 hil hz.2;have hp2:=hp.xch (i:=j) (j:=j-1) ⟨g1,by omega⟩ ⟨by omega,by omega⟩ (by omega);have k4':(0:Int)<=(j:Int)-1:=by omega
   have m1:a<=j-1/\j-1<=i:=by omega
   have m2:j-1<j:=by omega
   have m3:(j:Int)-1=((j-1:Nat):Int):=by omega
   repeat' (first|apply aA|exact trivial|(with_reducible first|exact k1|exact k2)|exact k3|(with_reducible first|exact k4'|exact k5)|exact k6|(with_reducible first|exact k7|exact k8))
   refine ext0 (enc':=λp=>lc bE 0 (M.set j (M.getD (j-1) 0)) p) (xs1 ej ej1 hjl) ?_;repeat' (first|apply aA|exact trivial|exact k6|(with_reducible first|exact k7|exact k8))
   refine aB (j-1,xch M j (j-1)) (aA ⟨m1,hp2,hs2⟩ (aA ?_ m2));repeat' (first|apply aA|exact trivial|exact rfl|exact m3|exact xs3 ej ej1 hjl hjl1|fail)
  refine λ(hz:bN _ _ _ _ _=false)=>?_;have hs2:SdR a (i+1) M:=(by grind[Sa,bW]);clear hz;have m1:a+1<=i+1/\i+1<=26:=by omega
  have m2:26-(i+1)<26-i:=by omega
  have m3:-9223372036854775808<=(i:Int)+1:=by omega
  have m4:(i:Int)+1<=9223372036854775807:=by omega
  repeat' (first|apply aA|(with_reducible first|exact m3|exact m4))
  refine aB (i+1,M) (aA ⟨m1,hp,hs2⟩ (aA ?_ m2));repeat' (first|apply aA|exact trivial|exact rfl|grind[cE,dC]|fail)
 refine λ(hg:decide ((i:Int)<(b:Int))=false)=>?_;have hib:b<=i:=by grind
 have hsb:SdR a b M:=λp q h1 h2 h3=>hs p q h1 h2 (by omega);refine aB M (aA ⟨hp,hsb⟩ ?_);repeat' (first|apply aA|exact trivial|exact rfl|grind[cE,dC]|fail)
def g166:List Nat:=[14,32,37,41,1,61,65,78,9,98,7,2,103,116,0,10,8,6]
def c166:aY :=
 .seq (.region g166 [(zo 6 (.move cF))]) (.seq (.region g166 [(mv 11 1),(zo 12 (.bin (.add) (.s 11) (cj 1))),(mv 7 12)]) (.seq (.seq (.region g166 [(zo 8 (.move (cj 0)))]) (.block 0 (.loop 0 [13,14,17,18,19,20,21,22,23,24,25,26,27,28,29,30,31,32,33,34,7,35,36,37,38,39,40,41,6,42,43,44,45,46,47,48,49,50,51,52,53,54,55,56,57,58,59,60,61,62,63,64,65,68,69,70,71,72,73,74,75,76,77,78,79,80,81,82,83,84,85,86,87,88,89,90,91,92,93,94,66,67,9,95,96,97,98,99,100,101,102,103,106,107,108,109,110,111,112,113,114,115,116,117,118,119,120,121,122,123,124,125,126,127,128,129,130,131,132,104,105,10,15,16,8] (.seq (.seq (.region g166 [(mv 13 8),(zo 14 (.bin (.lss) (.s 13) (cj 5)))]) (.cond (.s 14) .skip (.exit 0))) (.seq (.block 1 (.seq (.block 2 (.loop 1 [17,18,19,20,21,22,23,24,25,26,27,28,29,30,31,32,33,34,7] (.seq (.seq (.drawn g166 (.pure 0 (mv 17 7) (.pure 1 (mv 18 2) (.pure 2 (zo 19 (.bin (.lss) (.s 17) (.s 18))) (.pure 3 (mv 20 19) (.pure 4 (mg 21 20 true 0) (.pure 5 (mg 22 20 true 7) (.pure 6 (zg 23 20 true (.idxSl 1 (.s 21) (.s 22))) (.pure 7 (lg 24 20 true 23) (.pure 8 (mg 25 20 true 0) (.pure 9 (mg 26 20 true 7) (.pure 10 (zg 27 20 true (.bin (.sub) (.s 26) (cj 1))) (.pure 11 (zg 28 20 true (.idxSl 1 (.s 25) (.s 27))) (.pure 12 (lg 29 20 true 28) (.pure 13 (zg 30 20 true (.call (.c (.fn 167)) [.s 24,.s 29])) (.pure 14 (zg 31 20 true (.not (.s 30))) (.pure 15 (zo 32 (.pick (.s 20) (.s 31) cF)) .done))))))))))))))))) (.cond (.s 32) .skip (.exit 2))) (.block 3 (.region g166 [(mv 33 7),(zo 34 (.bin (.add) (.s 33) (cj 1))),(mv 7 34)]))))) (.seq (.seq (.region g166 [(mv 35 7),(mv 36 2),(zo 37 (.bin (.eql) (.s 35) (.s 36)))]) (.cond (.s 37) (.seq (.region g166 [(zo 6 (.move cT))]) .ret) .skip)) (.seq (.seq (.region g166 [(mv 38 2),(mv 39 1),(zo 40 (.bin (.sub) (.s 38) (.s 39))),(zo 41 (.bin (.lss) (.s 40) (cj 50)))]) (.cond (.s 41) (.seq (.region g166 [(zo 6 (.move cF))]) .ret) .skip)) (.seq (.drawn g166 (.pure 0 (mv 42 0) (.pure 1 (mv 43 7) (.pure 2 (mv 44 0) (.pure 3 (mv 45 7) (.pure 4 (zo 46 (.bin (.sub) (.s 45) (cj 1))) (.pure 5 (mv 47 0) (.pure 6 (mv 48 7) (.pure 7 (zo 49 (.bin (.sub) (.s 48) (cj 1))) (.pure 8 (zo 50 (.idxSl 1 (.s 47) (.s 49))) (.pure 9 (ld 51 50) (.pure 10 (mv 52 0) (.pure 11 (mv 53 7) (.pure 12 (zo 54 (.idxSl 1 (.s 52) (.s 53))) (.pure 13 (ld 55 54) (.pure 14 (zo 56 (.idxSl 1 (.s 42) (.s 43))) (.eff 15 ⟨none,none,.store 1 (.s 56) (.s 51),[]⟩ [] (.pure 16 (zo 57 (.idxSl 1 (.s 44) (.s 46))) (.eff 17 ⟨none,none,.store 1 (.s 57) (.s 55),[]⟩ [] .done .none)) .none))))))))))))))))) (.seq (.seq (.region g166 [(mv 58 7),(mv 59 1),(zo 60 (.bin (.sub) (.s 58) (.s 59))),(zo 61 (.bin (.geq) (.s 60) (cj 2)))]) (.cond (.s 61) (.seq (.region g166 [(mv 62 7),(zo 63 (.bin (.sub) (.s 62) (cj 1))),(mv 9 63)]) (.block 4 (.loop 2 [64,65,68,69,70,71,72,73,74,75,76,77,78,79,80,81,82,83,84,85,86,87,88,89,90,91,92,93,94,66,67,9] (.seq (.seq (.region g166 [(mv 64 9),(zo 65 (.bin (.geq) (.s 64) (cj 1)))]) (.cond (.s 65) .skip (.exit 4))) (.seq (.block 5 (.seq (.seq (.drawn g166 (.pure 0 (mv 68 0) (.pure 1 (mv 69 9) (.pure 2 (zo 70 (.idxSl 1 (.s 68) (.s 69))) (.pure 3 (ld 71 70) (.pure 4 (mv 72 0) (.pure 5 (mv 73 9) (.pure 6 (zo 74 (.bin (.sub) (.s 73) (cj 1))) (.pure 7 (zo 75 (.idxSl 1 (.s 72) (.s 74))) (.pure 8 (ld 76 75) (.pure 9 (zo 77 (.call (.c (.fn 167)) [.s 71,.s 76])) (.pure 10 (zo 78 (.not (.s 77))) .done)))))))))))) (.cond (.s 78) (.exit 4) .skip)) (.drawn g166 (.pure 0 (mv 79 0) (.pure 1 (mv 80 9) (.pure 2 (mv 81 0) (.pure 3 (mv 82 9) (.pure 4 (zo 83 (.bin (.sub) (.s 82) (cj 1))) (.pure 5 (mv 84 0) (.pure 6 (mv 85 9) (.pure 7 (zo 86 (.bin (.sub) (.s 85) (cj 1))) (.pure 8 (zo 87 (.idxSl 1 (.s 84) (.s 86))) (.pure 9 (ld 88 87) (.pure 10 (mv 89 0) (.pure 11 (mv 90 9) (.pure 12 (zo 91 (.idxSl 1 (.s 89) (.s 90))) (.pure 13 (ld 92 91) (.pure 14 (zo 93 (.idxSl 1 (.s 79) (.s 80))) (.eff 15 ⟨none,none,.store 1 (.s 93) (.s 88),[]⟩ [] (.pure 16 (zo 94 (.idxSl 1 (.s 81) (.s 83))) (.eff 17 ⟨none,none,.store 1 (.s 94) (.s 92),[]⟩ [] .done .none)) .none))))))))))))))))))) (.region g166 [(mv 66 9),(zo 67 (.bin (.sub) (.s 66) (cj 1))),(mv 9 67)])))))) .skip)) (.seq (.region g166 [(mv 95 2),(mv 96 7),(zo 97 (.bin (.sub) (.s 95) (.s 96))),(zo 98 (.bin (.geq) (.s 97) (cj 2)))]) (.cond (.s 98) (.seq (.region g166 [(mv 99 7),(zo 100 (.bin (.add) (.s 99) (cj 1))),(mv 10 100)]) (.block 6 (.loop 3 [101,102,103,106,107,108,109,110,111,112,113,114,115,116,117,118,119,120,121,122,123,124,125,126,127,128,129,130,131,132,104,105,10] (.seq (.seq (.region g166 [(mv 101 10),(mv 102 2),(zo 103 (.bin (.lss) (.s 101) (.s 102)))]) (.cond (.s 103) .skip (.exit 6))) (.seq (.block 7 (.seq (.seq (.drawn g166 (.pure 0 (mv 106 0) (.pure 1 (mv 107 10) (.pure 2 (zo 108 (.idxSl 1 (.s 106) (.s 107))) (.pure 3 (ld 109 108) (.pure 4 (mv 110 0) (.pure 5 (mv 111 10) (.pure 6 (zo 112 (.bin (.sub) (.s 111) (cj 1))) (.pure 7 (zo 113 (.idxSl 1 (.s 110) (.s 112))) (.pure 8 (ld 114 113) (.pure 9 (zo 115 (.call (.c (.fn 167)) [.s 109,.s 114])) (.pure 10 (zo 116 (.not (.s 115))) .done)))))))))))) (.cond (.s 116) (.exit 6) .skip)) (.drawn g166 (.pure 0 (mv 117 0) (.pure 1 (mv 118 10) (.pure 2 (mv 119 0) (.pure 3 (mv 120 10) (.pure 4 (zo 121 (.bin (.sub) (.s 120) (cj 1))) (.pure 5 (mv 122 0) (.pure 6 (mv 123 10) (.pure 7 (zo 124 (.bin (.sub) (.s 123) (cj 1))) (.pure 8 (zo 125 (.idxSl 1 (.s 122) (.s 124))) (.pure 9 (ld 126 125) (.pure 10 (mv 127 0) (.pure 11 (mv 128 10) (.pure 12 (zo 129 (.idxSl 1 (.s 127) (.s 128))) (.pure 13 (ld 130 129) (.pure 14 (zo 131 (.idxSl 1 (.s 117) (.s 118))) (.eff 15 ⟨none,none,.store 1 (.s 131) (.s 126),[]⟩ [] (.pure 16 (zo 132 (.idxSl 1 (.s 119) (.s 121))) (.eff 17 ⟨none,none,.store 1 (.s 132) (.s 130),[]⟩ [] .done .none)) .none))))))))))))))))))) (.region g166 [(mv 104 10),(zo 105 (.bin (.add) (.s 104) (cj 1))),(mv 10 105)])))))) .skip)))))))) (.region g166 [(mv 15 8),(zo 16 (.bin (.add) (.s 15) (cj 1))),(mv 8 16)])))))) (.seq (.region g166 [(zo 6 (.move cF))]) .ret)))
theorem e166:bO Tryz.prog 166 g166 [] [] []=some (c166,[.slot 6],133):=by kernel_rfl
def aFn:bC where
 X:=List Int×Nat×Nat
 Y:=Bool
 args:=λx=>.cons (.lsl 0 1 x.1.length) (.cons (.int .i64 (x.2.1:Int)) (.cons (.int .i64 (x.2.2:Int)) .nil))
 pre:=λx=>x.2.2<=x.1.length/\x.1.length<=24/\x.2.1+13<=x.2.2
 h0:=λx=>[arH x.1]
 nx0:=1
 post:=λx y=>y=true->SdR x.2.1 x.2.2 x.1
 res:=λ_ y=>.bool y
 h1:=λx _=>[arH x.1]
 nx1:=1
theorem aC4:aFn.Ok Tryz.prog 166:=by
 refine Eng.bC.okR e166 .nil (λ_=>[(167,.p wC)]) (λ_ _=>aO.p qY aO.nil) ?_;rintro⟨L,a,b⟩ ⟨(hb:b<=L.length),(hn:L.length<=24),(hab:a+13<=b)⟩;refine⟨trivial,?_⟩;have b1:-9223372036854775808<=(a:Int)+1:=by omega
 have b2:(a:Int)+1<=9223372036854775807:=by omega
 have b3:-9223372036854775808<=(b:Int)-(a:Int):=by omega
 have b4:(b:Int)-(a:Int)<=9223372036854775807:=by omega
 have hbp:0<b:=by omega
 repeat' (first|apply aA|(with_reducible first|exact b1|exact b2))
 refine⟨⟨Unit,λ_=>True,λ_=>[(8,.int .i64 0),(7,.int .i64 ((a+1:Nat):Int))],λ_=>[(0,.arr 5 1 L.length (lc bE 0 L))],λ_=>0⟩,(),trivial,?_,?_⟩
 .repeat' (first|apply aA|exact trivial|exact rfl|grind[cE,dC]|fail)
 refine λ(_:Unit) (_:True)=>?_;repeat' (first|apply aA|exact zh|refine zt ?_|fail)
 refine⟨⟨Nat,λi=>(a+1<=i/\i<=b)/\SdR a i L,λi=>[(7,.int .i64 (i:Int))],λ_=>[(0,.arr 5 1 L.length (lc bE 0 L))],λi=>b-i⟩,a+1,⟨by omega,λp q h1 h2 h3=>by omega⟩,?_,?_⟩
 .repeat' (first|apply aA|exact trivial|exact rfl|grind[cE,dC]|fail)
 rintro(i:Nat) ⟨⟨(h1:a+1<=i),(h2:i<=b)⟩,(hs:SdR a i L)⟩;have k1:(0:Int)<=(i:Int):=by omega
 have k2:(i:Int)<(b:Int)->(i:Int)<(L.length:Int):=by omega
 have k3:(i:Int)<(b:Int)->0+(i:Int).toNat<L.length:=by omega
 have k4:0<=(i:Int)-1:=by omega
 have k5:(i:Int)-1<(L.length:Int):=by omega
 have k6:0+((i:Int)-1).toNat<L.length:=by omega
 have k7:-9223372036854775808<=(i:Int)-1:=by omega
 have k8:(i:Int)-1<=9223372036854775807:=by omega
 have ei:0+(i:Int).toNat=i:=by omega
 have ei1:0+((i:Int)-1).toNat=i-1:=by omega
 repeat' (first|apply aA|exact trivial|exact rfl|refine gdL λhp=>?_|with_reducible exact k1|with_reducible exact k2 hp|exact k3 hp|(with_reducible first|exact k4|exact k5)|exact k6|(with_reducible first|exact k7|exact k8))
 .refine λ(hz:bN _ _ _ _ _=true)=>?_;rw[bW,aI,decide_eq_true_iff,bL,decide_eq_false_iff_not,ei,ei1]at hz;have hib:i<b:=by grind
  have hs2:SdR a (i+1) L:=Sa (Gh hs) (aN i) λ_=>hz.2;have m1:a+1<=i+1/\i+1<=b:=by omega
  have m2:b-(i+1)<b-i:=by omega
  have m3:-9223372036854775808<=(i:Int)+1:=by omega
  have m4:(i:Int)+1<=9223372036854775807:=by omega
  repeat' (first|apply aA|(with_reducible first|exact m3|exact m4))
  refine aB (i+1) (aA ⟨m1,hs2⟩ (aA ?_ m2));repeat' (first|apply aA|exact trivial|exact rfl|grind[cE,dC]|fail)
 refine λ_=>?_;repeat' (first|refine aA ?_ ?_)
 .refine λ(hz:decide ((i:Int)=(b:Int))=true)=>?_;have hib:i=b:=by grind
  subst hib;refine aB true (aA (λ_=>hs) ?_);repeat' (first|apply aA|exact trivial|exact rfl|exact cE (λa=>dC _ _ _ a)|fail)
 refine λ_=>?_;repeat' (first|apply aA|(with_reducible first|exact b3|exact b4))
 .refine λ_=>?_;refine aB false (aA (λh=>Bool.noConfusion h) ?_);repeat' (first|apply aA|exact trivial|exact rfl|exact cE (λa=>dC _ _ _ a)|fail)
 .exact (by grind)
end T53
end
section
set_option maxHeartbeats 10000000
open Go Go.Eng Go.Proofs A0 T1 T28 T29 T50 T51 T52 T53
set_option maxRecDepth 100000
namespace T54
theorem Fp(x:Int):0<=IntKind.u64.wrap x/\IntKind.u64.wrap x<18446744073709551616:=by rw[IntKind.wrap_u64]; omega
theorem rG(a b:Int):0<=gI .xor .u64 a b/\gI .xor .u64 a b<18446744073709551616:=Fp _
theorem Qm(a:Int)(m:Nat)(hm:m<1000):0<=gI .and .u64 a m/\gI .and .u64 a m<=m:=by
 have h:(BitVec.ofInt 64 a &&& BitVec.ofInt 64 (m:Int)).toNat<=m:=by
  grind[Nat.and_le_right]
 have e:gI .and .u64 a m=IntKind.u64.wrap ((BitVec.ofInt 64 a &&& BitVec.ofInt 64 (m:Int)).toNat:Int):=rfl;rw[e,IntKind.wrap_u64];omega
theorem ext1{T:Tb}{g:Option (Nat×Bool)}{fr:List (Nat×SV)}{r:List (Nat×aL)}{z:Nat×aL}{tyq sz n nx:Nat}{enc enc':Nat->SV}{K:SV->St->Prop}{o:SOp}(he:∀j,enc j=enc' j)(h:Eng.evE T g ⟨fr,z::(0,.arr tyq sz n enc')::r,nx⟩ K o):Eng.evE T g ⟨fr,z::(0,.arr tyq sz n enc)::r,nx⟩ K o:=by
 rw[show enc=enc' from funext he]; exact h
def Et:List Int:=[0,1,2,2,3,3,3,3,4,4,4,4,4,4,4,4,5,5,5,5,5,5,5,5,5]
def Sr:Eng.Spec where
 X:=Nat
 args:=λn=>.cons (.int .u64 n) .nil
 pre:=λn=>n<=24
 res:=λn=>.int .i64 (Et.getD n 0)
 inst:=fun
  |.cons (.int _ (n:Int)) _=>some n.toNat
  |_=>none
theorem Ss:Sr.Ok Tryz.prog 146:=by
 refine Eng.Spec.okR T29.e146 T29.q146 (λ_=>[]) (λ_ _=>aO.nil) ?_;rintro(n:Nat) (hn:n<=24);have hc:n=0\/n=1\/n=2\/n=3\/n=4\/n=5\/n=6\/n=7\/n=8\/n=9\/n=10\/n=11\/n=12\/n=13\/n=14\/n=15\/n=16\/n=17\/n=18\/n=19\/n=20\/n=21\/n=22\/n=23\/n=24:=by omega
 rcases hc with rfl|rfl|rfl|rfl|rfl|rfl|rfl|rfl|rfl|rfl|rfl|rfl|rfl|rfl|rfl|rfl|rfl|rfl|rfl|rfl|rfl|rfl|rfl|rfl|rfl;all_goals
  refine⟨trivial,?_⟩;repeat' (first|apply aA|decide|exact λh=>absurd h (by decide)|refine λ(_:_=false)=>?_|fail)
def aCf:Eng.Spec where
 X:=Nat
 args:=λn=>.cons (.int .u64 n) .nil
 pre:=λn=>n<=24
 res:=λn=>.int .i64 (Et.getD n 0)
 inst:=fun
  |.cons (.int _ (n:Int)) _=>some n.toNat
  |_=>none
theorem Sw:aCf.Ok Tryz.prog 144:=by
 refine Eng.Spec.okR T29.e144 T29.q144 (λ_=>[(146,.p Sr)]) (λ_ _=>aO.p Ss aO.nil) ?_;rintro(n:Nat) (hn:n<=24);refine⟨trivial,?_⟩;repeat' (first|exact hn|apply aA|exact trivial|exact rfl)
def g177:List Nat:=[0,2]
def c177:aY :=
 .seq (.region g177 [(zo 2 (.move (.c (.int (.u64) 0))))]) (.seq (.region g177 [(mv 3 0),(zo 4 (.cnv (.u64) (.s 3))),(zo 5 (.call (.c (.fn 144)) [.s 4])),(zo 6 (.bin (.shl) (.c (.int (.u64) 1)) (.s 5))),(mv 2 6)]) .ret)
theorem e177:bO Tryz.prog 177 g177 [] [] []=some (c177,[.slot 2],7):=by kernel_rfl
def aFp:Eng.Spec where
 X:=Nat
 args:=λn=>.cons (.int .i64 n) .nil
 pre:=λn=>13<=n/\n<=24
 res:=λn=>.int .u64 (if n<16 then 16 else 32)
 inst:=fun
  |.cons (.int _ (n:Int)) _=>some n.toNat
  |_=>none
theorem aC5:aFp.Ok Tryz.prog 177:=by
 refine Eng.Spec.okR e177 .nil (λ_=>[(144,.p aCf)]) (λ_ _=>aO.p Sw aO.nil) ?_;rintro(n:Nat) ⟨(h1:13<=n),(h2:n<=24)⟩;have hc:n=13\/n=14\/n=15\/n=16\/n=17\/n=18\/n=19\/n=20\/n=21\/n=22\/n=23\/n=24:=by omega
 rcases hc with rfl|rfl|rfl|rfl|rfl|rfl|rfl|rfl|rfl|rfl|rfl|rfl;all_goals
  refine⟨trivial,?_⟩;repeat' (first|apply aA|exact trivial|decide|exact aQ rfl|fail)
def g178:List Nat:=[0,2]
def c178:aY :=
 .seq (.region g178 [(zo 2 (.move (.c (.int (.u64) 0))))]) (.seq (.drawn g178 (.pure 0 (mv 3 0) (.pure 1 (zo 4 (.nilCheck (.s 3))) (.pure 2 (ld 5 4) (.pure 3 (mv 6 0) (.pure 4 (zo 7 (.nilCheck (.s 6))) (.pure 5 (ld 8 7) (.pure 6 (zo 9 (.bin (.shl) (.s 8) (.c (.int (.u64) 13)))) (.pure 7 (zo 10 (.bin (.xor) (.s 5) (.s 9))) (.pure 8 (zo 11 (.nilCheck (.s 3))) (.eff 9 ⟨none,none,.store 1 (.s 11) (.s 10),[]⟩ [] .done .none))))))))))) (.seq (.drawn g178 (.pure 0 (mv 12 0) (.pure 1 (zo 13 (.nilCheck (.s 12))) (.pure 2 (ld 14 13) (.pure 3 (mv 15 0) (.pure 4 (zo 16 (.nilCheck (.s 15))) (.pure 5 (ld 17 16) (.pure 6 (zo 18 (.bin (.shr) (.s 17) (.c (.int (.u64) 7)))) (.pure 7 (zo 19 (.bin (.xor) (.s 14) (.s 18))) (.pure 8 (zo 20 (.nilCheck (.s 12))) (.eff 9 ⟨none,none,.store 1 (.s 20) (.s 19),[]⟩ [] .done .none))))))))))) (.seq (.drawn g178 (.pure 0 (mv 21 0) (.pure 1 (zo 22 (.nilCheck (.s 21))) (.pure 2 (ld 23 22) (.pure 3 (mv 24 0) (.pure 4 (zo 25 (.nilCheck (.s 24))) (.pure 5 (ld 26 25) (.pure 6 (zo 27 (.bin (.shl) (.s 26) (.c (.int (.u64) 17)))) (.pure 7 (zo 28 (.bin (.xor) (.s 23) (.s 27))) (.pure 8 (zo 29 (.nilCheck (.s 21))) (.eff 9 ⟨none,none,.store 1 (.s 29) (.s 28),[]⟩ [] .done .none))))))))))) (.seq (.region g178 [(mv 30 0),(zo 31 (.nilCheck (.s 30))),(ld 32 31),(mv 2 32)]) .ret))))
theorem e178:bO Tryz.prog 178 g178 [] [] []=some (c178,[.slot 2],33):=by kernel_rfl
def aFh:bC where
 X:=Int
 Y:=Int
 args:=λ_=>.cons (.own 0 0) .nil
 pre:=λs=>0<=s/\s<18446744073709551616
 h0:=λs=>[(0,.cells 205 (.cons (.int .u64 s) .nil))]
 nx0:=1
 post:=λ_ y=>0<=y/\y<18446744073709551616
 res:=λ_ y=>.int .u64 y
 h1:=λ_ y=>[(0,.cells 205 (.cons (.int .u64 y) .nil))]
 nx1:=1
theorem aCx:aFh.Ok Tryz.prog 178:=by
 refine Eng.bC.okR e178 .nil (λ_=>[]) (λ_ _=>aO.nil) ?_;rintro(s:Int) ⟨(h1:0<=s),(h2:s<18446744073709551616)⟩;refine⟨trivial,?_⟩;repeat' (first|apply aA|exact trivial|(show(0:Int)<=13; decide)|(show(0:Int)<=7; decide)|(show(0:Int)<=17; decide)|fail)
 refine aB ?y (aA ?h ?k)
 case k=>repeat' (first|apply aA|exact trivial|exact rfl)
 exact rG _ _
def g163:List Nat:=[2,15,33,7,8,43,6,1,10,0,9]
def c163:aY :=
 .seq (.region g163 [(mv 11 2),(mv 12 1),(zo 13 (.bin (.sub) (.s 11) (.s 12))),(mv 6 13)]) (.seq (.region g163 [(mv 14 6),(zo 15 (.bin (.geq) (.s 14) (cj 8)))]) (.cond (.s 15) (.seq (.region g163 [(mv 16 6),(zo 17 (.cnv (.u64) (.s 16))),(zo 7 (.alloc 205 (.cons (.int (.u64) 0) .nil))),⟨none,none,.store 1 (.s 7) (.s 17),[]⟩]) (.seq (.region g163 [(mv 18 6),(zo 19 (.call (.c (.fn 177)) [.s 18])),(mv 8 19)]) (.seq (.region g163 [(mv 20 1),(mv 21 6),(zo 22 (.bin (.quo) (.s 21) (cj 4))),(zo 23 (.bin (.mul) (.s 22) (cj 2))),(zo 24 (.bin (.add) (.s 20) (.s 23))),(zo 25 (.bin (.sub) (.s 24) (cj 1))),(mv 9 25)]) (.block 0 (.loop 0 [26,27,28,29,30,31,32,33,36,37,38,39,40,41,42,43,44,45,46,10,47,48,49,50,51,52,53,54,55,56,57,58,59,60,61,62,63,64,34,35,9] (.seq (.seq (.region g163 [(mv 26 9),(mv 27 1),(mv 28 6),(zo 29 (.bin (.quo) (.s 28) (cj 4))),(zo 30 (.bin (.mul) (.s 29) (cj 2))),(zo 31 (.bin (.add) (.s 27) (.s 30))),(zo 32 (.bin (.add) (.s 31) (cj 1))),(zo 33 (.bin (.leq) (.s 26) (.s 32)))]) (.cond (.s 33) .skip (.exit 0))) (.seq (.block 1 (.seq (.region g163 [(zo 36 (.call (.c (.fn 178)) [.s 7])),(mv 37 8),(zo 38 (.bin (.sub) (.s 37) (.c (.int (.u64) 1)))),(zo 39 (.bin (.and) (.s 36) (.s 38))),(zo 40 (.cnv .i64 (.s 39))),(mv 10 40)]) (.seq (.seq (.region g163 [(mv 41 10),(mv 42 6),(zo 43 (.bin (.geq) (.s 41) (.s 42)))]) (.cond (.s 43) (.region g163 [(mv 44 10),(mv 45 6),(zo 46 (.bin (.sub) (.s 44) (.s 45))),(mv 10 46)]) .skip)) (.drawn g163 (.pure 0 (mv 47 0) (.pure 1 (mv 48 9) (.pure 2 (mv 49 0) (.pure 3 (mv 50 1) (.pure 4 (mv 51 10) (.pure 5 (zo 52 (.bin (.add) (.s 50) (.s 51))) (.pure 6 (mv 53 0) (.pure 7 (mv 54 1) (.pure 8 (mv 55 10) (.pure 9 (zo 56 (.bin (.add) (.s 54) (.s 55))) (.pure 10 (zo 57 (.idxSl 1 (.s 53) (.s 56))) (.pure 11 (ld 58 57) (.pure 12 (mv 59 0) (.pure 13 (mv 60 9) (.pure 14 (zo 61 (.idxSl 1 (.s 59) (.s 60))) (.pure 15 (ld 62 61) (.pure 16 (zo 63 (.idxSl 1 (.s 47) (.s 48))) (.eff 17 ⟨none,none,.store 1 (.s 63) (.s 58),[]⟩ [] (.pure 18 (zo 64 (.idxSl 1 (.s 49) (.s 52))) (.eff 19 ⟨none,none,.store 1 (.s 64) (.s 62),[]⟩ [] .done .none)) .none)))))))))))))))))))))) (.region g163 [(mv 34 9),(zo 35 (.bin (.add) (.s 34) (cj 1))),(mv 9 35)])))))))) .skip))
theorem e163:bO Tryz.prog 163 g163 [] [] []=some (c163,[],65):=by kernel_rfl
def aD1:bC where
 X:=List Int×Nat×Nat
 Y:=List Int
 args:=λx=>.cons (.lsl 0 1 x.1.length) (.cons (.int .i64 (x.2.1:Int)) (.cons (.int .i64 (x.2.2:Int)) .nil))
 pre:=λx=>x.2.2<=x.1.length/\x.1.length<=24/\x.2.1+13<=x.2.2
 h0:=λx=>[arH x.1]
 nx0:=1
 post:=λx y=>PR x.2.1 x.2.2 x.1 y
 res:=λ_ _=>.tup .nil
 h1:=λx y=>[(0,.arr 5 1 x.1.length (lc bE 0 y))]
 nx1:=1
theorem aAl:aD1.Ok Tryz.prog 163:=by
 refine Eng.bC.okR e163 .nil (λ_=>[(177,.p aFp),(178,.m aFh)]) (λ_ _=>aO.p aC5 (aO.m aCx aO.nil)) ?_;rintro⟨L,a,b⟩ ⟨(hb:b<=L.length),(hn:L.length<=24),(hab:a+13<=b)⟩;refine⟨trivial,?_⟩;have b3:-9223372036854775808<=(b:Int)-(a:Int):=by omega
 have b4:(b:Int)-(a:Int)<=9223372036854775807:=by omega
 repeat' (first|apply aA|(with_reducible first|exact b3|exact b4))
 rotate_left
 .exact (by grind)
 refine λ_=>?_;have hq:((b:Int)-(a:Int)).tdiv 4=(((b-a)/4:Nat):Int):=by
  grind
 obtain⟨q,hqn⟩:∃q,(b-a)/4=q:=⟨_,rfl⟩;have hq2:3<=q/\q<=6/\4*q<=b-a:=by omega
 rw[hqn]at hq;have c0:0<=(b:Int)-(a:Int):=by omega
 have c1:(b:Int)-(a:Int)<=18446744073709551615:=by omega
 have c2:13<=((b:Int)-(a:Int)).toNat:=by omega
 have c3:((b:Int)-(a:Int)).toNat<=24:=by omega
 have c4:(b:Int)-(a:Int)=(((b:Int)-(a:Int)).toNat:Int):=by omega
 have c5:-9223372036854775808<=((b:Int)-(a:Int)).tdiv 4:=by omega
 have c6:((b:Int)-(a:Int)).tdiv 4<=9223372036854775807:=by omega
 have c7:-9223372036854775808<=((b:Int)-(a:Int)).tdiv 4*2:=by omega
 have c8:((b:Int)-(a:Int)).tdiv 4*2<=9223372036854775807:=by omega
 have c9:-9223372036854775808<=(a:Int)+((b:Int)-(a:Int)).tdiv 4*2:=by omega
 have c10:(a:Int)+((b:Int)-(a:Int)).tdiv 4*2<=9223372036854775807:=by omega
 have c11:-9223372036854775808<=(a:Int)+((b:Int)-(a:Int)).tdiv 4*2-1:=by omega
 have c12:(a:Int)+((b:Int)-(a:Int)).tdiv 4*2-1<=9223372036854775807:=by omega
 have c13:-9223372036854775808<=(a:Int)+((b:Int)-(a:Int)).tdiv 4*2+1:=by omega
 have c14:(a:Int)+((b:Int)-(a:Int)).tdiv 4*2+1<=9223372036854775807:=by omega
 have n4:(4:Int)≠0:=by decide
 have e9:(a:Int)+((b:Int)-(a:Int)).tdiv 4*2-1=((a+q*2-1+0:Nat):Int):=by omega
 repeat' (first|apply aA|exact trivial|exact rfl|(with_reducible first|exact c0|exact c1|exact c2|exact c3)|exact c4|(with_reducible first|exact c5|exact c6|exact c7|exact c8|exact c9|exact c10|exact c11|exact c12|exact n4))
 refine⟨⟨Nat×Int×List Int,λx=>x.1<=3/\(0<=x.2.1/\x.2.1<18446744073709551616)/\PR a b L x.2.2,λx=>[(9,.int .i64 ((a+q*2-1+x.1:Nat):Int))],λx=>[(0,.arr 5 1 L.length (lc bE 0 x.2.2)),(1,.cells 205 (.cons (.int .u64 x.2.1) .nil))],λx=>3-x.1⟩,(0,(b:Int)-(a:Int),L),⟨by omega,(by grind),PR.refl _ _ _⟩,?_,?_⟩
 .repeat' (first|apply aA|exact trivial|exact rfl|grind[cE,dC]|fail)
 rintro⟨k,s,M⟩ ⟨(hk:k<=3),⟨(hs0:0<=s),(hs1:s<18446744073709551616)⟩,(hp:PR a b L M)⟩;repeat' (first|apply aA|(with_reducible first|exact c5|exact c6|exact c7|exact c8|exact c9|exact c10|exact c13|exact c14|exact n4))
 .refine λ(hz:decide (((a+q*2-1+k:Nat):Int)<=(a:Int)+((b:Int)-(a:Int)).tdiv 4*2+1)=true)=>?_;have hk2:k<=2:=by grind
  have hps:0<=s/\s<18446744073709551616:=⟨hs0,hs1⟩;refine aB s (aB [1] ?_);repeat' (first|exact hps|apply aA|exact trivial|exact rfl)
  refine λ(y:Int) (hy:0<=y/\y<18446744073709551616)=>?_;have hml:M.length=L.length:=hp.len;have hix:a<=a+q*2-1+k/\a+q*2-1+k<b:=by omega
  have hxl:a+q*2-1+k<M.length:=by omega
  have x1:(0:Int)<=((a+q*2-1+k:Nat):Int):=by omega
  have x2:((a+q*2-1+k:Nat):Int)<(L.length:Int):=by omega
  have x3:0+((a+q*2-1+k:Nat):Int).toNat<L.length:=by omega
  have ex:0+((a+q*2-1+k:Nat):Int).toNat=a+q*2-1+k:=by omega
  have x4:-9223372036854775808<=((a+q*2-1+k:Nat):Int)+1:=by omega
  have x5:((a+q*2-1+k:Nat):Int)+1<=9223372036854775807:=by omega
  obtain⟨o,ho⟩:∃o,gI .and .u64 y (IntKind.u64.wrap ((if ((b:Int)-(a:Int)).toNat<16 then 16 else 32)-1))=o:=⟨_,rfl⟩;have hob:0<=o/\o<2*((b:Int)-(a:Int)):=by
   rw[<- ho];by_cases h:((b:Int)-(a:Int)).toNat<16
   .rw [if_pos h];have:=Qm y 15 (by decide)
    grind[IntKind.wrap_u64]
   .rw [if_neg h];have:=Qm y 31 (by decide)
    grind[IntKind.wrap_u64]
  have o1:-9223372036854775808<=gI .and .u64 y (IntKind.u64.wrap ((if ((b:Int)-(a:Int)).toNat<16 then 16 else 32)-1)):=by omega
  have o2:gI .and .u64 y (IntKind.u64.wrap ((if ((b:Int)-(a:Int)).toNat<16 then 16 else 32)-1))<=9223372036854775807:=by omega
  have o3:-9223372036854775808<=gI .and .u64 y (IntKind.u64.wrap ((if ((b:Int)-(a:Int)).toNat<16 then 16 else 32)-1))-((b:Int)-(a:Int)):=by omega
  have o4:gI .and .u64 y (IntKind.u64.wrap ((if ((b:Int)-(a:Int)).toNat<16 then 16 else 32)-1))-((b:Int)-(a:Int))<=9223372036854775807:=by omega
  repeat' (first|refine aA ?_ ?_)
  .exact o1
  .exact o2
  .refine λ(hz:decide (gI .and .u64 y (IntKind.u64.wrap ((if ((b:Int)-(a:Int)).toNat<16 then 16 else 32)-1))>=(b:Int)-(a:Int))=true)=>?_;have hge:=of_decide_eq_true hz;have hw:0<=gI .and .u64 y (IntKind.u64.wrap ((if ((b:Int)-(a:Int)).toNat<16 then 16 else 32)-1))-((b:Int)-(a:Int))/\gI .and .u64 y (IntKind.u64.wrap ((if ((b:Int)-(a:Int)).toNat<16 then 16 else 32)-1))-((b:Int)-(a:Int))<(b:Int)-(a:Int):=by omega
   obtain⟨r,hr⟩:∃r:Nat,(a:Int)+(gI .and .u64 y (IntKind.u64.wrap ((if ((b:Int)-(a:Int)).toNat<16 then 16 else 32)-1))-((b:Int)-(a:Int)))=(r:Int):=⟨((a:Int)+(gI .and .u64 y (IntKind.u64.wrap ((if ((b:Int)-(a:Int)).toNat<16 then 16 else 32)-1))-((b:Int)-(a:Int)))).toNat,by omega⟩;have hr1:a<=r/\r<b:=by omega
   have w1:-9223372036854775808<=(a:Int)+(gI .and .u64 y (IntKind.u64.wrap ((if ((b:Int)-(a:Int)).toNat<16 then 16 else 32)-1))-((b:Int)-(a:Int))):=by omega
   have w2:(a:Int)+(gI .and .u64 y (IntKind.u64.wrap ((if ((b:Int)-(a:Int)).toNat<16 then 16 else 32)-1))-((b:Int)-(a:Int)))<=9223372036854775807:=by omega
   have w3:0<=(a:Int)+(gI .and .u64 y (IntKind.u64.wrap ((if ((b:Int)-(a:Int)).toNat<16 then 16 else 32)-1))-((b:Int)-(a:Int))):=by omega
   have w4:(a:Int)+(gI .and .u64 y (IntKind.u64.wrap ((if ((b:Int)-(a:Int)).toNat<16 then 16 else 32)-1))-((b:Int)-(a:Int)))<(L.length:Int):=by omega
   have w5:0+((a:Int)+(gI .and .u64 y (IntKind.u64.wrap ((if ((b:Int)-(a:Int)).toNat<16 then 16 else 32)-1))-((b:Int)-(a:Int)))).toNat<L.length:=by omega
   have er:0+((a:Int)+(gI .and .u64 y (IntKind.u64.wrap ((if ((b:Int)-(a:Int)).toNat<16 then 16 else 32)-1))-((b:Int)-(a:Int)))).toNat=r:=by omega
   have hrl:r<M.length:=by omega
   have hp2:=hp.xch (i:=a+q*2-1+k) (j:=r) hix ⟨hr1.1,hr1.2⟩ (by omega);repeat' (first|apply aA|exact trivial|exact o3|exact o4|exact w1|exact w2|exact w3|exact w4|exact w5|(with_reducible first|exact x1|exact x2)|exact x3)
   refine ext1 (enc':=λp=>lc bE 0 (M.set (a+q*2-1+k) (M.getD r 0)) p) (λp=>?_) ?_
   .grind [xs1]
   have y1:k+1<=3:=by omega
   have y2:((a+q*2-1+k:Nat):Int)+1=((a+q*2-1+(k+1):Nat):Int):=by omega
   have y3:3-(k+1)<3-k:=by omega
   repeat' (first|apply aA|exact trivial|(with_reducible first|exact x4|exact x5))
   .exact w5
   refine aB (k+1,y,xch M (a+q*2-1+k) r) (aA ⟨y1,hy,hp2⟩ (aA ?_ y3));repeat' (first|apply aA|exact trivial|exact rfl|exact xs3 ex er hxl hrl|fail)
  .refine λ(hz:decide (gI .and .u64 y (IntKind.u64.wrap ((if ((b:Int)-(a:Int)).toNat<16 then 16 else 32)-1))>=(b:Int)-(a:Int))=false)=>?_;have hge:=of_decide_eq_false hz;have hw:0<=gI .and .u64 y (IntKind.u64.wrap ((if ((b:Int)-(a:Int)).toNat<16 then 16 else 32)-1))/\gI .and .u64 y (IntKind.u64.wrap ((if ((b:Int)-(a:Int)).toNat<16 then 16 else 32)-1))<(b:Int)-(a:Int):=by omega
   obtain⟨r,hr⟩:∃r:Nat,(a:Int)+(gI .and .u64 y (IntKind.u64.wrap ((if ((b:Int)-(a:Int)).toNat<16 then 16 else 32)-1)))=(r:Int):=⟨((a:Int)+(gI .and .u64 y (IntKind.u64.wrap ((if ((b:Int)-(a:Int)).toNat<16 then 16 else 32)-1)))).toNat,by omega⟩;have hr1:a<=r/\r<b:=by omega
   have w1:-9223372036854775808<=(a:Int)+(gI .and .u64 y (IntKind.u64.wrap ((if ((b:Int)-(a:Int)).toNat<16 then 16 else 32)-1))):=by omega
   have w2:(a:Int)+(gI .and .u64 y (IntKind.u64.wrap ((if ((b:Int)-(a:Int)).toNat<16 then 16 else 32)-1)))<=9223372036854775807:=by omega
   have w3:0<=(a:Int)+(gI .and .u64 y (IntKind.u64.wrap ((if ((b:Int)-(a:Int)).toNat<16 then 16 else 32)-1))):=by omega
   have w4:(a:Int)+(gI .and .u64 y (IntKind.u64.wrap ((if ((b:Int)-(a:Int)).toNat<16 then 16 else 32)-1)))<(L.length:Int):=by omega
   have w5:0+((a:Int)+(gI .and .u64 y (IntKind.u64.wrap ((if ((b:Int)-(a:Int)).toNat<16 then 16 else 32)-1)))).toNat<L.length:=by omega
   have er:0+((a:Int)+(gI .and .u64 y (IntKind.u64.wrap ((if ((b:Int)-(a:Int)).toNat<16 then 16 else 32)-1)))).toNat=r:=by omega
   have hrl:r<M.length:=by omega
   have hp2:=hp.xch (i:=a+q*2-1+k) (j:=r) hix ⟨hr1.1,hr1.2⟩ (by omega);repeat' (first|apply aA|exact trivial|exact w1|exact w2|exact w3|exact w4|exact w5|(with_reducible first|exact x1|exact x2)|exact x3)
   refine ext1 (enc':=λp=>lc bE 0 (M.set (a+q*2-1+k) (M.getD r 0)) p) (λp=>?_) ?_
   .grind [xs1]
   have y1:k+1<=3:=by omega
   have y2:((a+q*2-1+k:Nat):Int)+1=((a+q*2-1+(k+1):Nat):Int):=by omega
   have y3:3-(k+1)<3-k:=by omega
   repeat' (first|apply aA|exact trivial|(with_reducible first|exact x4|exact x5))
   .exact w5
   refine aB (k+1,y,xch M (a+q*2-1+k) r) (aA ⟨y1,hy,hp2⟩ (aA ?_ y3));repeat' (first|apply aA|exact trivial|exact rfl|exact xs3 ex er hxl hrl|fail)
 refine λ_=>?_;refine aB M (aA hp ?_);repeat' (first|apply aA|exact trivial|exact rfl|grind[cE,dC]|fail)
end T54
end
section
open Go Go.Eng Go.Proofs A0 T1 T28 T29 T50 T51 T52 T53 T54
set_option maxRecDepth 100000
namespace T55
def aFk:bC where
 X:=List Int×Nat×Nat×Int
 Y:=List Int
 args:=λx=>.cons (.lsl 0 1 x.1.length) (.cons (.int .i64 (x.2.1:Int)) (.cons (.int .i64 (x.2.2.1:Int)) (.cons (.int .i64 x.2.2.2) .nil)))
 pre:=λx=>x.2.2.1<=x.1.length/\x.1.length<=24/\x.2.1<=x.2.2.1/\x.2.2.1<=x.2.1+12
 h0:=λx=>[arH x.1]
 nx0:=1
 post:=λx y=>PR x.2.1 x.2.2.1 x.1 y/\SdR x.2.1 x.2.2.1 y
 res:=λ_ _=>.tup .nil
 h1:=λx y=>[(0,.arr 5 1 x.1.length (lc bE 0 y))]
 nx1:=1
theorem aC1:aFk.Ok Tryz.prog 143:=by
 refine Eng.bC.okR T29.e143 T29.q143 (λ_=>[(161,.m aBw)]) (λ_ _=>aO.m Sc aO.nil) ?_;rintro⟨L,a,b,z⟩ ⟨(hb:b<=L.length),(hn:L.length<=24),(hab:a<=b),(h12:b<=a+12)⟩;refine⟨trivial,?_⟩;have b3:-9223372036854775808<=(b:Int)-(a:Int):=by omega
 have b4:(b:Int)-(a:Int)<=9223372036854775807:=by omega
 have p1:b<=L.length/\L.length<=24/\a<=24:=by omega
 refine⟨⟨Unit,λ_=>True,λ_=>[(1,.int .i64 (a:Int)),(2,.int .i64 (b:Int))],λ_=>[(0,.arr 5 1 L.length (lc bE 0 L))],λ_=>0⟩,(),trivial,?_,?_⟩
 .repeat' (first|apply aA|exact trivial|exact rfl|exact cE (λa=>dC _ _ _ a)|fail)
 refine λ(_:Unit) (_:True)=>?_;repeat' (first|apply aA|(with_reducible first|exact b3|exact b4))
 .refine λ_=>?_;refine aB (L,a,b) (aB [0] ?_);repeat' (first|exact p1|apply aA|exact trivial|exact rfl|exact cE (λa=>dC _ _ _ a)|fail)
  refine λ(y:List Int) (hy:PR a b L y/\SdR a b y)=>?_;refine aB y (aA hy ?_);repeat' (first|apply aA|exact trivial|exact rfl|exact cE (λa=>dC _ _ _ a)|fail)
 .exact λ(h:decide ((b:Int)-(a:Int)<=12)=false)=>absurd (of_decide_eq_false h) (by omega)
def Lim(wb:Bool)(lim w:Int):Prop:=w<=12\/(1<=lim/\w<=(bif wb then 14 else 12)+2*lim)
structure PI(L:List Int)(a b:Nat)(lim:Int)(wb:Bool)(M:List Int):Prop where
 ab:a<=b
 bn:b<=L.length
 pr:PR 0 L.length L M
 ord:OR L.length a b M
 lm:Lim wb lim ((b:Int)-(a:Int))
 l0:0<=lim
 l1:lim<=5
theorem PI.fin12{L:List Int}{a b:Nat}{lim:Int}{wb:Bool}{M y:List Int}(h:PI L a b lim wb M)(hnd:L.Nodup)(hp:PR a b M y)(hs:SdR a b y):y.Perm L/\SR 0 L.length y:=by
 have hpl:=hp.perm.trans h.pr.perm;refine⟨hpl,(h.ord.perm hp h.bn (cN h.pr.len.symm)).done λi j h1 h2 h3=>?_⟩;have hb:=h.bn;have hl:=hpl.length_eq;have hn:=hpl.nodup_iff.2 hnd;have h4:=hs i j h1 h2 h3;rcases Int.lt_or_eq_of_le h4 with h5|h5
 .exact h5
 .rw [aK,aK,aM (by omega),aM (by omega)]at h5;have:=(List.getElem_inj hn).1 (show y[i]=y[j] from h5);omega
theorem Ms{y:List Int}(hn:y.Nodup){i j:Nat}(hi:i<y.length)(hj:j<y.length)(h:i≠j):y.getD i 0≠y.getD j 0:=λe=>by
 rw[aK,aK,aM hi,aM hj]at e;exact h ((List.getElem_inj hn).1 (show y[i]=y[j] from e))
theorem Wm{a b m pv p q:Nat}{M N:List Int}(h:T52.Fin a b M (M.getD pv 0) m N)(hn:M.Nodup)(hb:b<=M.length)(hv:a<=pv/\pv<b)(hp:a<=p/\p<b)(hq:a<=q/\q<b)(hpn:p≠pv)(hqn:q≠pv)
  (h1:M.getD p 0<=M.getD pv 0) (h2:M.getD pv 0<=M.getD q 0):Par a b m N/\a<m/\m+1<b:=by
 have hl:=h.pr.len;have hN:N.Nodup:=h.pr.perm.nodup_iff.2 hn;have hlo:=h.lo;have hhi:=h.hi;have hgt:∀i,m<i->i<b->N.getD m 0<N.getD i 0:=λi k1 k2=>by
  have:=h.ge i k1 k2;rw[<- h.pv]at this;have:=Ms hN (i:=m) (j:=i) (by omega) (by omega) (by omega);omega
 have hlt:∀i,a<=i->i<m->N.getD i 0<N.getD m 0:=λi k1 k2=>by rw[h.pv]; exact h.lt i k1 k2
 have hs:PR a b N M:=⟨h.pr.perm.symm,λi hi=>(h.pr.out i hi).symm⟩;have n1:=Ms hn (i:=p) (j:=pv) (by omega) (by omega) hpn;have n2:=Ms hn (i:=q) (j:=pv) (by omega) (by omega) hqn;refine⟨⟨hlo,hhi,hlt,hgt⟩,?_,?_⟩
 .refine Nat.lt_of_le_of_ne hlo λe=>?_;have:=hs.all (by omega) (P:=λx=>M.getD pv 0<=x) (λi k1 k2=>by
   by_cases ei:i=m
   .rw [ei,h.pv]; exact gY _
   .have:=hgt i (by omega) k2;rw[h.pv]at this;omega) p hp.1 hp.2
  omega
 .refine Nat.lt_of_le_of_ne hhi λe=>?_;have:=hs.all (by omega) (P:=λx=>x<=M.getD pv 0) (λi k1 k2=>by
   by_cases ei:i=m
   .rw [ei,h.pv]; exact gY _
   .have:=hlt i k1 (by omega);rw[h.pv]at this;omega) q hq.1 hq.2
  omega
theorem S0{wb:Bool}{lm w:Int}(h0:0<=lm)(h:w<=12+2*lm):Lim wb lm w:=by
 by_cases e:lm=0
 .exact .inl (by omega)
 .refine .inr ⟨by omega,?_⟩;cases wb
  .exact h
  .show w<=14+2*lm;omega
theorem Z2{a b:Nat}{y:List Int}(hn:y.Nodup)(hb:b<=y.length)(h:SdR a b y):SR a b y:=λi j h1 h2 h3=>by
 have:=Ms hn (i:=i) (j:=j) (by omega) (by omega) (by omega);have:=h i j h1 h2 h3;omega
def g143:List Nat:=[23,29,35,50,12,68,72,87,13,11,15,9,10,113,16,1,17,18,8,0,3,14,2]
def c143:aY :=
 .seq (.region g143 [(zo 8 (.move cT))]) (.seq (.region g143 [(zo 9 (.move cT))]) (.block 0 (.loop 0 [19,20,21,10,22,23,24,25,26,27,28,29,30,31,32,33,34,35,36,37,38,39,40,41,3,43,44,45,46,42,47,48,49,50,51,52,53,54,55,56,57,58,59,60,11,12,61,62,63,64,65,66,67,68,69,70,71,72,73,74,75,76,77,78,79,80,81,82,83,84,85,86,87,88,89,90,91,92,13,93,95,96,97,98,99,94,100,101,14,15,102,9,103,104,105,106,107,108,16,17,109,110,18,111,112,113,114,115,116,117,118,119,120,121,122,123,1,124,125,126,8,127,128,129,130,131,132,133,2] (.block 1 (.seq (.region g143 [(mv 19 2),(mv 20 1),(zo 21 (.bin (.sub) (.s 19) (.s 20))),(mv 10 21)]) (.seq (.seq (.region g143 [(mv 22 10),(zo 23 (.bin (.leq) (.s 22) (cj 12)))]) (.cond (.s 23) (.seq (.region g143 [(mv 24 0),(mv 25 1),(mv 26 2),(zo 27 (.call (.c (.fn 161)) [.s 24,.s 25,.s 26]))]) .ret) .skip)) (.seq (.seq (.region g143 [(mv 28 3),(zo 29 (.bin (.eql) (.s 28) (cj 0)))]) (.cond (.s 29) (.seq (.region g143 [(mv 30 0),(mv 31 1),(mv 32 2),(zo 33 (.call (.c (.fn 162)) [.s 30,.s 31,.s 32]))]) .ret) .skip)) (.seq (.seq (.region g143 [(mv 34 8),(zo 35 (.not (.s 34)))]) (.join 1 [36,37,38,39,40,41,3] (.cond (.s 35) (.seq (.region g143 [(mv 36 0),(mv 37 1),(mv 38 2),(zo 39 (.call (.c (.fn 163)) [.s 36,.s 37,.s 38]))]) (.region g143 [(mv 40 3),(zo 41 (.bin (.sub) (.s 40) (cj 1))),(mv 3 41)])) .skip))) (.seq (.region g143 [(mv 43 0),(mv 44 1),(mv 45 2),(zo 46 (.call (.c (.fn 164)) [.s 43,.s 44,.s 45])),(mv 42 46),(zo 47 (.extract 0 (.s 42))),(zo 48 (.extract 1 (.s 42))),(mv 11 47),(mv 12 48)]) (.seq (.seq (.region g143 [(mv 49 12),(zo 50 (.bin (.eql) (.s 49) (cj 2)))]) (.cond (.s 50) (.seq (.region g143 [(mv 51 0),(mv 52 1),(mv 53 2),(zo 54 (.call (.c (.fn 165)) [.s 51,.s 52,.s 53]))]) (.seq (.region g143 [(mv 55 2),(zo 56 (.bin (.sub) (.s 55) (cj 1))),(mv 57 11),(mv 58 1),(zo 59 (.bin (.sub) (.s 57) (.s 58))),(zo 60 (.bin (.sub) (.s 56) (.s 59))),(mv 11 60)]) (.region g143 [(zo 12 (.move (cj 1)))]))) .skip)) (.seq (.seq (.region g143 [(mv 61 8),(mv 62 61),(mg 63 62 true 9),(zo 64 (.pick (.s 62) (.s 63) cF)),(mv 65 64),(mg 66 65 true 12),(zg 67 65 true (.bin (.eql) (.s 66) (cj 1))),(zo 68 (.pick (.s 65) (.s 67) cF))]) (.join 2 [69,70,71,72] (.cond (.s 68) (.seq (.region g143 [(mv 69 0),(mv 70 1),(mv 71 2),(zo 72 (.call (.c (.fn 166)) [.s 69,.s 70,.s 71]))]) (.cond (.s 72) .ret .skip)) .skip))) (.seq (.seq (.drawn g143 (.pure 0 (mv 73 1) (.pure 1 (zo 74 (.bin (.gtr) (.s 73) (cj 0))) (.pure 2 (mv 75 74) (.pure 3 (mg 76 75 true 0) (.pure 4 (mg 77 75 true 1) (.pure 5 (zg 78 75 true (.bin (.sub) (.s 77) (cj 1))) (.pure 6 (zg 79 75 true (.idxSl 1 (.s 76) (.s 78))) (.pure 7 (lg 80 75 true 79) (.pure 8 (mg 81 75 true 0) (.pure 9 (mg 82 75 true 11) (.pure 10 (zg 83 75 true (.idxSl 1 (.s 81) (.s 82))) (.pure 11 (lg 84 75 true 83) (.pure 12 (zg 85 75 true (.call (.c (.fn 167)) [.s 80,.s 84])) (.pure 13 (zg 86 75 true (.not (.s 85))) (.pure 14 (zo 87 (.pick (.s 75) (.s 86) cF)) .done)))))))))))))))) (.cond (.s 87) (.seq (.region g143 [(mv 88 0),(mv 89 1),(mv 90 2),(mv 91 11),(zo 92 (.call (.c (.fn 168)) [.s 88,.s 89,.s 90,.s 91])),(mv 13 92)]) (.seq (.region g143 [(mv 93 13),(mv 1 93)]) (.exit 1))) .skip)) (.seq (.region g143 [(mv 95 0),(mv 96 1),(mv 97 2),(mv 98 11),(zo 99 (.call (.c (.fn 169)) [.s 95,.s 96,.s 97,.s 98])),(mv 94 99),(zo 100 (.extract 0 (.s 94))),(zo 101 (.extract 1 (.s 94))),(mv 14 100),(mv 15 101)]) (.seq (.region g143 [(mv 102 15),(mv 9 102)]) (.seq (.region g143 [(mv 103 14),(mv 104 1),(zo 105 (.bin (.sub) (.s 103) (.s 104))),(mv 106 2),(mv 107 14),(zo 108 (.bin (.sub) (.s 106) (.s 107))),(mv 16 105),(mv 17 108)]) (.seq (.region g143 [(mv 109 10),(zo 110 (.bin (.quo) (.s 109) (cj 8))),(mv 18 110)]) (.seq (.region g143 [(mv 111 16),(mv 112 17),(zo 113 (.bin (.lss) (.s 111) (.s 112)))]) (.cond (.s 113) (.seq (.region g143 [(mv 114 16),(mv 115 18),(zo 116 (.bin (.geq) (.s 114) (.s 115))),(mv 8 116)]) (.seq (.region g143 [(mv 117 0),(mv 118 1),(mv 119 14),(mv 120 3),(zo 121 (.call (.c (.fn 143)) [.s 117,.s 118,.s 119,.s 120]))]) (.region g143 [(mv 122 14),(zo 123 (.bin (.add) (.s 122) (cj 1))),(mv 1 123)]))) (.seq (.region g143 [(mv 124 17),(mv 125 18),(zo 126 (.bin (.geq) (.s 124) (.s 125))),(mv 8 126)]) (.seq (.region g143 [(mv 127 0),(mv 128 14),(zo 129 (.bin (.add) (.s 128) (cj 1))),(mv 130 2),(mv 131 3),(zo 132 (.call (.c (.fn 143)) [.s 127,.s 129,.s 130,.s 131]))]) (.region g143 [(mv 133 14),(mv 2 133)])))))))))))))))))))))
def r143:List lL:=[]
def k143:List (Nat×Nat×aY×Nat):=[]
theorem e143:bO Tryz.prog 143 g143 [2,4] [] k143=some (c143,r143,134):=by kernel_rfl
theorem q143:lT Tryz.prog k143:=lT.nil
def aFl:bC where
 X:=List Int×Int
 Y:=List Int
 args:=λx=>.cons (.lsl 0 1 x.1.length) (.cons (.int .i64 0) (.cons (.int .i64 (x.1.length:Int)) (.cons (.int .i64 x.2) .nil)))
 pre:=λx=>(x.1.length<=24/\x.1.Nodup)/\(0<=x.2/\x.2<=5)/\Lim true x.2 (x.1.length:Int)
 h0:=λx=>[arH x.1]
 nx0:=1
 post:=λx y=>y.Perm x.1/\SR 0 x.1.length y
 res:=λ_ _=>.tup .nil
 h1:=λx y=>[(0,.arr 5 1 x.1.length (lc bE 0 y))]
 nx1:=1
set_option maxHeartbeats 1000000 in
theorem aC2:aFl.Ok Tryz.prog 143:=by
 refine Eng.bC.okR e143 q143 (λ_=>[(161,.m aBw),(163,.m aD1),(164,.m aD3),(166,.m aFn),(169,.m aFm),(143,.m aFk),(167,.p wC)]) (λ_ _=>aO.m Sc (aO.m aAl (aO.m aAp (aO.m aC4 (aO.m aC3 (aO.m aC1 (aO.p qY aO.nil))))))) ?_;rintro⟨L,l0⟩ ⟨⟨(hn:L.length<=24),(hnd:L.Nodup)⟩,⟨(hl0:0<=l0),(hl5:l0<=5)⟩,(hlim:Lim true l0 (L.length:Int))⟩;refine⟨trivial,?_⟩;have hi0:PI L 0 L.length l0 true L:=⟨aS _,aN _,PR.refl _ _ _,λi j h1 h2 h3=>by omega,by rw[show(L.length:Int)-((0:Nat):Int)=(L.length:Int) by omega]; exact hlim,hl0,hl5⟩;refine⟨⟨Nat×Nat×Int×Bool×Bool×List Int,λx=>PI L x.1 x.2.1 x.2.2.1 x.2.2.2.1 x.2.2.2.2.2,λx=>[(1,.int .i64 (x.1:Int)),(2,.int .i64 (x.2.1:Int)),(3,.int .i64 x.2.2.1),(8,.bool x.2.2.2.1),(9,.bool x.2.2.2.2.1)],λx=>[(0,.arr 5 1 L.length (lc bE 0 x.2.2.2.2.2))],λx=>x.2.1-x.1⟩,(0,L.length,l0,true,true,L),hi0,?_,?_⟩
 .repeat' (first|apply aA|exact trivial|exact rfl|exact cE (λa=>dC _ _ _ a)|fail)
 rintro⟨a,b,lim,wb,wp,M⟩ (hI:PI L a b lim wb M);have hab:=hI.ab;have hbn:=hI.bn;have hll:=hI.l0;have hl5:=hI.l1;have hml:M.length=L.length:=hI.pr.len;have b3:-9223372036854775808<=(b:Int)-(a:Int):=by omega
 have b4:(b:Int)-(a:Int)<=9223372036854775807:=by omega
 repeat' (first|apply aA|(with_reducible first|exact b3|exact b4))
 .refine λ(hz:decide ((b:Int)-(a:Int)<=12)=true)=>?_;have h12:=of_decide_eq_true hz;have p1:b<=M.length/\M.length<=24/\a<=24:=by omega
  refine aB (M,a,b) (aB [0] ?_);repeat' (first|exact p1|apply aA|exact trivial|exact rfl|exact cE (λa=>dC _ _ _ a)|exact hml.symm)
  refine λ(y:List Int) (hy:PR a b M y/\SdR a b y)=>?_;have hpost:=hI.fin12 hnd hy.1 hy.2;refine aB y (aA hpost ?_);repeat' (first|apply aA|exact trivial|exact rfl|exact cE (λa=>dC _ _ _ a)|exact hml)
 refine λ(hz:decide ((b:Int)-(a:Int)<=12)=false)=>?_;have h12:a+13<=b:=by have:=of_decide_eq_false hz; omega
 have hlm:=hI.lm;have hlim1:1<=lim:=by unfold Lim at hlm; omega
 have hpb:b<=M.length/\M.length<=24/\a+13<=b:=by omega
 repeat' (first|apply aA|exact λ(h:decide (lim=0)=true)=>absurd (of_decide_eq_true h) (show ¬lim=0 by omega)|refine λ(_:decide (lim=0)=false)=>?_|fail)
 refine aB ⟨Int×List Int,λx=>PR a b M x.2/\(0<=x.1/\x.1<=5)/\((b:Int)-(a:Int)<=14+2*x.1),λx=>[(3,.int .i64 x.1)],λx=>[(0,.arr 5 1 L.length (lc bE 0 x.2))],λ_=>0⟩ (aA ?_ ?_)
 .cases wb
  .have hlf:(b:Int)-(a:Int)<=12+2*lim:=by
    rcases hlm with h|h
    .omega
    .exact h.2
   have m1:-9223372036854775808<=lim-1:=by omega
   have m2:lim-1<=9223372036854775807:=by omega
   repeat' (first|apply aA|exact zh|refine zt ?_|fail)
   refine aB (M,a,b) (aB [0] ?_);repeat' (first|exact hpb|apply aA|exact trivial|exact rfl|exact cE (λa=>dC _ _ _ a)|exact hml.symm)
   refine λ(y:List Int) (hy:PR a b M y)=>?_;repeat' (first|apply aA|(with_reducible first|exact m1|exact m2))
   refine aB (lim-1,y) (aA ⟨hy,(show 0<=lim-1/\lim-1<=5 by omega),(show(b:Int)-(a:Int)<=14+2*(lim-1) by omega)⟩ ?_);repeat' (first|apply aA|exact trivial|exact rfl|exact cE (λa=>dC _ _ _ a)|exact hml)
  .have hlt:(b:Int)-(a:Int)<=14+2*lim:=by
    rcases hlm with h|h
    .omega
    .exact h.2
   repeat' (first|apply aA|exact zf|refine zt ?_|fail)
   refine aB (lim,M) (aA ⟨PR.refl _ _ _,⟨hll,hl5⟩,hlt⟩ ?_);repeat' (first|apply aA|exact trivial|exact rfl|exact cE (λa=>dC _ _ _ a)|fail)
 rintro⟨lm,M1⟩ ⟨(hp1:PR a b M M1),⟨(hm0:0<=lm),(hm5:lm<=5)⟩,(hmw:(b:Int)-(a:Int)<=14+2*lm)⟩;have hm1l:M1.length=L.length:=hp1.len.trans hml;have hpb1:b<=M1.length/\M1.length<=24/\a+13<=b:=by omega
 have hpr1:=hI.pr.trans (hp1.mono (aS a) hbn);have hor1:=hI.ord.perm hp1 hbn (cN hml.symm);refine aB (M1,a,b) (aB [0] ?_);repeat' (first|exact hpb1|apply aA|exact trivial|exact rfl|exact cE (λa=>dC _ _ _ a)|exact hm1l.symm)
 refine λ(y:Nat×Int) (hy:(a<=y.1/\y.1<b)/\(y.2=0\/y.2=1)/\∃p q,(a<=p/\p<b)/\(a<=q/\q<b)/\(p≠y.1/\q≠y.1)/\M1.getD p 0<=M1.getD y.1 0/\M1.getD y.1 0<=M1.getD q 0)=>?_;obtain⟨pv,hint⟩:=y;obtain⟨⟨(hv1:a<=pv),(hv2:pv<b)⟩,(hh:hint=0\/hint=1),p,q,⟨hpa,hpb2⟩,⟨hqa,hqb⟩,⟨(hpn:p≠pv),(hqn:q≠pv)⟩,(hle1:M1.getD p 0<=M1.getD pv 0),(hle2:M1.getD pv 0<=M1.getD q 0)⟩:=hy;repeat' (first|apply aA|exact λ(h:decide (hint=2)=true)=>absurd (of_decide_eq_true h) (show ¬hint=2 by omega)|refine λ(_:decide (hint=2)=false)=>?_|fail)
 refine aB ⟨Unit,λ_=>True,λ_=>[],λ_=>[(0,.arr 5 1 L.length (lc bE 0 M1))],λ_=>0⟩ (aA ?_ ?_)
 .repeat' (first|refine aA ?_ ?_)
  .refine λ_=>?_;refine aB (M1,a,b) (aB [0] ?_);repeat' (first|exact hpb1|apply aA|exact trivial|exact rfl|exact cE (λa=>dC _ _ _ a)|exact hm1l.symm)
   refine λ(y:Bool) (hy:y=true->SdR a b M1)=>?_;cases y
   .repeat' (first|apply aA|exact zf|refine zt ?_|fail)
    refine aB () ?_;repeat' (first|apply aA|exact trivial|exact rfl|exact cE (λa=>dC _ _ _ a)|exact hm1l)
   .have hpost:=hI.fin12 hnd hp1 (hy rfl);repeat' (first|apply aA|exact zh|refine zt ?_|fail)
    refine aB M1 (aA hpost ?_);repeat' (first|apply aA|exact trivial|exact rfl|exact cE (λa=>dC _ _ _ a)|exact hm1l)
  .refine λ_=>?_;refine aB () ?_;repeat' (first|apply aA|exact trivial|exact rfl|exact cE (λa=>dC _ _ _ a)|exact hm1l)
 refine λ(_:Unit) (_:True)=>?_;have r1:-9223372036854775808<=(a:Int)-1:=by omega
 have r2:(a:Int)-1<=9223372036854775807:=by omega
 have r3:(0:Int)<(a:Int)->0<=(a:Int)-1:=by omega
 have r4:(a:Int)-1<(L.length:Int):=by omega
 have r5:0+((a:Int)-1).toNat<L.length:=by omega
 have r6:(0:Int)<=(pv:Int):=by omega
 have r7:(pv:Int)<(L.length:Int):=by omega
 have r8:0+(pv:Int).toNat<L.length:=by omega
 have epv:0+(pv:Int).toNat=pv:=by omega
 have ea1:0+((a:Int)-1).toNat=a-1:=by omega
 have hprp:(b<=M1.length/\M1.length<=24/\a+1<b)/\a<=pv/\pv<b:=by omega
 repeat' (first|apply aA|exact trivial|exact rfl|refine gdL λhp=>?_|(with_reducible first|exact r1|exact r2)|with_reducible exact r3 hp|with_reducible exact r4|exact r5|(with_reducible first|exact r6|exact r7)|exact r8)
 .refine λ(hz:bN _ _ _ _ _=true)=>?_;rw[bW,aI,decide_eq_true_iff,bL,decide_eq_false_iff_not,epv,ea1]at hz;have ha0:0<a:=by have h:(0:Int)<(a:Int):=hz.1; omega
  exact absurd (hor1 (a-1) pv (by omega) (by omega) (.inl (by omega))) hz.2
 refine λ_=>?_;refine aB (M1,a,b,pv) (aB [0] ?_);repeat' (first|exact hprp|apply aA|exact trivial|exact rfl|exact cE (λa=>dC _ _ _ a)|exact hm1l.symm)
 refine λ(y:Nat×Bool×List Int) (hy:T52.Fin a b M1 (M1.getD pv 0) y.1 y.2.2)=>?_;obtain⟨m,al,M2⟩:=y;replace hy:T52.Fin a b M1 (M1.getD pv 0) m M2:=hy;have hnd1:M1.Nodup:=hpr1.perm.nodup_iff.2 hnd;obtain⟨hpar,ham,hmb⟩:=Wm hy hnd1 hpb1.1 ⟨hv1,hv2⟩ ⟨hpa,hpb2⟩ ⟨hqa,hqb⟩ hpn hqn hle1 hle2;have hm2l:M2.length=L.length:=hy.pr.len.trans hm1l;have hpr2:=hpr1.trans (hy.pr.mono (aS a) hbn);have hor2:=hor1.perm hy.pr hbn (cN hm1l.symm);have hnd2:M2.Nodup:=hpr2.perm.nodup_iff.2 hnd;have v1:-9223372036854775808<=(m:Int)-(a:Int):=by omega
 have v2:(m:Int)-(a:Int)<=9223372036854775807:=by omega
 have v3:-9223372036854775808<=(b:Int)-(m:Int):=by omega
 have v4:(b:Int)-(m:Int)<=9223372036854775807:=by omega
 have v5:(8:Int)≠0:=by decide
 have hq8:((b:Int)-(a:Int)).tdiv 8=(((b-a)/8:Nat):Int):=by
  rw[Int.tdiv_eq_ediv_of_nonneg (by omega)];omega
 have v6:-9223372036854775808<=((b:Int)-(a:Int)).tdiv 8:=by omega
 have v7:((b:Int)-(a:Int)).tdiv 8<=9223372036854775807:=by omega
 have v8:-9223372036854775808<=(m:Int)+1:=by omega
 have v9:(m:Int)+1<=9223372036854775807:=by omega
 repeat' (first|apply aA|(with_reducible first|exact v1|exact v2|exact v3|exact v4|exact v5|exact v6|exact v7))
 .refine λ(hz:decide ((m:Int)-(a:Int)<(b:Int)-(m:Int))=true)=>?_;have hz1:=of_decide_eq_true hz;have hc1:m<=M2.length/\M2.length<=24/\a<=m/\m<=a+12:=by omega
  refine aB (M2,a,m,lm) (aB [0] ?_);repeat' (first|exact hc1|apply aA|exact trivial|exact rfl|exact cE (λa=>dC _ _ _ a)|exact hm2l.symm|exact hm1l.trans hm2l.symm|fail)
  refine λ(y:List Int) (hy:PR a m M2 y/\SdR a m y)=>?_;have hyl:y.length=L.length:=hy.1.len.trans hm2l;have hny:y.Nodup:=hy.1.perm.nodup_iff.2 hnd2;have hsr:SR a m y:=Z2 hny (by omega) hy.2;obtain⟨c,hc⟩:∃c,c=m+1:=⟨_,rfl⟩;have emc:(m:Int)+1=(c:Int):=by omega
  have hpi:∀w,PI L c b lm w y:=λw=>by
   subst hc;exact⟨by omega,hbn,hpr2.trans (hy.1.mono (aS a) (by omega)),hpar.right hor2 hy.1 hsr hbn (cN hm2l.symm),S0 hm0 (by omega),hm0,hm5⟩
  repeat' (first|apply aA|(with_reducible first|exact v8|exact v9))
  first|rw[emc]|rw[show Int.add (m:Int) 1=(c:Int) from emc]|simp only[emc]
  refine aB (c,b,lm,decide (((b:Int)-(a:Int)).tdiv 8<=(m:Int)-(a:Int)),al,y) ?_;refine aA (hpi _) ?_;have hdec:b-c<b-a:=by omega
  repeat' (first|exact hdec|apply aA|exact trivial|exact rfl|exact cE (λa=>dC _ _ _ a)|exact hm2l)
 .refine λ(hz:decide ((m:Int)-(a:Int)<(b:Int)-(m:Int))=false)=>?_;have hz1:=of_decide_eq_false hz;have hc1:b<=M2.length/\M2.length<=24/\m+1<=b/\b<=m+1+12:=by omega
  have emi:(m:Int)+1=((m+1:Nat):Int):=by omega
  repeat' (first|apply aA|(with_reducible first|exact v8|exact v9))
  obtain⟨c,hc⟩:∃c,c=m+1:=⟨_,rfl⟩;have emc:(m:Int)+1=(c:Int):=by omega
  have hc2:b<=M2.length/\M2.length<=24/\c<=b/\b<=c+12:=by omega
  first|rw[emc]|rw[show Int.add (m:Int) 1=(c:Int) from emc]|simp only[emc]
  refine aB (M2,c,b,lm) (aB [0] ?_);repeat' (first|exact hc2|apply aA|exact trivial|exact rfl|exact cE (λa=>dC _ _ _ a)|exact hm2l.symm|exact hm1l.trans hm2l.symm|fail)
  refine λ(y:List Int) (hy0:PR c b M2 y/\SdR c b y)=>?_;have hy:PR (m+1) b M2 y/\SdR (m+1) b y:=hc▸hy0;have hyl:y.length=L.length:=hy.1.len.trans hm2l;have hny:y.Nodup:=hy.1.perm.nodup_iff.2 hnd2;have hsr:SR (m+1) b y:=Z2 hny (by omega) hy.2;have hpi:∀w,PI L a m lm w y:=λw=>⟨by omega,by omega,hpr2.trans (hy.1.mono (aS _) hbn),hpar.left hor2 hy.1 hsr hbn (cN hm2l.symm),S0 hm0 (by omega),hm0,hm5⟩;refine aB (a,m,lm,decide (((b:Int)-(a:Int)).tdiv 8<=(b:Int)-(m:Int)),al,y) ?_;refine aA (hpi _) ?_;have hdec:m-a<b-a:=by omega
  repeat' (first|exact hdec|apply aA|exact trivial|exact rfl|exact cE (λa=>dC _ _ _ a)|exact hm2l)
end T55
end
section
set_option maxHeartbeats 10000000
open Go Go.Eng Go.Proofs A0 T1 T2 T3 T4 T5 T6 T13 T28 T29 T50 T51 T52 T53 T54 T55
set_option maxRecDepth 100000
namespace T56
theorem lim24{n:Nat}(hn:n<=24):(0<=Et.getD n 0/\Et.getD n 0<=5)/\Lim true (Et.getD n 0) (n:Int):=by
 have hc:n=0\/n=1\/n=2\/n=3\/n=4\/n=5\/n=6\/n=7\/n=8\/n=9\/n=10\/n=11\/n=12\/n=13\/n=14\/n=15\/n=16\/n=17\/n=18\/n=19\/n=20\/n=21\/n=22\/n=23\/n=24:=by omega
 unfold Lim;rcases hc with rfl|rfl|rfl|rfl|rfl|rfl|rfl|rfl|rfl|rfl|rfl|rfl|rfl|rfl|rfl|rfl|rfl|rfl|rfl|rfl|rfl|rfl|rfl|rfl|rfl;all_goals decide
theorem aDk{y:List Int}{n:Nat}(hn:y.length=n)(h:SR 0 n y):Srd y y.length:=λi j h1 h2=>by
 have:=h i j (aS i) h1 (by omega);omega
def Z4:bC where
 X:=List Int
 Y:=List Int
 args:=λx=>.cons (.lsl 0 1 x.length) .nil
 pre:=λx=>x.length<=24/\x.Nodup
 h0:=λx=>[arH x]
 nx0:=1
 post:=λx y=>y.Perm x/\Srd y y.length
 res:=λ_ _=>.tup .nil
 h1:=λx y=>[(0,.arr 5 1 x.length (lc bE 0 y))]
 nx1:=1
theorem Yh:Z4.Ok Tryz.prog 123:=by
 refine Eng.bC.okR T29.e123 T29.q123 (λ_=>[(144,.p T54.aCf),(143,.m aFl)]) (λ_ _=>aO.p T54.Sw (aO.m aC2 aO.nil)) ?_;rintro(L:List Int) ⟨(hn:L.length<=24),(hnd:L.Nodup)⟩;refine⟨trivial,?_⟩;repeat' (first|exact hn|apply aA|exact trivial|exact rfl)
 .omega
 .omega
 have hpre:(L.length<=24/\L.Nodup)/\(0<=Et.getD L.length 0/\Et.getD L.length 0<=5)/\Lim true (Et.getD L.length 0) (L.length:Int):=⟨⟨hn,hnd⟩,lim24 hn⟩;refine aB (L,Et.getD L.length 0) (aB [0] ?_);repeat' (first|exact hpre|apply aA|exact trivial|exact rfl|exact cE (λa=>dC _ _ _ a)|fail)
 refine λ(y:List Int) (hy:y.Perm L/\SR 0 L.length y)=>?_;refine aB y (aA ⟨hy.1,aDk hy.1.length_eq hy.2⟩ ?_);repeat' (first|apply aA|exact trivial|exact rfl|exact cE (λa=>dC _ _ _ a)|fail)
def Ng:bC where
 X:=KX
 Y:=List Int
 args:=λx=>.cons (clo x.m) .nil
 pre:=λx=>KOk x/\x.l.length<=24/\(lJ x.l).Nodup
 h0:=λx=>[(0,.fam λq=>noO 0 (x.N q))]
 nx0:=1
 post:=λx y=>y.Perm (lJ x.l)/\Srd y y.length
 res:=λ_ y=>.lsl 1 1 y.length
 h1:=λx y=>[(0,.fam λq=>noO 0 (x.N q)),(1,.arr 5 1 y.length (lc bE 0 y))]
 nx1:=2
theorem Pt:Ng.Ok Tryz.prog 99:=by
 refine Eng.bC.okR T29.e99 T29.q99 (λ_=>[(122,.m Y5),(123,.m Z4)]) (by grind[aO.m,V9,Yh,aO.nil]) ?_;rintro⟨N,m,l,q⟩ ⟨(h:KOk ⟨N,m,l,q⟩),(hl:l.length<=24),(hnd:(lJ l).Nodup)⟩;refine⟨trivial,?_⟩;refine aB ⟨N,m,l,q⟩ (aB [0] ?_);repeat' (first|exact h|apply aA|exact trivial|exact rfl|exact zm N rfl|fail)
 refine λ(y:List Int) (hy:y.Perm (lJ l))=>?_;have hyl:y.length<=24/\y.Nodup:=by
  refine⟨?_,hy.nodup_iff.2 hnd⟩;rw[hy.length_eq]
  grind[lJ]
 refine aB y (aB [1] ?_);repeat' (first|exact hyl|apply aA|exact trivial|exact rfl|exact cE (λa=>dC _ _ _ a)|fail)
 refine λ(z:List Int) (hz:z.Perm y/\Srd z z.length)=>?_;have hzy:=hz.1.length_eq;refine aB z (aA ⟨hz.1.trans hy,hz.2⟩ ?_);repeat' (first|apply aA|exact trivial|exact rfl|exact zr N rfl rfl|exact cE (λa=>dC _ _ _ a)|omega|fail)
end T56
end
