/- A part of the proof. -/
import Derived.Test.YtpiolkcdfgiefaaGreatDoorT28
section
set_option maxHeartbeats 10000000
open Go Go.Eng Go.Proofs A0 T1 T2 T3 T4 T5 T6 T28
set_option maxRecDepth 100000
namespace T29
def g181:List Nat:=[0,2]
def c181:aY :=
 .seq (.region g181 [(zo 2 (.move cF))]) (.seq (.region g181 [(mv 3 0),(mv 4 0),(zo 5 (.bin (.neq) (.s 3) (.s 4))),(mv 2 5)]) .ret)
theorem e181:bO Tryz.prog 181 g181 [] [] []=some (c181,[.slot 2],6):=by kernel_rfl
def J5:Eng.Spec where
 X:=Int
 args:=λn=>.cons (.int .u8 n) .nil
 pre:=λ_=>True
 res:=λ_=>.bool false
 inst:=fun
  |.cons (.int _ n) _=>some n
  |_=>none
theorem aCn:J5.Ok Tryz.prog 181:=by
 refine Eng.Spec.okR e181 .nil (λ_=>[]) (λ_ _=>aO.nil) ?_;rintro(n:Int) _;refine⟨trivial,?_⟩
 .show (!decide (n=n))=false;simp
def g167:List Nat:=[0,1,4]
def c167:aY :=
 .seq (.region g167 [(zo 4 (.move cF))]) (.seq (.region g167 [(mv 5 0),(zo 6 (.call (.c (.fn 181)) [.s 5])),(mv 7 6),(mg 8 7 true 1),(zg 9 7 true (.call (.c (.fn 181)) [.s 8])),(zg 10 7 true (.not (.s 9))),(zo 11 (.pick (.s 7) (.s 10) cF)),(mv 12 11),(mg 13 12 false 0),(mg 14 12 false 1),(zg 15 12 false (.bin (.lss) (.s 13) (.s 14))),(zo 16 (.pick (.s 12) cT (.s 15))),(mv 4 16)]) .ret)
theorem e167:bO Tryz.prog 167 g167 [] [] []=some (c167,[.slot 4],17):=by kernel_rfl
def wC:Eng.Spec where
 X:=Int×Int
 args:=λx=>.cons (.int .u8 x.1) (.cons (.int .u8 x.2) .nil)
 pre:=λ_=>True
 res:=λx=>.bool (decide (x.1<x.2))
 inst:=fun
  |.cons (.int _ n) (.cons (.int _ m) _)=>some (n,m)
  |_=>none
theorem qY:wC.Ok Tryz.prog 167:=by
 refine Eng.Spec.okR e167 .nil (λ_=>[(181,.p J5)]) (λ_ _=>aO.p aCn aO.nil) ?_;rintro⟨a,b⟩ _;refine⟨trivial,?_⟩;repeat' (first|apply aA|exact trivial|exact rfl|exact zf|fail)
def g146:List Nat:=[4,8,14,0,2]
def c146:aY :=
 .seq (.region g146 [(zo 2 (.move (cj 0)))]) (.seq (.seq (.region g146 [(mv 3 0),(zo 4 (.bin (.geq) (.s 3) (.c (.int (.u64) 4294967296))))]) (.cond (.s 4) (.seq (.region g146 [(mv 5 0),(zo 6 (.bin (.shr) (.s 5) (.c (.int (.u64) 32)))),(mv 0 6)]) (.region g146 [(zo 2 (.move (cj 32)))])) .skip)) (.seq (.seq (.region g146 [(mv 7 0),(zo 8 (.bin (.geq) (.s 7) (.c (.int (.u64) 65536))))]) (.cond (.s 8) (.seq (.region g146 [(mv 9 0),(zo 10 (.bin (.shr) (.s 9) (.c (.int (.u64) 16)))),(mv 0 10)]) (.region g146 [(mv 11 2),(zo 12 (.bin (.add) (.s 11) (cj 16))),(mv 2 12)])) .skip)) (.seq (.seq (.region g146 [(mv 13 0),(zo 14 (.bin (.geq) (.s 13) (.c (.int (.u64) 256))))]) (.cond (.s 14) (.seq (.region g146 [(mv 15 0),(zo 16 (.bin (.shr) (.s 15) (.c (.int (.u64) 8)))),(mv 0 16)]) (.region g146 [(mv 17 2),(zo 18 (.bin (.add) (.s 17) (cj 8))),(mv 2 18)])) .skip)) (.seq (.region g146 [(mv 19 2),(mv 20 0),(zo 21 (.cnv (.u8) (.s 20))),(zo 22 (.idxStr (.c (.str [0,1,2,2,3,3,3,3,4,4,4,4,4,4,4,4,5,5,5,5,5,5,5,5,5,5,5,5,5,5,5,5,6,6,6,6,6,6,6,6,6,6,6,6,6,6,6,6,6,6,6,6,6,6,6,6,6,6,6,6,6,6,6,6,7,7,7,7,7,7,7,7,7,7,7,7,7,7,7,7,7,7,7,7,7,7,7,7,7,7,7,7,7,7,7,7,7,7,7,7,7,7,7,7,7,7,7,7,7,7,7,7,7,7,7,7,7,7,7,7,7,7,7,7,7,7,7,7,8,8,8,8,8,8,8,8,8,8,8,8,8,8,8,8,8,8,8,8,8,8,8,8,8,8,8,8,8,8,8,8,8,8,8,8,8,8,8,8,8,8,8,8,8,8,8,8,8,8,8,8,8,8,8,8,8,8,8,8,8,8,8,8,8,8,8,8,8,8,8,8,8,8,8,8,8,8,8,8,8,8,8,8,8,8,8,8,8,8,8,8,8,8,8,8,8,8,8,8,8,8,8,8,8,8,8,8,8,8,8,8,8,8,8,8,8,8,8,8,8,8,8,8,8,8,8,8])) (.s 21))),(zo 23 (.cnv .i64 (.s 22))),(zo 24 (.bin (.add) (.s 19) (.s 23))),(mv 2 24)]) .ret))))
def r146:List lL:=[.slot 2]
def k146:List (Nat×Nat×aY×Nat):=[]
theorem e146:bO Tryz.prog 146 g146 [] [] k146=some (c146,r146,25):=by kernel_rfl
theorem q146:lT Tryz.prog k146:=lT.nil
def g144:List Nat:=[0,2]
def c144:aY :=
 .seq (.region g144 [(zo 2 (.move (cj 0)))]) (.seq (.cond cF (.seq (.region g144 [(mv 3 0),(zo 4 (.cnv (.u32) (.s 3))),(zo 5 (.call (.c (.fn 170)) [.s 4])),(mv 2 5)]) .ret) .skip) (.seq (.region g144 [(mv 6 0),(zo 7 (.call (.c (.fn 146)) [.s 6])),(mv 2 7)]) .ret))
def r144:List lL:=[.slot 2]
def k144:List (Nat×Nat×aY×Nat):=[]
theorem e144:bO Tryz.prog 144 g144 [] [] k144=some (c144,r144,8):=by kernel_rfl
theorem q144:lT Tryz.prog k144:=lT.nil
def Srd(L:List Int)(i:Nat):Prop:=∀a b,a<b->b<i->L.getD a 0<=L.getD b 0
theorem ext0{T:Tb}{g:Option (Nat×Bool)}{fr:List (Nat×SV)}{r:List (Nat×aL)}{tyq sz n nx:Nat}{enc enc':Nat->SV}{K:SV->St->Prop}{o:SOp}(he:∀j,enc j=enc' j)(h:Eng.evE T g ⟨fr,(0,.arr tyq sz n enc')::r,nx⟩ K o):Eng.evE T g ⟨fr,(0,.arr tyq sz n enc)::r,nx⟩ K o:=by
 rw[show enc=enc' from funext he]; exact h
theorem Qp{α:Type}(a b:Nat)(x y:α):(bif Nat.beq a b then x else y)=if a=b then x else y:=by
 simp
def g143:List Nat:=[23,29,35,50,12,68,72,87,13,11,15,9,10,113,16,1,17,18,8,0,3,14,2]
def c143:aY :=
 .seq (.region g143 [(zo 8 (.move cT))]) (.seq (.region g143 [(zo 9 (.move cT))]) (.block 0 (.loop 0 [19,20,21,10,22,23,24,25,26,27,28,29,30,31,32,33,34,35,36,37,38,39,40,41,3,43,44,45,46,42,47,48,49,50,51,52,53,54,55,56,57,58,59,60,11,12,61,62,63,64,65,66,67,68,69,70,71,72,73,74,75,76,77,78,79,80,81,82,83,84,85,86,87,88,89,90,91,92,13,93,95,96,97,98,99,94,100,101,14,15,102,9,103,104,105,106,107,108,16,17,109,110,18,111,112,113,114,115,116,117,118,119,120,121,122,123,1,124,125,126,8,127,128,129,130,131,132,133,2] (.block 1 (.seq (.region g143 [(mv 19 2),(mv 20 1),(zo 21 (.bin (.sub) (.s 19) (.s 20))),(mv 10 21)]) (.seq (.seq (.region g143 [(mv 22 10),(zo 23 (.bin (.leq) (.s 22) (cj 12)))]) (.cond (.s 23) (.seq (.region g143 [(mv 24 0),(mv 25 1),(mv 26 2),(zo 27 (.call (.c (.fn 161)) [.s 24,.s 25,.s 26]))]) .ret) .skip)) (.seq (.seq (.region g143 [(mv 28 3),(zo 29 (.bin (.eql) (.s 28) (cj 0)))]) (.cond (.s 29) (.seq (.region g143 [(mv 30 0),(mv 31 1),(mv 32 2),(zo 33 (.call (.c (.fn 162)) [.s 30,.s 31,.s 32]))]) .ret) .skip)) (.seq (.seq (.region g143 [(mv 34 8),(zo 35 (.not (.s 34)))]) (.cond (.s 35) (.seq (.region g143 [(mv 36 0),(mv 37 1),(mv 38 2),(zo 39 (.call (.c (.fn 163)) [.s 36,.s 37,.s 38]))]) (.region g143 [(mv 40 3),(zo 41 (.bin (.sub) (.s 40) (cj 1))),(mv 3 41)])) .skip)) (.seq (.region g143 [(mv 43 0),(mv 44 1),(mv 45 2),(zo 46 (.call (.c (.fn 164)) [.s 43,.s 44,.s 45])),(mv 42 46),(zo 47 (.extract 0 (.s 42))),(zo 48 (.extract 1 (.s 42))),(mv 11 47),(mv 12 48)]) (.seq (.seq (.region g143 [(mv 49 12),(zo 50 (.bin (.eql) (.s 49) (cj 2)))]) (.cond (.s 50) (.seq (.region g143 [(mv 51 0),(mv 52 1),(mv 53 2),(zo 54 (.call (.c (.fn 165)) [.s 51,.s 52,.s 53]))]) (.seq (.region g143 [(mv 55 2),(zo 56 (.bin (.sub) (.s 55) (cj 1))),(mv 57 11),(mv 58 1),(zo 59 (.bin (.sub) (.s 57) (.s 58))),(zo 60 (.bin (.sub) (.s 56) (.s 59))),(mv 11 60)]) (.region g143 [(zo 12 (.move (cj 1)))]))) .skip)) (.seq (.seq (.region g143 [(mv 61 8),(mv 62 61),(mg 63 62 true 9),(zo 64 (.pick (.s 62) (.s 63) cF)),(mv 65 64),(mg 66 65 true 12),(zg 67 65 true (.bin (.eql) (.s 66) (cj 1))),(zo 68 (.pick (.s 65) (.s 67) cF))]) (.cond (.s 68) (.seq (.region g143 [(mv 69 0),(mv 70 1),(mv 71 2),(zo 72 (.call (.c (.fn 166)) [.s 69,.s 70,.s 71]))]) (.cond (.s 72) .ret .skip)) .skip)) (.seq (.seq (.drawn g143 (.pure 0 (mv 73 1) (.pure 1 (zo 74 (.bin (.gtr) (.s 73) (cj 0))) (.pure 2 (mv 75 74) (.pure 3 (mg 76 75 true 0) (.pure 4 (mg 77 75 true 1) (.pure 5 (zg 78 75 true (.bin (.sub) (.s 77) (cj 1))) (.pure 6 (zg 79 75 true (.idxSl 1 (.s 76) (.s 78))) (.pure 7 (lg 80 75 true 79) (.pure 8 (mg 81 75 true 0) (.pure 9 (mg 82 75 true 11) (.pure 10 (zg 83 75 true (.idxSl 1 (.s 81) (.s 82))) (.pure 11 (lg 84 75 true 83) (.pure 12 (zg 85 75 true (.call (.c (.fn 167)) [.s 80,.s 84])) (.pure 13 (zg 86 75 true (.not (.s 85))) (.pure 14 (zo 87 (.pick (.s 75) (.s 86) cF)) .done)))))))))))))))) (.cond (.s 87) (.seq (.region g143 [(mv 88 0),(mv 89 1),(mv 90 2),(mv 91 11),(zo 92 (.call (.c (.fn 168)) [.s 88,.s 89,.s 90,.s 91])),(mv 13 92)]) (.seq (.region g143 [(mv 93 13),(mv 1 93)]) (.exit 1))) .skip)) (.seq (.region g143 [(mv 95 0),(mv 96 1),(mv 97 2),(mv 98 11),(zo 99 (.call (.c (.fn 169)) [.s 95,.s 96,.s 97,.s 98])),(mv 94 99),(zo 100 (.extract 0 (.s 94))),(zo 101 (.extract 1 (.s 94))),(mv 14 100),(mv 15 101)]) (.seq (.region g143 [(mv 102 15),(mv 9 102)]) (.seq (.region g143 [(mv 103 14),(mv 104 1),(zo 105 (.bin (.sub) (.s 103) (.s 104))),(mv 106 2),(mv 107 14),(zo 108 (.bin (.sub) (.s 106) (.s 107))),(mv 16 105),(mv 17 108)]) (.seq (.region g143 [(mv 109 10),(zo 110 (.bin (.quo) (.s 109) (cj 8))),(mv 18 110)]) (.seq (.region g143 [(mv 111 16),(mv 112 17),(zo 113 (.bin (.lss) (.s 111) (.s 112)))]) (.cond (.s 113) (.seq (.region g143 [(mv 114 16),(mv 115 18),(zo 116 (.bin (.geq) (.s 114) (.s 115))),(mv 8 116)]) (.seq (.region g143 [(mv 117 0),(mv 118 1),(mv 119 14),(mv 120 3),(zo 121 (.call (.c (.fn 143)) [.s 117,.s 118,.s 119,.s 120]))]) (.region g143 [(mv 122 14),(zo 123 (.bin (.add) (.s 122) (cj 1))),(mv 1 123)]))) (.seq (.region g143 [(mv 124 17),(mv 125 18),(zo 126 (.bin (.geq) (.s 124) (.s 125))),(mv 8 126)]) (.seq (.region g143 [(mv 127 0),(mv 128 14),(zo 129 (.bin (.add) (.s 128) (cj 1))),(mv 130 2),(mv 131 3),(zo 132 (.call (.c (.fn 143)) [.s 127,.s 129,.s 130,.s 131]))]) (.region g143 [(mv 133 14),(mv 2 133)])))))))))))))))))))))
def r143:List lL:=[]
def k143:List (Nat×Nat×aY×Nat):=[]
theorem e143:bO Tryz.prog 143 g143 [] [] k143=some (c143,r143,134):=by kernel_rfl
theorem q143:lT Tryz.prog k143:=lT.nil
def g123:List Nat:=[0,2]
def c123:aY :=
 .seq (.region g123 [(mv 3 0),(zo 4 (.lenSl (.s 3))),(mv 2 4)]) (.region g123 [(mv 5 0),(mv 6 2),(mv 7 2),(zo 8 (.cnv (.u64) (.s 7))),(zo 9 (.call (.c (.fn 144)) [.s 8])),(zo 10 (.call (.c (.fn 143)) [.s 5,cj 0,.s 6,.s 9]))])
def r123:List lL:=[]
def k123:List (Nat×Nat×aY×Nat):=[]
theorem e123:bO Tryz.prog 123 g123 [] [] k123=some (c123,r123,11):=by kernel_rfl
theorem q123:lT Tryz.prog k123:=lT.nil
def g99:List Nat:=[0,3,2]
def c99:aY :=
 .seq (.region g99 [(zo 2 (.move (.c (.nilsl))))]) (.seq (.region g99 [(mv 4 0),(zo 5 (.call (.c (.fn 122)) [.s 4])),(mv 3 5)]) (.seq (.region g99 [(mv 6 3),(zo 7 (.call (.c (.fn 123)) [.s 6]))]) (.seq (.region g99 [(mv 8 3),(mv 2 8)]) .ret)))
def r99:List lL:=[.slot 2]
def k99:List (Nat×Nat×aY×Nat):=[]
theorem e99:bO Tryz.prog 99 g99 [] [] k99=some (c99,r99,9):=by kernel_rfl
theorem q99:lT Tryz.prog k99:=lT.nil
end T29
end
section
set_option maxHeartbeats 10000000
open Go Go.Eng Go.Proofs A0 T1 T28 T29
set_option maxRecDepth 100000
namespace T50
structure PR(a b:Nat)(L M:List Int):Prop where
 perm:M.Perm L
 out:∀i,¬(a<=i/\i<b)->M.getD i 0=L.getD i 0
theorem PR.refl(a b:Nat)(L:List Int):PR a b L L:=⟨.refl _,λ_ _=>rfl⟩
theorem PR.trans{a b:Nat}{L M N:List Int}(h:PR a b L M)(k:PR a b M N):PR a b L N:=⟨k.perm.trans h.perm,λi hi=>(k.out i hi).trans (h.out i hi)⟩
theorem PR.mono{a b a' b':Nat}{L M:List Int}(h:PR a b L M)(ha:a'<=a)(hb:b<=b'):PR a' b' L M:=⟨h.perm,λi hi=>h.out i (by grind)⟩
theorem PR.len{a b:Nat}{L M:List Int}(h:PR a b L M):M.length=L.length:=h.perm.length_eq
def xch(L:List Int)(i j:Nat):List Int:=(L.set i (L.getD j 0)).set j (L.getD i 0)
theorem tO{L:List Int}{i j p:Nat}(hi:i<L.length)(hj:j<L.length):(xch L i j).getD p 0=if p=j then L.getD i 0 else if p=i then L.getD j 0 else L.getD p 0:=by
 simp only[xch,aK,kW,List.length_set]
 grind
theorem Vp{L:List Int}{i j:Nat}(hi:i<L.length)(hj:j<L.length):(xch L i j).Perm L:=by
 rw[List.perm_iff_count];intro x;unfold xch
 grind
theorem PR.xch{a b i j:Nat}{L M:List Int}(h:PR a b L M)(hi:a<=i/\i<b)(hj:a<=j/\j<b)(hb:b<=M.length):PR a b L (xch M i j):=by
 refine⟨(Vp (by omega) (by omega)).trans h.perm,λp hp=>?_⟩;rw[tO (by omega) (by omega),if_neg (λe=>hp (by omega)),if_neg (λe=>hp (by omega))];exact h.out p hp
theorem PR.all{a b:Nat}{L M:List Int}(h:PR a b L M)(hb:b<=L.length){P:Int->Prop}(hp:∀i,a<=i->i<b->P (L.getD i 0)):∀i,a<=i->i<b->P (M.getD i 0):=by
 intro i hai hib;have hl:=h.len;have e1:∀(N:List Int),N.length=L.length->N=N.take a++((N.drop a).take (b-a)++N.drop b):=λN hN=>by
  have:N.drop b=(N.drop a).drop (b-a):=by grind[List.drop_drop]
  grind[List.take_append_drop]
 have ht:M.take a=L.take a:=by
  refine iR (by simp[hl]) λn h1 h2=>?_;rw[gD,gD];have:=h.out n (by grind)
  grind
 have hd:M.drop b=L.drop b:=by
  refine iR (by simp[hl]) λn h1 h2=>?_;rw[gC,gC];rw[gM]at h1 h2;have:=h.out (b+n) (by omega)
  rwa [aK,aK,aM (by omega),aM (by omega)]at this
 have hq:((M.drop a).take (b-a)).Perm ((L.drop a).take (b-a)):=by
  have hp:=h.perm;rw[e1 M hl,e1 L rfl,ht,hd]at hp
  grind[List.perm_append_right_iff,List.perm_append_left_iff]
 have hm:M.getD i 0∈(M.drop a).take (b-a):=by
  rw[aK,aM (by omega:i<M.length)];refine List.mem_iff_getElem.2 ⟨i-a,by simp; omega,?_⟩
  grind
 obtain⟨n,hn,e⟩:=List.mem_iff_getElem.1 (hq.mem_iff.1 hm);rw[gD,gC]at e;rw[eN,gM]at hn;have h3:=hp (a+n) (by omega) (by omega);rw[aK,aM (by omega:a+n<L.length)]at h3
 grind
def SR(a b:Nat)(L:List Int):Prop:=∀i j,a<=i->i<j->j<b->L.getD i 0<L.getD j 0
def OR(n a b:Nat)(L:List Int):Prop:=∀i j,i<j->j<n->(i<a\/b<=j)->L.getD i 0<L.getD j 0
theorem OR.perm{n a b:Nat}{L M:List Int}(h:OR n a b L)(k:PR a b L M)(hb:b<=n)(hn:n<=L.length):OR n a b M:=by
 intro i j hij hj hc;by_cases hi:a<=i/\i<b
 .have hbj:b<=j:=by omega
  rw[k.out j (by omega)];exact k.all (aV hb hn) (P:=λx=>x<L.getD j 0) (λp h1 h2=>h p j (by omega) hj (.inr hbj)) i hi.1 hi.2
 .rw [k.out i hi];by_cases hj2:a<=j/\j<b
  .exact k.all (aV hb hn) (P:=λx=>L.getD i 0<x) (λp h1 h2=>h i p (by omega) (by omega) (.inl (by omega))) j hj2.1 hj2.2
  .rw [k.out j hj2];exact h i j hij hj hc
theorem OR.done{n a b:Nat}{L:List Int}(h:OR n a b L)(k:SR a b L):SR 0 n L:=by
 intro i j _ hij hj;by_cases hc:i<a\/b<=j
 .exact h i j hij hj hc
 .exact k i j (by omega) hij (by omega)
structure Par(a b m:Nat)(L:List Int):Prop where
 lo:a<=m
 hi:m<b
 lt:∀i,a<=i->i<m->L.getD i 0<L.getD m 0
 gt:∀i,m<i->i<b->L.getD m 0<L.getD i 0
theorem Par.right{n a b m:Nat}{L M:List Int}(h:OR n a b L)(p:Par a b m L)(k:PR a m L M)(s:SR a m M)(hb:b<=n)(hn:n<=L.length):OR n (m+1) b M:=by
 have hm:=p.lo;have hm2:=p.hi;have hO:OR n a b M:=h.perm (k.mono (aN _) (Nat.le_of_lt hm2)) hb hn;have em:M.getD m 0=L.getD m 0:=k.out m (by omega);have hlt:∀i,a<=i->i<m->M.getD i 0<M.getD m 0:=by
  rw[em];exact k.all (by omega) (P:=λx=>x<L.getD m 0) p.lt
 have hgt:∀i,m<i->i<b->M.getD m 0<M.getD i 0:=λi h1 h2=>by rw[em,k.out i (by omega)]; exact p.gt i h1 h2
 intro i j hij hj hc;by_cases ho:i<a\/b<=j
 .exact hO i j hij hj ho
 .rcases hc with hc|hc
  .by_cases hi:i=m
   .grind
   .by_cases hjm:j<m
    .exact s i j (by omega) hij hjm
    grind
  omega
theorem Par.left{n a b m:Nat}{L M:List Int}(h:OR n a b L)(p:Par a b m L)(k:PR (m+1) b L M)(s:SR (m+1) b M)(hb:b<=n)(hn:n<=L.length):OR n a m M:=by
 have hm:=p.lo;have hm2:=p.hi;have hO:OR n a b M:=h.perm (k.mono (by omega) (aN _)) hb hn;have em:M.getD m 0=L.getD m 0:=k.out m (by omega);have hgt:∀i,m+1<=i->i<b->M.getD m 0<M.getD i 0:=by
  rw[em];exact k.all (by omega) (P:=λx=>L.getD m 0<x) λi h1 h2=>p.gt i (by omega) h2
 have hlt:∀i,a<=i->i<m->M.getD i 0<M.getD m 0:=λi h1 h2=>by rw[em,k.out i (by omega)]; exact p.lt i h1 h2
 intro i j hij hj hc;by_cases ho:i<a\/b<=j
 .exact hO i j hij hj ho
 .rcases hc with hc|hc
  .omega
  .by_cases hi:i=m
   .grind
   .by_cases him:m<i
    .exact s i j (by omega) hij (by omega)
    grind
end T50
end
section
set_option maxHeartbeats 10000000
open Go Go.Eng Go.Proofs A0 T1 T28 T29 T50
set_option maxRecDepth 100000
namespace T51
def arH(L:List Int):Nat×aL:=(0,.arr 5 1 L.length (lc bE 0 L))
def g184:List Nat:=[0,18,3,1,2,8,9]
def c184:aY :=
 .seq (.region g184 [(zo 8 (.move (cj 0))),(zo 9 (.move (cj 0)))]) (.seq (.seq (.drawn g184 (.pure 0 (mv 10 0) (.pure 1 (mv 11 2) (.pure 2 (zo 12 (.idxSl 1 (.s 10) (.s 11))) (.pure 3 (ld 13 12) (.pure 4 (mv 14 0) (.pure 5 (mv 15 1) (.pure 6 (zo 16 (.idxSl 1 (.s 14) (.s 15))) (.pure 7 (ld 17 16) (.pure 8 (zo 18 (.call (.c (.fn 167)) [.s 13,.s 17])) .done)))))))))) (.cond (.s 18) (.seq (.region g184 [(mv 19 3),(zo 20 (.nilCheck (.s 19))),(ld 21 20),(zo 22 (.bin (.add) (.s 21) (cj 1))),(zo 23 (.nilCheck (.s 19))),⟨none,none,.store 1 (.s 23) (.s 22),[]⟩]) (.seq (.region g184 [(mv 24 2),(mv 25 1),(mv 8 24),(mv 9 25)]) .ret)) .skip)) (.seq (.region g184 [(mv 26 1),(mv 27 2),(mv 8 26),(mv 9 27)]) .ret))
theorem e184:bO Tryz.prog 184 g184 [] [] []=some (c184,[.slot 8,.slot 9],28):=by kernel_rfl
def aFj:bC where
 X:=List Int×Nat×Nat×Int
 Y:=Nat×Nat×Int
 args:=λx=>.cons (.lsl 0 1 x.1.length) (.cons (.int .i64 (x.2.1:Int)) (.cons (.int .i64 (x.2.2.1:Int)) (.cons (.own 1 0) .nil)))
 pre:=λx=>(x.2.1<x.1.length/\x.2.2.1<x.1.length/\x.1.length<=24)/\0<=x.2.2.2/\x.2.2.2<=1000
 h0:=λx=>[arH x.1,(1,.cells 3 (.cons (.int .i64 x.2.2.2) .nil))]
 nx0:=2
 post:=λx y=>(x.1.getD x.2.2.1 0<x.1.getD x.2.1 0/\y=(x.2.2.1,x.2.1,x.2.2.2+1))\/(¬x.1.getD x.2.2.1 0<x.1.getD x.2.1 0/\y=(x.2.1,x.2.2.1,x.2.2.2))
 res:=λ_ y=>.tup (.cons (.int .i64 (y.1:Int)) (.cons (.int .i64 (y.2.1:Int)) .nil))
 h1:=λx y=>[arH x.1,(1,.cells 3 (.cons (.int .i64 y.2.2) .nil))]
 nx1:=2
theorem aCz:aFj.Ok Tryz.prog 184:=by
 refine Eng.bC.okR e184 .nil (λ_=>[(167,.p wC)]) (λ_ _=>aO.p qY aO.nil) ?_;rintro⟨L,i,j,s⟩ ⟨⟨(hi:i<L.length),(hj:j<L.length),(hn:L.length<=24)⟩,(hs0:0<=s),(hs1:s<=1000)⟩;refine⟨trivial,?_⟩;have a1:(0:Int)<=(i:Int):=by omega
 have a2:(i:Int)<(L.length:Int):=by omega
 have a3:(0:Int)<=(j:Int):=by omega
 have a4:(j:Int)<(L.length:Int):=by omega
 have a5:0+(i:Int).toNat<L.length:=by omega
 have a6:0+(j:Int).toNat<L.length:=by omega
 have s1:-9223372036854775808<=s+1:=by omega
 have s2:s+1<=9223372036854775807:=by omega
 have ei:(0+(i:Int).toNat)=i:=by omega
 have ej:(0+(j:Int).toNat)=j:=by omega
 repeat' (first|apply aA|exact trivial|exact rfl|(with_reducible first|exact a1|exact a2|exact a3|exact a4)|exact a5|exact a6)
 .refine λ(hc:decide (L.getD (0+(j:Int).toNat) 0<L.getD (0+(i:Int).toNat) 0)=true)=>?_;rw[ei,ej]at hc;repeat' (first|apply aA|(with_reducible first|exact s1|exact s2))
  refine aB (j,i,s+1) (aA (.inl ⟨of_decide_eq_true hc,rfl⟩) ?_);repeat' (first|apply aA|exact trivial|exact rfl|grind[cE,dC]|fail)
 .refine λ(hc:decide (L.getD (0+(j:Int).toNat) 0<L.getD (0+(i:Int).toNat) 0)=false)=>?_;rw[ei,ej]at hc;refine aB (i,j,s) (aA (.inr ⟨of_decide_eq_false hc,rfl⟩) ?_);repeat' (first|apply aA|exact trivial|exact rfl|grind[cE,dC]|fail)
def g180:List Nat:=[3,0,4,1,2,10]
def c180:aY :=
 .seq (.region g180 [(zo 10 (.move (cj 0)))]) (.seq (.region g180 [(mv 12 0),(mv 13 1),(mv 14 2),(mv 15 4),(zo 16 (.call (.c (.fn 184)) [.s 12,.s 13,.s 14,.s 15])),(mv 11 16),(zo 17 (.extract 0 (.s 11))),(zo 18 (.extract 1 (.s 11))),(mv 1 17),(mv 2 18)]) (.seq (.region g180 [(mv 20 0),(mv 21 2),(mv 22 3),(mv 23 4),(zo 24 (.call (.c (.fn 184)) [.s 20,.s 21,.s 22,.s 23])),(mv 19 24),(zo 25 (.extract 0 (.s 19))),(zo 26 (.extract 1 (.s 19))),(mv 2 25),(mv 3 26)]) (.seq (.region g180 [(mv 28 0),(mv 29 1),(mv 30 2),(mv 31 4),(zo 32 (.call (.c (.fn 184)) [.s 28,.s 29,.s 30,.s 31])),(mv 27 32),(zo 33 (.extract 0 (.s 27))),(zo 34 (.extract 1 (.s 27))),(mv 1 33),(mv 2 34)]) (.seq (.region g180 [(mv 35 2),(mv 10 35)]) .ret))))
theorem e180:bO Tryz.prog 180 g180 [] [] []=some (c180,[.slot 10],36):=by kernel_rfl
def aE8:bC where
 X:=List Int×Nat×Nat×Nat
 Y:=Nat×Int
 args:=λx=>.cons (.lsl 0 1 x.1.length) (.cons (.int .i64 (x.2.1:Int)) (.cons (.int .i64 (x.2.2.1:Int)) (.cons (.int .i64 (x.2.2.2:Int)) (.cons (.own 1 0) .nil))))
 pre:=λx=>(x.2.1<x.1.length/\x.2.2.1<x.1.length/\x.2.2.2<x.1.length/\x.1.length<=24)
 h0:=λx=>[arH x.1,(1,.cells 3 (.cons (.int .i64 0) .nil))]
 nx0:=2
 post:=λx y=>(0<=y.2/\y.2<=3)/\(∃p q,(p=x.2.1\/p=x.2.2.1\/p=x.2.2.2)/\(q=x.2.1\/q=x.2.2.1\/q=x.2.2.2)/\(y.1=x.2.1\/y.1=x.2.2.1\/y.1=x.2.2.2)/\(x.2.1≠x.2.2.1->x.2.1≠x.2.2.2->x.2.2.1≠x.2.2.2->p≠y.1/\q≠y.1)/\x.1.getD p 0<=x.1.getD y.1 0/\x.1.getD y.1 0<=x.1.getD q 0)
 res:=λ_ y=>.int .i64 (y.1:Int)
 h1:=λx y=>[arH x.1,(1,.cells 3 (.cons (.int .i64 y.2) .nil))]
 nx1:=2
theorem aCj:aE8.Ok Tryz.prog 180:=by
 refine Eng.bC.okR e180 .nil (λ_=>[(184,.m aFj)]) (λ_ _=>aO.m aCz aO.nil) ?_;rintro⟨L,i,j,k⟩ ⟨(hi:i<L.length),(hj:j<L.length),(hk:k<L.length),(hn:L.length<=24)⟩;refine⟨trivial,?_⟩;have p1:(i<L.length/\j<L.length/\L.length<=24)/\(0:Int)<=0/\(0:Int)<=1000:=by omega
 refine aB (L,i,j,0) (aB [0,1] ?_);repeat' (first|exact p1|apply aA|exact trivial|exact rfl|exact cE (λa=>dC _ _ _ a)|fail)
 refine λ(y:Nat×Nat×Int) (hy:(L.getD j 0<L.getD i 0/\y=(j,i,0+1))\/(¬L.getD j 0<L.getD i 0/\y=(i,j,0)))=>?_;obtain⟨i1,j1,s1⟩:=y;have q1:(i1<L.length/\j1<L.length)/\(0<=s1/\s1<=1)/\L.getD i1 0<=L.getD j1 0/\((i1=j/\j1=i)\/(i1=i/\j1=j)):=by
  grind
 clear hy;have p2:(j1<L.length/\k<L.length/\L.length<=24)/\(0:Int)<=s1/\s1<=1000:=by omega
 refine aB (L,j1,k,s1) (aB [0,1] ?_);repeat' (first|exact p2|apply aA|exact trivial|exact rfl|exact cE (λa=>dC _ _ _ a)|fail)
 refine λ(y:Nat×Nat×Int) (hy:(L.getD k 0<L.getD j1 0/\y=(k,j1,s1+1))\/(¬L.getD k 0<L.getD j1 0/\y=(j1,k,s1)))=>?_;obtain⟨j2,k2,s2⟩:=y;have q2:(j2<L.length/\k2<L.length)/\(0<=s2/\s2<=2)/\L.getD j2 0<=L.getD k2 0/\((j2=k/\k2=j1)\/(j2=j1/\k2=k))/\L.getD i1 0<=L.getD k2 0:=by
  grind
 clear hy;have p3:(i1<L.length/\j2<L.length/\L.length<=24)/\(0:Int)<=s2/\s2<=1000:=by omega
 refine aB (L,i1,j2,s2) (aB [0,1] ?_);repeat' (first|exact p3|apply aA|exact trivial|exact rfl|exact cE (λa=>dC _ _ _ a)|fail)
 refine λ(y:Nat×Nat×Int) (hy:(L.getD j2 0<L.getD i1 0/\y=(j2,i1,s2+1))\/(¬L.getD j2 0<L.getD i1 0/\y=(i1,j2,s2)))=>?_;obtain⟨i3,j3,s3⟩:=y;have q3:(0<=s3/\s3<=3)/\L.getD i3 0<=L.getD j3 0/\L.getD j3 0<=L.getD k2 0/\((i3=j2/\j3=i1)\/(i3=i1/\j3=j2)):=by
  grind
 clear hy;have hpost:(0<=s3/\s3<=3)/\(∃p q,(p=i\/p=j\/p=k)/\(q=i\/q=j\/q=k)/\(j3=i\/j3=j\/j3=k)/\(i≠j->i≠k->j≠k->p≠j3/\q≠j3)/\L.getD p 0<=L.getD j3 0/\L.getD j3 0<=L.getD q 0):=by
  refine⟨q3.1,i3,k2,by omega,by omega,by omega,by omega,q3.2.1,q3.2.2.1⟩
 refine aB (j3,s3) (aA hpost ?_);repeat' (first|apply aA|exact trivial|exact rfl|exact cE (λa=>dC _ _ _ a)|fail)
def g164:List Nat:=[2,1,32,8,34,0,10,12,9,51,49,54,11,6,7]
def c164:aY :=
 .seq (.region g164 [(zo 6 (.move (cj 0))),(zo 7 (.move (cj 0)))]) (.seq (.region g164 [(mv 13 2),(mv 14 1),(zo 15 (.bin (.sub) (.s 13) (.s 14))),(mv 8 15)]) (.seq (.region g164 [(zo 9 (.alloc 3 (.cons (.int .i64 0) .nil)))]) (.seq (.region g164 [(mv 16 1),(mv 17 8),(zo 18 (.bin (.quo) (.s 17) (cj 4))),(zo 19 (.bin (.mul) (.s 18) (cj 1))),(zo 20 (.bin (.add) (.s 16) (.s 19))),(mv 10 20)]) (.seq (.region g164 [(mv 21 1),(mv 22 8),(zo 23 (.bin (.quo) (.s 22) (cj 4))),(zo 24 (.bin (.mul) (.s 23) (cj 2))),(zo 25 (.bin (.add) (.s 21) (.s 24))),(mv 11 25)]) (.seq (.region g164 [(mv 26 1),(mv 27 8),(zo 28 (.bin (.quo) (.s 27) (cj 4))),(zo 29 (.bin (.mul) (.s 28) (cj 3))),(zo 30 (.bin (.add) (.s 26) (.s 29))),(mv 12 30)]) (.seq (.seq (.region g164 [(mv 31 8),(zo 32 (.bin (.geq) (.s 31) (cj 8)))]) (.cond (.s 32) (.seq (.seq (.region g164 [(mv 33 8),(zo 34 (.bin (.geq) (.s 33) (cj 50)))]) (.cond (.s 34) (.seq (.region g164 [(mv 35 0),(mv 36 10),(zo 37 (.call (.c (.fn 179)) [.s 35,.s 36,.s 9])),(mv 10 37)]) (.seq (.region g164 [(mv 38 0),(mv 39 11),(zo 40 (.call (.c (.fn 179)) [.s 38,.s 39,.s 9])),(mv 11 40)]) (.region g164 [(mv 41 0),(mv 42 12),(zo 43 (.call (.c (.fn 179)) [.s 41,.s 42,.s 9])),(mv 12 43)]))) .skip)) (.region g164 [(mv 44 0),(mv 45 10),(mv 46 11),(mv 47 12),(zo 48 (.call (.c (.fn 180)) [.s 44,.s 45,.s 46,.s 47,.s 9])),(mv 11 48)])) .skip)) (.seq (.region g164 [(ld 49 9)]) (.block 0 (.seq (.region g164 [(zo 52 (.bin (.eql) (.s 49) (cj 0))),(mv 51 52)]) (.cond (.s 51) (.seq (.region g164 [(mv 53 11),(mv 6 53),(zo 7 (.move (cj 1)))]) .ret) (.seq (.region g164 [(zo 55 (.bin (.eql) (.s 49) (cj 12))),(mv 54 55)]) (.cond (.s 54) (.seq (.region g164 [(mv 56 11),(mv 6 56),(zo 7 (.move (cj 2)))]) .ret) (.seq (.region g164 [(mv 50 11),(mv 6 50),(zo 7 (.move (cj 0)))]) .ret)))))))))))))
theorem e164:bO Tryz.prog 164 g164 [] [] []=some (c164,[.slot 6,.slot 7],57):=by kernel_rfl
def aD3:bC where
 X:=List Int×Nat×Nat
 Y:=Nat×Int
 args:=λx=>.cons (.lsl 0 1 x.1.length) (.cons (.int .i64 (x.2.1:Int)) (.cons (.int .i64 (x.2.2:Int)) .nil))
 pre:=λx=>x.2.2<=x.1.length/\x.1.length<=24/\x.2.1+13<=x.2.2
 h0:=λx=>[arH x.1]
 nx0:=1
 post:=λx y=>(x.2.1<=y.1/\y.1<x.2.2)/\(y.2=0\/y.2=1)/\∃p q,(x.2.1<=p/\p<x.2.2)/\(x.2.1<=q/\q<x.2.2)/\(p≠y.1/\q≠y.1)/\x.1.getD p 0<=x.1.getD y.1 0/\x.1.getD y.1 0<=x.1.getD q 0
 res:=λ_ y=>.tup (.cons (.int .i64 (y.1:Int)) (.cons (.int .i64 y.2) .nil))
 h1:=λx _=>[arH x.1]
 nx1:=1
theorem aAp:aD3.Ok Tryz.prog 164:=by
 refine Eng.bC.okR e164 .nil (λ_=>[(180,.m aE8)]) (λ_ _=>aO.m aCj aO.nil) ?_;rintro⟨L,a,b⟩ ⟨(hb:b<=L.length),(hn:L.length<=24),(hab:a+13<=b)⟩;refine⟨trivial,?_⟩;have hq:((b:Int)-(a:Int)).tdiv 4=(((b-a)/4:Nat):Int):=by
  grind
 have hq2:3<=(b-a)/4/\(b-a)/4<=6/\4*((b-a)/4)<=b-a:=by omega
 have c0:-9223372036854775808<=(b:Int)-(a:Int):=by omega
 have c1:(b:Int)-(a:Int)<=9223372036854775807:=by omega
 have c2:-9223372036854775808<=((b:Int)-(a:Int)).tdiv 4:=by omega
 have c3:((b:Int)-(a:Int)).tdiv 4<=9223372036854775807:=by omega
 have c4:-9223372036854775808<=((b:Int)-(a:Int)).tdiv 4*1:=by omega
 have c5:((b:Int)-(a:Int)).tdiv 4*1<=9223372036854775807:=by omega
 have c6:-9223372036854775808<=(a:Int)+((b:Int)-(a:Int)).tdiv 4*1:=by omega
 have c7:(a:Int)+((b:Int)-(a:Int)).tdiv 4*1<=9223372036854775807:=by omega
 have c8:-9223372036854775808<=((b:Int)-(a:Int)).tdiv 4*2:=by omega
 have c9:((b:Int)-(a:Int)).tdiv 4*2<=9223372036854775807:=by omega
 have c10:-9223372036854775808<=(a:Int)+((b:Int)-(a:Int)).tdiv 4*2:=by omega
 have c11:(a:Int)+((b:Int)-(a:Int)).tdiv 4*2<=9223372036854775807:=by omega
 have c12:-9223372036854775808<=((b:Int)-(a:Int)).tdiv 4*3:=by omega
 have c13:((b:Int)-(a:Int)).tdiv 4*3<=9223372036854775807:=by omega
 have c14:-9223372036854775808<=(a:Int)+((b:Int)-(a:Int)).tdiv 4*3:=by omega
 have c15:(a:Int)+((b:Int)-(a:Int)).tdiv 4*3<=9223372036854775807:=by omega
 have n4:(4:Int)≠0:=by decide
 have e1:(a:Int)+((b:Int)-(a:Int)).tdiv 4*1=((a+(b-a)/4:Nat):Int):=by omega
 have e2:(a:Int)+((b:Int)-(a:Int)).tdiv 4*2=((a+(b-a)/4*2:Nat):Int):=by omega
 have e3:(a:Int)+((b:Int)-(a:Int)).tdiv 4*3=((a+(b-a)/4*3:Nat):Int):=by omega
 repeat' (first|apply aA|(with_reducible first|exact c0|exact c1|exact c2|exact c3|exact c4|exact c5|exact c6|exact c7|exact c8|exact c9|exact c10|exact c11|exact c12|exact c13|exact c14|exact c15|exact n4))
 rotate_left
 .exact (by grind)
 refine λ(_:decide ((b:Int)-(a:Int)>=8)=true)=>?_;repeat' (first|refine aA ?_ ?_)
 .exact (by grind)
 refine λ(_:decide ((b:Int)-(a:Int)>=50)=false)=>?_;have p1:a+(b-a)/4<L.length/\a+(b-a)/4*2<L.length/\a+(b-a)/4*3<L.length/\L.length<=24:=by omega
 refine aB (L,a+(b-a)/4,a+(b-a)/4*2,a+(b-a)/4*3) (aB [0,1] ?_);repeat' (first|exact p1|apply aA|exact trivial|exact rfl|exact cE (λa=>dC _ _ _ a)|exact e1|exact e2|exact e3)
 refine λ(y:Nat×Int) (hy:(0<=y.2/\y.2<=3)/\(∃p q,(p=a+(b-a)/4\/p=a+(b-a)/4*2\/p=a+(b-a)/4*3)/\(q=a+(b-a)/4\/q=a+(b-a)/4*2\/q=a+(b-a)/4*3)/\(y.1=a+(b-a)/4\/y.1=a+(b-a)/4*2\/y.1=a+(b-a)/4*3)/\(a+(b-a)/4≠a+(b-a)/4*2->a+(b-a)/4≠a+(b-a)/4*3->a+(b-a)/4*2≠a+(b-a)/4*3->p≠y.1/\q≠y.1)/\L.getD p 0<=L.getD y.1 0/\L.getD y.1 0<=L.getD q 0))=>?_;obtain⟨v,s⟩:=y;obtain⟨⟨(hs0:0<=s),(hs3:s<=3)⟩,p,q,(hp:p=a+(b-a)/4\/p=a+(b-a)/4*2\/p=a+(b-a)/4*3),(hq1:q=a+(b-a)/4\/q=a+(b-a)/4*2\/q=a+(b-a)/4*3),(hv:v=a+(b-a)/4\/v=a+(b-a)/4*2\/v=a+(b-a)/4*3),hne,(h1:L.getD p 0<=L.getD v 0),(h2:L.getD v 0<=L.getD q 0)⟩:=hy;have hpost:(a<=v/\v<b)/\∃p q,(a<=p/\p<b)/\(a<=q/\q<b)/\(p≠v/\q≠v)/\L.getD p 0<=L.getD v 0/\L.getD v 0<=L.getD q 0 :=
  ⟨by omega,p,q,by omega,by omega,(by grind),h1,h2⟩
 repeat' (first|refine aA ?_ ?_)
 .refine λ(_:decide (s=0)=true)=>?_;refine aB (v,1) (aA ⟨hpost.1,.inr rfl,hpost.2⟩ ?_);repeat' (first|apply aA|exact trivial|exact rfl|exact cE (λa=>dC _ _ _ a)|fail)
 .refine λ(_:decide (s=0)=false)=>?_;repeat' (first|refine aA ?_ ?_)
  .exact (by grind)
  refine λ(_:decide (s=12)=false)=>?_;refine aB (v,0) (aA ⟨hpost.1,.inl rfl,hpost.2⟩ ?_);repeat' (first|apply aA|exact trivial|exact rfl|exact cE (λa=>dC _ _ _ a)|fail)
end T51
end
section
set_option maxHeartbeats 10000000
open Go Go.Eng Go.Proofs A0 T1 T28 T29 T50 T51
set_option maxRecDepth 100000
namespace T52
theorem gdI{x y:Int}{P:Prop}(h:x<=y->P):decide (x<=y)=true->P:=λk=>h (of_decide_eq_true k)
theorem xs1{M:List Int}{i j e f:Nat}(he:e=i)(hf:f=j)(hi:i<M.length)(p:Nat):(bif Nat.beq p e then SV.cons (.int .u8 (M.getD f 0)) .nil else lc bE 0 M p)=lc bE 0 (M.set i (M.getD j 0)) p:=by
 subst he hf;rw[Qp];unfold lc;by_cases h:p=e
 .subst h;rw[if_pos rfl];simp only[aK,kW,if_true,hi];rfl
 grind
theorem xs2{M:List Int}{i j e f:Nat}(he:e=i)(hf:f=j)(hi:i<M.length)(hj:j<M.length)(p:Nat):(bif Nat.beq p f then SV.cons (.int .u8 (M.getD e 0)) .nil else lc bE 0 (M.set i (M.getD j 0)) p)=lc bE 0 (xch M i j) p:=by
 subst he hf;rw[Qp];unfold lc;rw[tO hi hj];by_cases h:p=f
 .subst h;rw[if_pos rfl,if_pos rfl]; rfl
 grind
theorem xs3{K:Keep}{hp:List (Nat×aL)}{m n:Nat}{M:List Int}{i j e f:Nat}(he:e=i)(hf:f=j)(hi:i<M.length)(hj:j<M.length):∀p,p<n->lM K (sub K hp (m+3)) (bif Nat.beq p f then SV.cons (.int .u8 (M.getD e 0)) .nil else lc bE 0 (M.set i (M.getD j 0)) p) (lc bE 0 (xch M i j) p):=λp _=>by
 rw[xs2 he hf hi hj];exact Or.inl (dC _ _ _ _)
structure Mid(a b:Nat)(L:List Int)(v:Int)(M:List Int)(i j:Nat):Prop where
 pr:PR a b L M
 pv:M.getD a 0=v
 lt:∀p,a<p->p<i->M.getD p 0<v
 ge:∀p,j<p->p<b->¬M.getD p 0<v
 ai:a<i
 ij:i<=j+1
 jb:j<b
theorem Mid.up{a b:Nat}{L:List Int}{v:Int}{M:List Int}{i j:Nat}(h:Mid a b L v M i j)(hij:i<=j)(hc:M.getD i 0<v):Mid a b L v M (i+1) j :=
 ⟨h.pr,h.pv,λp h1 h2=>by
  by_cases e:p=i
  .grind
  .exact h.lt p h1 (by omega),h.ge,by have:=h.ai; omega,by omega,h.jb⟩
theorem Mid.down{a b:Nat}{L:List Int}{v:Int}{M:List Int}{i j:Nat}(h:Mid a b L v M i j)(hij:i<=j)(hc:¬M.getD j 0<v):Mid a b L v M i (j-1) :=
 ⟨h.pr,h.pv,h.lt,λp h1 h2=>by
  by_cases e:p=j
  .grind
  .exact h.ge p (by omega) h2,h.ai,by omega,by have:=h.jb; omega⟩
theorem Mid.swap{a b:Nat}{L:List Int}{v:Int}{M:List Int}{i j:Nat}(h:Mid a b L v M i j)(hb:b<=L.length)(hij:i<=j)(h1:¬M.getD i 0<v)(h2:M.getD j 0<v):Mid a b L v (xch M i j) (i+1) (j-1):=by
 have hl:=h.pr.len;have hai:=h.ai;have hjb:=h.jb;have hne:i≠j:=(by grind);have hg:∀p,(xch M i j).getD p 0=if p=j then M.getD i 0 else if p=i then M.getD j 0 else M.getD p 0:=(by grind[tO])
 refine⟨h.pr.xch ⟨by omega,by omega⟩ ⟨by omega,by omega⟩ (by omega),?_,λp k1 k2=>?_,λp k1 k2=>?_,by omega,by omega,by omega⟩
 .rw [hg,if_neg (by omega),if_neg (by omega)]; exact h.pv
 .rw [hg,if_neg (by omega)];by_cases e:p=i
  .omega
  .rw [if_neg e]; exact h.lt p k1 (by omega)
 .rw [hg];by_cases e:p=j
  .omega
  .rw [if_neg e,if_neg (by omega)]; exact h.ge p (by omega) k2
structure Fin(a b:Nat)(L:List Int)(v:Int)(m:Nat)(N:List Int):Prop where
 pr:PR a b L N
 lo:a<=m
 hi:m<b
 pv:N.getD m 0=v
 lt:∀p,a<=p->p<m->N.getD p 0<v
 ge:∀p,m<p->p<b->¬N.getD p 0<v
theorem Mid.fin{a b:Nat}{L:List Int}{v:Int}{M:List Int}{i j:Nat}(h:Mid a b L v M i j)(hb:b<=L.length)(hij:¬i<=j):Fin a b L v j (xch M j a):=by
 have hl:=h.pr.len;have hai:=h.ai;have hjb:=h.jb;have hij2:=h.ij;have hg:∀p,(xch M j a).getD p 0=if p=a then M.getD j 0 else if p=j then M.getD a 0 else M.getD p 0:=(by grind[tO])
 refine⟨h.pr.xch ⟨by omega,by omega⟩ ⟨by omega,by omega⟩ (by omega),by omega,hjb,?_,λp k1 k2=>?_,λp k1 k2=>?_⟩
 .rw [hg];by_cases e:j=a
  .rw [if_pos e,e]; exact h.pv
  .rw [if_neg e,if_pos rfl]; exact h.pv
 .rw [hg];by_cases e:p=a
  .rw [if_pos e]; exact h.lt j (by omega) (by omega)
  .rw [if_neg e,if_neg (by omega)]; exact h.lt p (by omega) (by omega)
 .rw [hg,if_neg (by omega),if_neg (by omega)]; exact h.ge p k1 k2
theorem mid0{a b q:Nat}{L:List Int}(hb:b<=L.length)(ha:a+1<b)(hq:a<=q/\q<b):Mid a b L (L.getD q 0) (xch L a q) (a+1) (b-1):=by
 have hg:∀p,(xch L a q).getD p 0=if p=q then L.getD a 0 else if p=a then L.getD q 0 else L.getD p 0:=(by grind[tO])
 refine⟨(PR.refl a b L).xch ⟨by omega,by omega⟩ hq (by omega),?_,(by grind),(by grind),by omega,by omega,by omega⟩
 grind
def g169:List Nat:=[3,2,43,60,65,112,129,134,10,1,0,11,8,9]
def c169:aY :=
 .seq (.region g169 [(zo 8 (.move (cj 0))),(zo 9 (.move cF))]) (.seq (.drawn g169 (.pure 0 (mv 12 0) (.pure 1 (mv 13 1) (.pure 2 (mv 14 0) (.pure 3 (mv 15 3) (.pure 4 (mv 16 0) (.pure 5 (mv 17 3) (.pure 6 (zo 18 (.idxSl 1 (.s 16) (.s 17))) (.pure 7 (ld 19 18) (.pure 8 (mv 20 0) (.pure 9 (mv 21 1) (.pure 10 (zo 22 (.idxSl 1 (.s 20) (.s 21))) (.pure 11 (ld 23 22) (.pure 12 (zo 24 (.idxSl 1 (.s 12) (.s 13))) (.eff 13 ⟨none,none,.store 1 (.s 24) (.s 19),[]⟩ [] (.pure 14 (zo 25 (.idxSl 1 (.s 14) (.s 15))) (.eff 15 ⟨none,none,.store 1 (.s 25) (.s 23),[]⟩ [] .done .none)) .none))))))))))))))) (.seq (.region g169 [(mv 26 1),(zo 27 (.bin (.add) (.s 26) (cj 1))),(mv 28 2),(zo 29 (.bin (.sub) (.s 28) (cj 1))),(mv 10 27),(mv 11 29)]) (.seq (.block 0 (.loop 0 [30,31,32,33,34,35,36,37,38,39,40,41,42,43,44,45,10] (.seq (.seq (.drawn g169 (.pure 0 (mv 30 10) (.pure 1 (mv 31 11) (.pure 2 (zo 32 (.bin (.leq) (.s 30) (.s 31))) (.pure 3 (mv 33 32) (.pure 4 (mg 34 33 true 0) (.pure 5 (mg 35 33 true 10) (.pure 6 (zg 36 33 true (.idxSl 1 (.s 34) (.s 35))) (.pure 7 (lg 37 33 true 36) (.pure 8 (mg 38 33 true 0) (.pure 9 (mg 39 33 true 1) (.pure 10 (zg 40 33 true (.idxSl 1 (.s 38) (.s 39))) (.pure 11 (lg 41 33 true 40) (.pure 12 (zg 42 33 true (.call (.c (.fn 167)) [.s 37,.s 41])) (.pure 13 (zo 43 (.pick (.s 33) (.s 42) cF)) .done))))))))))))))) (.cond (.s 43) .skip (.exit 0))) (.block 1 (.region g169 [(mv 44 10),(zo 45 (.bin (.add) (.s 44) (cj 1))),(mv 10 45)]))))) (.seq (.block 2 (.loop 1 [46,47,48,49,50,51,52,53,54,55,56,57,58,59,60,61,62,11] (.seq (.seq (.drawn g169 (.pure 0 (mv 46 10) (.pure 1 (mv 47 11) (.pure 2 (zo 48 (.bin (.leq) (.s 46) (.s 47))) (.pure 3 (mv 49 48) (.pure 4 (mg 50 49 true 0) (.pure 5 (mg 51 49 true 11) (.pure 6 (zg 52 49 true (.idxSl 1 (.s 50) (.s 51))) (.pure 7 (lg 53 49 true 52) (.pure 8 (mg 54 49 true 0) (.pure 9 (mg 55 49 true 1) (.pure 10 (zg 56 49 true (.idxSl 1 (.s 54) (.s 55))) (.pure 11 (lg 57 49 true 56) (.pure 12 (zg 58 49 true (.call (.c (.fn 167)) [.s 53,.s 57])) (.pure 13 (zg 59 49 true (.not (.s 58))) (.pure 14 (zo 60 (.pick (.s 49) (.s 59) cF)) .done)))))))))))))))) (.cond (.s 60) .skip (.exit 2))) (.block 3 (.region g169 [(mv 61 11),(zo 62 (.bin (.sub) (.s 61) (cj 1))),(mv 11 62)]))))) (.seq (.seq (.region g169 [(mv 63 10),(mv 64 11),(zo 65 (.bin (.gtr) (.s 63) (.s 64)))]) (.cond (.s 65) (.seq (.drawn g169 (.pure 0 (mv 66 0) (.pure 1 (mv 67 11) (.pure 2 (mv 68 0) (.pure 3 (mv 69 1) (.pure 4 (mv 70 0) (.pure 5 (mv 71 1) (.pure 6 (zo 72 (.idxSl 1 (.s 70) (.s 71))) (.pure 7 (ld 73 72) (.pure 8 (mv 74 0) (.pure 9 (mv 75 11) (.pure 10 (zo 76 (.idxSl 1 (.s 74) (.s 75))) (.pure 11 (ld 77 76) (.pure 12 (zo 78 (.idxSl 1 (.s 66) (.s 67))) (.eff 13 ⟨none,none,.store 1 (.s 78) (.s 73),[]⟩ [] (.pure 14 (zo 79 (.idxSl 1 (.s 68) (.s 69))) (.eff 15 ⟨none,none,.store 1 (.s 79) (.s 77),[]⟩ [] .done .none)) .none))))))))))))))) (.seq (.region g169 [(mv 80 11),(mv 8 80),(zo 9 (.move cT))]) .ret)) .skip)) (.seq (.drawn g169 (.pure 0 (mv 81 0) (.pure 1 (mv 82 10) (.pure 2 (mv 83 0) (.pure 3 (mv 84 11) (.pure 4 (mv 85 0) (.pure 5 (mv 86 11) (.pure 6 (zo 87 (.idxSl 1 (.s 85) (.s 86))) (.pure 7 (ld 88 87) (.pure 8 (mv 89 0) (.pure 9 (mv 90 10) (.pure 10 (zo 91 (.idxSl 1 (.s 89) (.s 90))) (.pure 11 (ld 92 91) (.pure 12 (zo 93 (.idxSl 1 (.s 81) (.s 82))) (.eff 13 ⟨none,none,.store 1 (.s 93) (.s 88),[]⟩ [] (.pure 14 (zo 94 (.idxSl 1 (.s 83) (.s 84))) (.eff 15 ⟨none,none,.store 1 (.s 94) (.s 92),[]⟩ [] .done .none)) .none))))))))))))))) (.seq (.region g169 [(mv 95 10),(zo 96 (.bin (.add) (.s 95) (cj 1))),(mv 10 96)]) (.seq (.region g169 [(mv 97 11),(zo 98 (.bin (.sub) (.s 97) (cj 1))),(mv 11 98)]) (.seq (.block 4 (.loop 2 [99,100,101,102,103,104,105,106,107,108,109,110,111,112,113,114,115,116,117,118,119,120,121,122,123,124,125,126,127,128,129,130,131,132,133,134,135,136,137,138,139,140,141,142,143,144,145,146,147,148,149,150,10,151,152,11] (.block 5 (.seq (.block 6 (.loop 3 [99,100,101,102,103,104,105,106,107,108,109,110,111,112,113,114,10] (.seq (.seq (.drawn g169 (.pure 0 (mv 99 10) (.pure 1 (mv 100 11) (.pure 2 (zo 101 (.bin (.leq) (.s 99) (.s 100))) (.pure 3 (mv 102 101) (.pure 4 (mg 103 102 true 0) (.pure 5 (mg 104 102 true 10) (.pure 6 (zg 105 102 true (.idxSl 1 (.s 103) (.s 104))) (.pure 7 (lg 106 102 true 105) (.pure 8 (mg 107 102 true 0) (.pure 9 (mg 108 102 true 1) (.pure 10 (zg 109 102 true (.idxSl 1 (.s 107) (.s 108))) (.pure 11 (lg 110 102 true 109) (.pure 12 (zg 111 102 true (.call (.c (.fn 167)) [.s 106,.s 110])) (.pure 13 (zo 112 (.pick (.s 102) (.s 111) cF)) .done))))))))))))))) (.cond (.s 112) .skip (.exit 6))) (.block 7 (.region g169 [(mv 113 10),(zo 114 (.bin (.add) (.s 113) (cj 1))),(mv 10 114)]))))) (.seq (.block 8 (.loop 4 [115,116,117,118,119,120,121,122,123,124,125,126,127,128,129,130,131,11] (.seq (.seq (.drawn g169 (.pure 0 (mv 115 10) (.pure 1 (mv 116 11) (.pure 2 (zo 117 (.bin (.leq) (.s 115) (.s 116))) (.pure 3 (mv 118 117) (.pure 4 (mg 119 118 true 0) (.pure 5 (mg 120 118 true 11) (.pure 6 (zg 121 118 true (.idxSl 1 (.s 119) (.s 120))) (.pure 7 (lg 122 118 true 121) (.pure 8 (mg 123 118 true 0) (.pure 9 (mg 124 118 true 1) (.pure 10 (zg 125 118 true (.idxSl 1 (.s 123) (.s 124))) (.pure 11 (lg 126 118 true 125) (.pure 12 (zg 127 118 true (.call (.c (.fn 167)) [.s 122,.s 126])) (.pure 13 (zg 128 118 true (.not (.s 127))) (.pure 14 (zo 129 (.pick (.s 118) (.s 128) cF)) .done)))))))))))))))) (.cond (.s 129) .skip (.exit 8))) (.block 9 (.region g169 [(mv 130 11),(zo 131 (.bin (.sub) (.s 130) (cj 1))),(mv 11 131)]))))) (.seq (.seq (.region g169 [(mv 132 10),(mv 133 11),(zo 134 (.bin (.gtr) (.s 132) (.s 133)))]) (.cond (.s 134) (.exit 4) .skip)) (.seq (.drawn g169 (.pure 0 (mv 135 0) (.pure 1 (mv 136 10) (.pure 2 (mv 137 0) (.pure 3 (mv 138 11) (.pure 4 (mv 139 0) (.pure 5 (mv 140 11) (.pure 6 (zo 141 (.idxSl 1 (.s 139) (.s 140))) (.pure 7 (ld 142 141) (.pure 8 (mv 143 0) (.pure 9 (mv 144 10) (.pure 10 (zo 145 (.idxSl 1 (.s 143) (.s 144))) (.pure 11 (ld 146 145) (.pure 12 (zo 147 (.idxSl 1 (.s 135) (.s 136))) (.eff 13 ⟨none,none,.store 1 (.s 147) (.s 142),[]⟩ [] (.pure 14 (zo 148 (.idxSl 1 (.s 137) (.s 138))) (.eff 15 ⟨none,none,.store 1 (.s 148) (.s 146),[]⟩ [] .done .none)) .none))))))))))))))) (.seq (.region g169 [(mv 149 10),(zo 150 (.bin (.add) (.s 149) (cj 1))),(mv 10 150)]) (.region g169 [(mv 151 11),(zo 152 (.bin (.sub) (.s 151) (cj 1))),(mv 11 152)]))))))))) (.seq (.drawn g169 (.pure 0 (mv 153 0) (.pure 1 (mv 154 11) (.pure 2 (mv 155 0) (.pure 3 (mv 156 1) (.pure 4 (mv 157 0) (.pure 5 (mv 158 1) (.pure 6 (zo 159 (.idxSl 1 (.s 157) (.s 158))) (.pure 7 (ld 160 159) (.pure 8 (mv 161 0) (.pure 9 (mv 162 11) (.pure 10 (zo 163 (.idxSl 1 (.s 161) (.s 162))) (.pure 11 (ld 164 163) (.pure 12 (zo 165 (.idxSl 1 (.s 153) (.s 154))) (.eff 13 ⟨none,none,.store 1 (.s 165) (.s 160),[]⟩ [] (.pure 14 (zo 166 (.idxSl 1 (.s 155) (.s 156))) (.eff 15 ⟨none,none,.store 1 (.s 166) (.s 164),[]⟩ [] .done .none)) .none))))))))))))))) (.seq (.region g169 [(mv 167 11),(mv 8 167),(zo 9 (.move cF))]) .ret)))))))))))
theorem e169:bO Tryz.prog 169 g169 [] [] []=some (c169,[.slot 8,.slot 9],168):=by kernel_rfl
def aFm:bC where
 X:=List Int×Nat×Nat×Nat
 Y:=Nat×Bool×List Int
 args:=λx=>.cons (.lsl 0 1 x.1.length) (.cons (.int .i64 (x.2.1:Int)) (.cons (.int .i64 (x.2.2.1:Int)) (.cons (.int .i64 (x.2.2.2:Int)) .nil)))
 pre:=λx=>(x.2.2.1<=x.1.length/\x.1.length<=24/\x.2.1+1<x.2.2.1)/\x.2.1<=x.2.2.2/\x.2.2.2<x.2.2.1
 h0:=λx=>[arH x.1]
 nx0:=1
 post:=λx y=>Fin x.2.1 x.2.2.1 x.1 (x.1.getD x.2.2.2 0) y.1 y.2.2
 res:=λ_ y=>.tup (.cons (.int .i64 (y.1:Int)) (.cons (.bool y.2.1) .nil))
 h1:=λx y=>[(0,.arr 5 1 x.1.length (lc bE 0 y.2.2))]
 nx1:=1
theorem aC3:aFm.Ok Tryz.prog 169:=by
 refine Eng.bC.okR e169 .nil (λ_=>[(167,.p wC)]) (λ_ _=>aO.p qY aO.nil) ?_;rintro⟨L,a,b,q⟩ ⟨⟨(hb:b<=L.length),(hn:L.length<=24),(hab:a+1<b)⟩,(hq1:a<=q),(hq2:q<b)⟩;refine⟨trivial,?_⟩;have a1:(0:Int)<=(a:Int):=by omega
 have a2:(a:Int)<(L.length:Int):=by omega
 have a3:0+(a:Int).toNat<L.length:=by omega
 have q1:(0:Int)<=(q:Int):=by omega
 have q2:(q:Int)<(L.length:Int):=by omega
 have q3:0+(q:Int).toNat<L.length:=by omega
 have ea:0+(a:Int).toNat=a:=by omega
 have eq:0+(q:Int).toNat=q:=by omega
 have hal:a<L.length:=by omega
 have hql:q<L.length:=by omega
 have b1:-9223372036854775808<=(a:Int)+1:=by omega
 have b2:(a:Int)+1<=9223372036854775807:=by omega
 have b3:-9223372036854775808<=(b:Int)-1:=by omega
 have b4:(b:Int)-1<=9223372036854775807:=by omega
 repeat' (first|apply aA|exact trivial|(with_reducible first|exact a1|exact a2)|exact a3|(with_reducible first|exact q1|exact q2)|exact q3)
 refine ext0 (enc':=λp=>lc bE 0 (L.set a (L.getD q 0)) p) (xs1 ea eq hal) ?_;repeat' (first|apply aA|exact trivial|exact q3|(with_reducible first|exact b1|exact b2|exact b3|exact b4))
 have hm0:=mid0 (q:=q) hb hab ⟨hq1,hq2⟩;obtain⟨M0,hM0⟩:∃M,xch L a q=M:=⟨_,rfl⟩;obtain⟨v,hv⟩:∃v,L.getD q 0=v:=⟨_,rfl⟩;rw[hM0,hv]at hm0;have e11:(b:Int)-1=((b-1:Nat):Int):=by omega
 refine⟨⟨Nat,λi=>Mid a b L v M0 i (b-1),λi=>[(10,.int .i64 (i:Int)),(11,.int .i64 ((b-1:Nat):Int))],λ_=>[(0,.arr 5 1 L.length (lc bE 0 M0))],λi=>b-i⟩,a+1,hm0,?_,?_⟩
 .repeat' (first|apply aA|exact trivial|exact rfl|exact e11|(rw[<- hM0]; exact xs3 ea eq hal hql)|fail)
 rintro(i:Nat) (hm:Mid a b L v M0 i (b-1));have hl0:M0.length=L.length:=hm.pr.len;have hai:=hm.ai;have hij:=hm.ij;have i1:(0:Int)<=(i:Int):=by omega
 have i2:(i:Int)<=((b-1:Nat):Int)->(i:Int)<(L.length:Int):=by omega
 have i3:(i:Int)<=((b-1:Nat):Int)->0+(i:Int).toNat<L.length:=by omega
 have ei:0+(i:Int).toNat=i:=by omega
 repeat' (first|apply aA|exact trivial|exact rfl|refine gdI λhp=>?_|(with_reducible first|exact a1|exact a2)|exact a3|with_reducible exact i1|with_reducible exact i2 hp|exact i3 hp|fail)
 .refine λ(hz:bN _ _ _ _ _=true)=>?_;rw[bW,aI,decide_eq_true_iff,decide_eq_true_iff,ei,ea,hm.pv]at hz;have hz1:i<=b-1:=by omega
  have hm2:=hm.up hz1 hz.2;have j1:-9223372036854775808<=(i:Int)+1:=by omega
  have j2:(i:Int)+1<=9223372036854775807:=by omega
  have j3:b-(i+1)<b-i:=by omega
  repeat' (first|apply aA|(with_reducible first|exact j1|exact j2))
  refine aB (i+1) (aA hm2 (aA ?_ j3));repeat' (first|apply aA|exact trivial|exact rfl|grind[cE,dC]|fail)
 refine λ(hz:bN _ _ _ _ _=false)=>?_;have hA:i<=b-1->¬M0.getD i 0<v:=λh1 h2=>by
  rw[bW,ei,ea,hm.pv,decide_eq_true (show(i:Int)<=((b-1:Nat):Int) by omega),decide_eq_true h2]at hz;cases hz
 clear hz;refine⟨⟨Nat,λj=>Mid a b L v M0 i j/\(i<=j->¬M0.getD i 0<v),λj=>[(11,.int .i64 (j:Int))],λ_=>[(0,.arr 5 1 L.length (lc bE 0 M0))],λj=>j⟩,b-1,⟨hm,hA⟩,?_,?_⟩
 .repeat' (first|apply aA|exact trivial|exact rfl|grind[cE,dC]|fail)
 clear hA hm;rintro(j:Nat) ⟨(hm:Mid a b L v M0 i j),(hA:i<=j->¬M0.getD i 0<v)⟩;have hij2:=hm.ij;have hjb:=hm.jb;have j1:(0:Int)<=(j:Int):=by omega
 have j2:(j:Int)<(L.length:Int):=by omega
 have j3:0+(j:Int).toNat<L.length:=by omega
 have ej:0+(j:Int).toNat=j:=by omega
 repeat' (first|apply aA|exact trivial|exact rfl|refine gdI λhp=>?_|(with_reducible first|exact a1|exact a2)|exact a3|(with_reducible first|exact j1|exact j2)|exact j3)
 .refine λ(hz:bN _ _ _ _ _=true)=>?_;rw[bW,aI,decide_eq_true_iff,bL,decide_eq_false_iff_not,ej,ea,hm.pv]at hz;have hz1:i<=j:=by omega
  have hm2:=hm.down hz1 hz.2;have hA2:i<=j-1->¬M0.getD i 0<v:=(by grind);have k1:-9223372036854775808<=(j:Int)-1:=by omega
  have k2:(j:Int)-1<=9223372036854775807:=by omega
  have k3:j-1<j:=by omega
  have k4:(j:Int)-1=((j-1:Nat):Int):=by omega
  repeat' (first|apply aA|(with_reducible first|exact k1|exact k2))
  refine aB (j-1) (aA ⟨hm2,hA2⟩ (aA ?_ k3));repeat' (first|apply aA|exact trivial|exact rfl|grind[cE,dC]|fail)
 refine λ(hz:bN _ _ _ _ _=false)=>?_;have hB:i<=j->M0.getD j 0<v:=λh1=>by
  rw[bW,ej,ea,hm.pv,decide_eq_true (show(i:Int)<=(j:Int) by omega),jD,jY,decide_eq_true_iff]at hz;exact hz
 clear hz;have hjl:j<M0.length:=by omega
 have hal2:a<M0.length:=by omega
 repeat' (first|refine aA ?_ ?_)
 .refine λ(hz:decide ((i:Int)>(j:Int))=true)=>?_;have hgt:=of_decide_eq_true hz;have hf:=hm.fin hb (by omega);repeat' (first|apply aA|exact trivial|(with_reducible first|exact a1|exact a2)|exact a3|(with_reducible first|exact j1|exact j2)|exact j3)
  refine ext0 (enc':=λp=>lc bE 0 (M0.set j (M0.getD a 0)) p) (xs1 ej ea hjl) ?_;repeat' (first|apply aA|exact trivial|exact a3)
  refine aB (j,true,xch M0 j a) (aA (show Fin a b L (L.getD q 0) j (xch M0 j a) by rw[hv]; exact hf) ?_);repeat' (first|apply aA|exact trivial|exact rfl|exact xs3 ej ea hjl hal2|fail)
 refine λ(hz:decide ((i:Int)>(j:Int))=false)=>?_;have hle:i<=j:=by grind
 have i4:(i:Int)<(L.length:Int):=by omega
 have i5:0+(i:Int).toNat<L.length:=by omega
 have hil:i<M0.length:=by omega
 have hms:=hm.swap hb hle (hA hle) (hB hle);repeat' (first|apply aA|exact trivial|(with_reducible first|exact j1|exact j2)|exact j3|(with_reducible first|exact i1|exact i4)|exact i5)
 refine ext0 (enc':=λp=>lc bE 0 (M0.set i (M0.getD j 0)) p) (xs1 ei ej hil) ?_;have u1:-9223372036854775808<=(i:Int)+1:=by omega
 have u2:(i:Int)+1<=9223372036854775807:=by omega
 have u3:-9223372036854775808<=(j:Int)-1:=by omega
 have u4:(j:Int)-1<=9223372036854775807:=by omega
 have u5:(j:Int)-1=((j-1:Nat):Int):=by omega
 repeat' (first|apply aA|exact trivial|exact j3|(with_reducible first|exact u1|exact u2|exact u3|exact u4))
 refine⟨⟨Nat×Nat×List Int,λx=>Mid a b L v x.2.2 x.1 x.2.1,λx=>[(10,.int .i64 (x.1:Int)),(11,.int .i64 (x.2.1:Int))],λx=>[(0,.arr 5 1 L.length (lc bE 0 x.2.2))],λx=>x.2.1+1-x.1⟩,(i+1,j-1,xch M0 i j),hms,?_,?_⟩
 .repeat' (first|apply aA|exact trivial|exact rfl|exact u5|exact xs3 ei ej hil hjl|fail)
 clear hms u1 u2 u3 u4 u5 hil i4 i5 hle hz hB hA hjl hal2 ej j1 j2 j3 hij2 hjb hm hai hij i1 i2 i3 ei;rintro⟨i,j,M⟩ (hm:Mid a b L v M i j);have hMl:M.length=L.length:=hm.pr.len;refine⟨⟨Nat,λx=>Mid a b L v M x j/\i<=x,λx=>[(10,.int .i64 (x:Int)),(11,.int .i64 (j:Int))],λ_=>[(0,.arr 5 1 L.length (lc bE 0 M))],λx=>b-x⟩,i,⟨hm,aN _⟩,?_,?_⟩
 .repeat' (first|apply aA|exact trivial|exact rfl|grind[cE,dC]|fail)
 rintro(x:Nat) ⟨(hx:Mid a b L v M x j),(hix:i<=x)⟩;have hxa:=hx.ai;have hxj:=hx.ij;have hjb:=hx.jb;have i1:(0:Int)<=(x:Int):=by omega
 have i2:(x:Int)<=(j:Int)->(x:Int)<(L.length:Int):=by omega
 have i3:(x:Int)<=(j:Int)->0+(x:Int).toNat<L.length:=by omega
 have ei:0+(x:Int).toNat=x:=by omega
 repeat' (first|apply aA|exact trivial|exact rfl|refine gdI λhp=>?_|(with_reducible first|exact a1|exact a2)|exact a3|with_reducible exact i1|with_reducible exact i2 hp|exact i3 hp|fail)
 .refine λ(hz:bN _ _ _ _ _=true)=>?_;rw[bW,aI,decide_eq_true_iff,decide_eq_true_iff,ei,ea,hx.pv]at hz;have hz1:x<=j:=by omega
  have hm2:=hx.up hz1 hz.2;have j1:-9223372036854775808<=(x:Int)+1:=by omega
  have j2:(x:Int)+1<=9223372036854775807:=by omega
  have j3:b-(x+1)<b-x:=by omega
  repeat' (first|apply aA|(with_reducible first|exact j1|exact j2))
  refine aB (x+1) (aA ⟨hm2,Nat.le_succ_of_le hix⟩ (aA ?_ j3));repeat' (first|apply aA|exact trivial|exact rfl|grind[cE,dC]|fail)
 refine λ(hz:bN _ _ _ _ _=false)=>?_;have hA:x<=j->¬M.getD x 0<v:=λh1 h2=>by
  rw[bW,ei,ea,hx.pv,decide_eq_true (show(x:Int)<=(j:Int) by omega),decide_eq_true h2]at hz;cases hz
 clear hz;refine⟨⟨Nat,λy=>Mid a b L v M x y/\(x<=y->¬M.getD x 0<v)/\y<=j,λy=>[(10,.int .i64 (x:Int)),(11,.int .i64 (y:Int))],λ_=>[(0,.arr 5 1 L.length (lc bE 0 M))],λy=>y⟩,j,⟨hx,hA,aN _⟩,?_,?_⟩
 .repeat' (first|apply aA|exact trivial|exact rfl|grind[cE,dC]|fail)
 clear hA hx hxj hjb i2 i3;rintro(y:Nat) ⟨(hm2:Mid a b L v M x y),(hA:x<=y->¬M.getD x 0<v),(hyj:y<=j)⟩;have hxy:=hm2.ij;have hyb:=hm2.jb;have j1:(0:Int)<=(y:Int):=by omega
 have j2:(y:Int)<(L.length:Int):=by omega
 have j3:0+(y:Int).toNat<L.length:=by omega
 have ej:0+(y:Int).toNat=y:=by omega
 repeat' (first|apply aA|exact trivial|exact rfl|refine gdI λhp=>?_|(with_reducible first|exact a1|exact a2)|exact a3|(with_reducible first|exact j1|exact j2)|exact j3)
 .refine λ(hz:bN _ _ _ _ _=true)=>?_;rw[bW,aI,decide_eq_true_iff,bL,decide_eq_false_iff_not,ej,ea,hm2.pv]at hz;have hz1:x<=y:=by omega
  have hm3:=hm2.down hz1 hz.2;have hA2:x<=y-1->¬M.getD x 0<v:=(by grind);have k1:-9223372036854775808<=(y:Int)-1:=by omega
  have k2:(y:Int)-1<=9223372036854775807:=by omega
  have k3:y-1<y:=by omega
  have k4:(y:Int)-1=((y-1:Nat):Int):=by omega
  have k5:y-1<=j:=by omega
  repeat' (first|apply aA|(with_reducible first|exact k1|exact k2))
  refine aB (y-1) (aA ⟨hm3,hA2,k5⟩ (aA ?_ k3));repeat' (first|apply aA|exact trivial|exact rfl|grind[cE,dC]|fail)
 refine λ(hz:bN _ _ _ _ _=false)=>?_;have hB:x<=y->M.getD y 0<v:=λh1=>by
  rw[bW,ej,ea,hm2.pv,decide_eq_true (show(x:Int)<=(y:Int) by omega),jD,jY,decide_eq_true_iff]at hz;exact hz
 clear hz;have hjl:y<M.length:=by omega
 have hal2:a<M.length:=by omega
 repeat' (first|refine aA ?_ ?_)
 .refine λ(hz:decide ((x:Int)>(y:Int))=true)=>?_;have hgt:=of_decide_eq_true hz;have hf:=hm2.fin hb (by omega);repeat' (first|apply aA|exact trivial|(with_reducible first|exact a1|exact a2)|exact a3|(with_reducible first|exact j1|exact j2)|exact j3)
  refine ext0 (enc':=λp=>lc bE 0 (M.set y (M.getD a 0)) p) (xs1 ej ea hjl) ?_;repeat' (first|apply aA|exact trivial|exact a3)
  refine aB (y,false,xch M y a) (aA (show Fin a b L (L.getD q 0) y (xch M y a) by rw[hv]; exact hf) ?_);repeat' (first|apply aA|exact trivial|exact rfl|exact xs3 ej ea hjl hal2|fail)
 refine λ(hz:decide ((x:Int)>(y:Int))=false)=>?_;have hle:x<=y:=by grind
 have i4:(x:Int)<(L.length:Int):=by omega
 have i5:0+(x:Int).toNat<L.length:=by omega
 have hil:x<M.length:=by omega
 have hms:=hm2.swap hb hle (hA hle) (hB hle);repeat' (first|apply aA|exact trivial|(with_reducible first|exact j1|exact j2)|exact j3|(with_reducible first|exact i1|exact i4)|exact i5)
 refine ext0 (enc':=λp=>lc bE 0 (M.set x (M.getD y 0)) p) (xs1 ei ej hil) ?_;have u1:-9223372036854775808<=(x:Int)+1:=by omega
 have u2:(x:Int)+1<=9223372036854775807:=by omega
 have u3:-9223372036854775808<=(y:Int)-1:=by omega
 have u4:(y:Int)-1<=9223372036854775807:=by omega
 have u5:(y:Int)-1=((y-1:Nat):Int):=by omega
 have u6:y-1+1-(x+1)<j+1-i:=by omega
 repeat' (first|apply aA|exact trivial|exact j3|(with_reducible first|exact u1|exact u2|exact u3|exact u4))
 refine aB (x+1,y-1,xch M x y) (aA hms (aA ?_ u6));repeat' (first|apply aA|exact trivial|exact rfl|exact u5|exact xs3 ei ej hil hjl|fail)
end T52
end
