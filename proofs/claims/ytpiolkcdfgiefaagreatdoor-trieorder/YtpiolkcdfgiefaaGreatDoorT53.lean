/- A part of the proof. -/
import Derived.Test.YtpiolkcdfgiefaaGreatDoorT50
section
open Go Go.Eng Go.Proofs A0 T1 T28 T29 T50
set_option maxRecDepth 100000
namespace T51
def arH (L:List Int):Nat×aT:=(0,.arr 5 1 L.length (lc bE 0 L))
def g184:List Nat:=[0,18,3,1,2,8,9]
def c184:bH :=
 .seq (.region g184 [(zo 8 (.move (cj 0))),(zo 9 (.move (cj 0)))]) (.seq (.seq (.drawn g184 (.pure 0 (mv 10 0) (.pure 1 (mv 11 2) (.pure 2 (zo 12 (.idxSl 1 (.s 10) (.s 11))) (.pure 3 (ld 13 12) (.pure 4 (mv 14 0) (.pure 5 (mv 15 1) (.pure 6 (zo 16 (.idxSl 1 (.s 14) (.s 15))) (.pure 7 (ld 17 16) (.pure 8 (zo 18 (.call (.c (.fn 167)) [.s 13,.s 17])) .done)))))))))) (.cond (.s 18) (.seq (.region g184 [(mv 19 3),(zo 20 (.nilCheck (.s 19))),(ld 21 20),(zo 22 (.bin (.add) (.s 21) (cj 1))),(zo 23 (.nilCheck (.s 19))),⟨none,none,.store 1 (.s 23) (.s 22),[]⟩]) (.seq (.region g184 [(mv 24 2),(mv 25 1),(mv 8 24),(mv 9 25)]) .ret)) .skip)) (.seq (.region g184 [(mv 26 1),(mv 27 2),(mv 8 26),(mv 9 27)]) .ret))
theorem e184:cR Tryz.prog 184 g184 [] [] []=some (c184,[.slot 8,.slot 9],28):=by kernel_rfl
def Vb:bU where
 X:=List Int×Nat×Nat×Int
 Y:=Nat×Nat×Int
 args:=fun x=>.cons (.lsl 0 1 x.1.length) (.cons (.int .i64 (x.2.1:Int)) (.cons (.int .i64 (x.2.2.1:Int)) (.cons (.own 1 0) .nil)))
 pre:=fun x=>(x.2.1 < x.1.length/\x.2.2.1 < x.1.length/\x.1.length<=24)/\0<=x.2.2.2/\x.2.2.2<=1000
 h0:=fun x=>[arH x.1,(1,.cells 3 (.cons (.int .i64 x.2.2.2) .nil))]
 nx0:=2
 post:=fun x y=>(x.1.getD x.2.2.1 0 < x.1.getD x.2.1 0/\y=(x.2.2.1,x.2.1,x.2.2.2+1))\/(¬ x.1.getD x.2.2.1 0 < x.1.getD x.2.1 0/\y=(x.2.1,x.2.2.1,x.2.2.2))
 res:=fun _ y=>.tup (.cons (.int .i64 (y.1:Int)) (.cons (.int .i64 (y.2.1:Int)) .nil))
 h1:=fun x y=>[arH x.1,(1,.cells 3 (.cons (.int .i64 y.2.2) .nil))]
 nx1:=2
theorem Ka:Vb.Ok Tryz.prog 184:=by
 refine Eng.bU.okR e184 .nil (fun _=>[(167,.p wR)]) (fun _ _=>aZ.p rS aZ.nil) ?_;rintro ⟨L,i,j,s⟩ ⟨⟨(hi:i < L.length),(hj:j < L.length),(hn:L.length<=24)⟩,(hs0:0<=s),(hs1:s<=1000)⟩;refine ⟨trivial,?_⟩;have a1:(0:Int)<=(i:Int):=by omega
 have a2:(i:Int) < (L.length:Int):=by omega
 have a3:(0:Int)<=(j:Int):=by omega
 have a4:(j:Int) < (L.length:Int):=by omega
 have a5:0+(i:Int).toNat < L.length:=by omega
 have a6:0+(j:Int).toNat < L.length:=by omega
 have s1:-9223372036854775808<=s+1:=by omega
 have s2:s+1<=9223372036854775807:=by omega
 have ei:(0+(i:Int).toNat)=i:=by omega
 have ej:(0+(j:Int).toNat)=j:=by omega
 repeat' (first|apply aA|exact trivial|exact rfl|(with_reducible first|exact a1|exact a2|exact a3|exact a4)|exact a5|exact a6)
 ·refine fun (hc:decide (L.getD (0+(j:Int).toNat) 0 < L.getD (0+(i:Int).toNat) 0)=true)=>?_;rw [ei,ej] at hc;repeat' (first|apply aA|(with_reducible first|exact s1|exact s2))
  refine aB (j,i,s+1) (aA (.inl ⟨of_decide_eq_true hc,rfl⟩) ?_);repeat' (first|apply aA|exact trivial|exact rfl|exact dC (fun a=>dV _ _ _ a)|fail)
 ·refine fun (hc:decide (L.getD (0+(j:Int).toNat) 0 < L.getD (0+(i:Int).toNat) 0)=false)=>?_;rw [ei,ej] at hc;refine aB (i,j,s) (aA (.inr ⟨of_decide_eq_false hc,rfl⟩) ?_);repeat' (first|apply aA|exact trivial|exact rfl|exact dC (fun a=>dV _ _ _ a)|fail)
def g180:List Nat:=[3,0,4,1,2,10]
def c180:bH :=
 .seq (.region g180 [(zo 10 (.move (cj 0)))]) (.seq (.region g180 [(mv 12 0),(mv 13 1),(mv 14 2),(mv 15 4),(zo 16 (.call (.c (.fn 184)) [.s 12,.s 13,.s 14,.s 15])),(mv 11 16),(zo 17 (.extract 0 (.s 11))),(zo 18 (.extract 1 (.s 11))),(mv 1 17),(mv 2 18)]) (.seq (.region g180 [(mv 20 0),(mv 21 2),(mv 22 3),(mv 23 4),(zo 24 (.call (.c (.fn 184)) [.s 20,.s 21,.s 22,.s 23])),(mv 19 24),(zo 25 (.extract 0 (.s 19))),(zo 26 (.extract 1 (.s 19))),(mv 2 25),(mv 3 26)]) (.seq (.region g180 [(mv 28 0),(mv 29 1),(mv 30 2),(mv 31 4),(zo 32 (.call (.c (.fn 184)) [.s 28,.s 29,.s 30,.s 31])),(mv 27 32),(zo 33 (.extract 0 (.s 27))),(zo 34 (.extract 1 (.s 27))),(mv 1 33),(mv 2 34)]) (.seq (.region g180 [(mv 35 2),(mv 10 35)]) .ret))))
theorem e180:cR Tryz.prog 180 g180 [] [] []=some (c180,[.slot 10],36):=by kernel_rfl
def aA3:bU where
 X:=List Int×Nat×Nat×Nat
 Y:=Nat×Int
 args:=fun x=>.cons (.lsl 0 1 x.1.length) (.cons (.int .i64 (x.2.1:Int)) (.cons (.int .i64 (x.2.2.1:Int)) (.cons (.int .i64 (x.2.2.2:Int)) (.cons (.own 1 0) .nil))))
 pre:=fun x=>(x.2.1 < x.1.length/\x.2.2.1 < x.1.length/\x.2.2.2 < x.1.length/\x.1.length<=24)
 h0:=fun x=>[arH x.1,(1,.cells 3 (.cons (.int .i64 0) .nil))]
 nx0:=2
 post:=fun x y=>(0<=y.2/\y.2<=3)/\(∃ p q,(p=x.2.1\/p=x.2.2.1\/p=x.2.2.2)/\(q=x.2.1\/q=x.2.2.1\/q=x.2.2.2)/\(y.1=x.2.1\/y.1=x.2.2.1\/y.1=x.2.2.2)/\(x.2.1≠x.2.2.1->x.2.1≠x.2.2.2->x.2.2.1≠x.2.2.2->p≠y.1/\q≠y.1)/\x.1.getD p 0<=x.1.getD y.1 0/\x.1.getD y.1 0<=x.1.getD q 0)
 res:=fun _ y=>.int .i64 (y.1:Int)
 h1:=fun x y=>[arH x.1,(1,.cells 3 (.cons (.int .i64 y.2) .nil))]
 nx1:=2
theorem Y2:aA3.Ok Tryz.prog 180:=by
 refine Eng.bU.okR e180 .nil (fun _=>[(184,.m Vb)]) (fun _ _=>aZ.m Ka aZ.nil) ?_;rintro ⟨L,i,j,k⟩ ⟨(hi:i < L.length),(hj:j < L.length),(hk:k < L.length),(hn:L.length<=24)⟩;refine ⟨trivial,?_⟩;have p1:(i < L.length/\j < L.length/\L.length<=24)/\(0:Int)<=0/\(0:Int)<=1000:=by omega
 refine aB (L,i,j,0) (aB [0,1] ?_);repeat' (first|exact p1|apply aA|exact trivial|exact rfl|exact dC (fun a=>dV _ _ _ a)|fail)
 refine fun (y:Nat×Nat×Int) (hy:(L.getD j 0 < L.getD i 0/\y=(j,i,0+1))\/(¬ L.getD j 0 < L.getD i 0/\y=(i,j,0)))=>?_;obtain ⟨i1,j1,s1⟩:=y;have q1:(i1 < L.length/\j1 < L.length)/\(0<=s1/\s1<=1)/\L.getD i1 0<=L.getD j1 0/\((i1=j/\j1=i)\/(i1=i/\j1=j)):=by
  rcases hy with ⟨h,e⟩|⟨h,e⟩
  ·injection e with e1 e;injection e with e2 e3;subst e1 e2 e3;exact ⟨⟨hj,hi⟩,by omega,by omega,.inl ⟨rfl,rfl⟩⟩
  ·injection e with e1 e;injection e with e2 e3;subst e1 e2 e3;exact ⟨⟨hi,hj⟩,by omega,by omega,.inr ⟨rfl,rfl⟩⟩
 clear hy;have p2:(j1 < L.length/\k < L.length/\L.length<=24)/\(0:Int)<=s1/\s1<=1000:=by omega
 refine aB (L,j1,k,s1) (aB [0,1] ?_);repeat' (first|exact p2|apply aA|exact trivial|exact rfl|exact dC (fun a=>dV _ _ _ a)|fail)
 refine fun (y:Nat×Nat×Int) (hy:(L.getD k 0 < L.getD j1 0/\y=(k,j1,s1+1))\/(¬ L.getD k 0 < L.getD j1 0/\y=(j1,k,s1)))=>?_;obtain ⟨j2,k2,s2⟩:=y;have q2:(j2 < L.length/\k2 < L.length)/\(0<=s2/\s2<=2)/\L.getD j2 0<=L.getD k2 0/\((j2=k/\k2=j1)\/(j2=j1/\k2=k))/\L.getD i1 0<=L.getD k2 0:=by
  rcases hy with ⟨h,e⟩|⟨h,e⟩
  ·injection e with e1 e;injection e with e2 e3;subst e1 e2 e3;exact ⟨⟨hk,q1.1.2⟩,by omega,by omega,.inl ⟨rfl,rfl⟩,q1.2.2.1⟩
  ·injection e with e1 e;injection e with e2 e3;subst e1 e2 e3;exact ⟨⟨q1.1.2,hk⟩,by omega,by omega,.inr ⟨rfl,rfl⟩,by omega⟩
 clear hy;have p3:(i1 < L.length/\j2 < L.length/\L.length<=24)/\(0:Int)<=s2/\s2<=1000:=by omega
 refine aB (L,i1,j2,s2) (aB [0,1] ?_);repeat' (first|exact p3|apply aA|exact trivial|exact rfl|exact dC (fun a=>dV _ _ _ a)|fail)
 refine fun (y:Nat×Nat×Int) (hy:(L.getD j2 0 < L.getD i1 0/\y=(j2,i1,s2+1))\/(¬ L.getD j2 0 < L.getD i1 0/\y=(i1,j2,s2)))=>?_;obtain ⟨i3,j3,s3⟩:=y;have q3:(0<=s3/\s3<=3)/\L.getD i3 0<=L.getD j3 0/\L.getD j3 0<=L.getD k2 0/\((i3=j2/\j3=i1)\/(i3=i1/\j3=j2)):=by
  rcases hy with ⟨h,e⟩|⟨h,e⟩
  ·injection e with e1 e;injection e with e2 e3;subst e1 e2 e3;exact ⟨by omega,by omega,by omega,.inl ⟨rfl,rfl⟩⟩
  ·injection e with e1 e;injection e with e2 e3;subst e1 e2 e3;exact ⟨by omega,by omega,by omega,.inr ⟨rfl,rfl⟩⟩
 clear hy;have hpost:(0<=s3/\s3<=3)/\(∃ p q,(p=i\/p=j\/p=k)/\(q=i\/q=j\/q=k)/\(j3=i\/j3=j\/j3=k)/\(i≠j->i≠k->j≠k->p≠j3/\q≠j3)/\L.getD p 0<=L.getD j3 0/\L.getD j3 0<=L.getD q 0):=by
  refine ⟨q3.1,i3,k2,by omega,by omega,by omega,by omega,q3.2.1,q3.2.2.1⟩
 refine aB (j3,s3) (aA hpost ?_);repeat' (first|apply aA|exact trivial|exact rfl|exact dC (fun a=>dV _ _ _ a)|fail)
def g164:List Nat:=[2,1,32,8,34,0,10,12,9,51,49,54,11,6,7]
def c164:bH :=
 .seq (.region g164 [(zo 6 (.move (cj 0))),(zo 7 (.move (cj 0)))]) (.seq (.region g164 [(mv 13 2),(mv 14 1),(zo 15 (.bin (.sub) (.s 13) (.s 14))),(mv 8 15)]) (.seq (.region g164 [(zo 9 (.alloc 3 (.cons (.int .i64 0) .nil)))]) (.seq (.region g164 [(mv 16 1),(mv 17 8),(zo 18 (.bin (.quo) (.s 17) (cj 4))),(zo 19 (.bin (.mul) (.s 18) (cj 1))),(zo 20 (.bin (.add) (.s 16) (.s 19))),(mv 10 20)]) (.seq (.region g164 [(mv 21 1),(mv 22 8),(zo 23 (.bin (.quo) (.s 22) (cj 4))),(zo 24 (.bin (.mul) (.s 23) (cj 2))),(zo 25 (.bin (.add) (.s 21) (.s 24))),(mv 11 25)]) (.seq (.region g164 [(mv 26 1),(mv 27 8),(zo 28 (.bin (.quo) (.s 27) (cj 4))),(zo 29 (.bin (.mul) (.s 28) (cj 3))),(zo 30 (.bin (.add) (.s 26) (.s 29))),(mv 12 30)]) (.seq (.seq (.region g164 [(mv 31 8),(zo 32 (.bin (.geq) (.s 31) (cj 8)))]) (.cond (.s 32) (.seq (.seq (.region g164 [(mv 33 8),(zo 34 (.bin (.geq) (.s 33) (cj 50)))]) (.cond (.s 34) (.seq (.region g164 [(mv 35 0),(mv 36 10),(zo 37 (.call (.c (.fn 179)) [.s 35,.s 36,.s 9])),(mv 10 37)]) (.seq (.region g164 [(mv 38 0),(mv 39 11),(zo 40 (.call (.c (.fn 179)) [.s 38,.s 39,.s 9])),(mv 11 40)]) (.region g164 [(mv 41 0),(mv 42 12),(zo 43 (.call (.c (.fn 179)) [.s 41,.s 42,.s 9])),(mv 12 43)]))) .skip)) (.region g164 [(mv 44 0),(mv 45 10),(mv 46 11),(mv 47 12),(zo 48 (.call (.c (.fn 180)) [.s 44,.s 45,.s 46,.s 47,.s 9])),(mv 11 48)])) .skip)) (.seq (.region g164 [(ld 49 9)]) (.block 0 (.seq (.region g164 [(zo 52 (.bin (.eql) (.s 49) (cj 0))),(mv 51 52)]) (.cond (.s 51) (.seq (.region g164 [(mv 53 11),(mv 6 53),(zo 7 (.move (cj 1)))]) .ret) (.seq (.region g164 [(zo 55 (.bin (.eql) (.s 49) (cj 12))),(mv 54 55)]) (.cond (.s 54) (.seq (.region g164 [(mv 56 11),(mv 6 56),(zo 7 (.move (cj 2)))]) .ret) (.seq (.region g164 [(mv 50 11),(mv 6 50),(zo 7 (.move (cj 0)))]) .ret)))))))))))))
theorem e164:cR Tryz.prog 164 g164 [] [] []=some (c164,[.slot 6,.slot 7],57):=by kernel_rfl
def Z3:bU where
 X:=List Int×Nat×Nat
 Y:=Nat×Int
 args:=fun x=>.cons (.lsl 0 1 x.1.length) (.cons (.int .i64 (x.2.1:Int)) (.cons (.int .i64 (x.2.2:Int)) .nil))
 pre:=fun x=>x.2.2<=x.1.length/\x.1.length<=24/\x.2.1+13<=x.2.2
 h0:=fun x=>[arH x.1]
 nx0:=1
 post:=fun x y=>(x.2.1<=y.1/\y.1 < x.2.2)/\(y.2=0\/y.2=1)/\∃ p q,(x.2.1<=p/\p < x.2.2)/\(x.2.1<=q/\q < x.2.2)/\(p≠y.1/\q≠y.1)/\x.1.getD p 0<=x.1.getD y.1 0/\x.1.getD y.1 0<=x.1.getD q 0
 res:=fun _ y=>.tup (.cons (.int .i64 (y.1:Int)) (.cons (.int .i64 y.2) .nil))
 h1:=fun x _=>[arH x.1]
 nx1:=1
theorem Xl:Z3.Ok Tryz.prog 164:=by
 refine Eng.bU.okR e164 .nil (fun _=>[(180,.m aA3)]) (fun _ _=>aZ.m Y2 aZ.nil) ?_;rintro ⟨L,a,b⟩ ⟨(hb:b<=L.length),(hn:L.length<=24),(hab:a+13<=b)⟩;refine ⟨trivial,?_⟩;have hq:((b:Int) - (a:Int)).tdiv 4=(((b - a) / 4:Nat):Int):=by
  rw [iG (by omega)];omega
 have hq2:3<=(b - a) / 4/\(b - a) / 4<=6/\4 * ((b - a) / 4)<=b - a:=by omega
 have c0:-9223372036854775808<=(b:Int) - (a:Int):=by omega
 have c1:(b:Int) - (a:Int)<=9223372036854775807:=by omega
 have c2:-9223372036854775808<=((b:Int) - (a:Int)).tdiv 4:=by omega
 have c3:((b:Int) - (a:Int)).tdiv 4<=9223372036854775807:=by omega
 have c4:-9223372036854775808<=((b:Int) - (a:Int)).tdiv 4 * 1:=by omega
 have c5:((b:Int) - (a:Int)).tdiv 4 * 1<=9223372036854775807:=by omega
 have c6:-9223372036854775808<=(a:Int)+((b:Int) - (a:Int)).tdiv 4 * 1:=by omega
 have c7:(a:Int)+((b:Int) - (a:Int)).tdiv 4 * 1<=9223372036854775807:=by omega
 have c8:-9223372036854775808<=((b:Int) - (a:Int)).tdiv 4 * 2:=by omega
 have c9:((b:Int) - (a:Int)).tdiv 4 * 2<=9223372036854775807:=by omega
 have c10:-9223372036854775808<=(a:Int)+((b:Int) - (a:Int)).tdiv 4 * 2:=by omega
 have c11:(a:Int)+((b:Int) - (a:Int)).tdiv 4 * 2<=9223372036854775807:=by omega
 have c12:-9223372036854775808<=((b:Int) - (a:Int)).tdiv 4 * 3:=by omega
 have c13:((b:Int) - (a:Int)).tdiv 4 * 3<=9223372036854775807:=by omega
 have c14:-9223372036854775808<=(a:Int)+((b:Int) - (a:Int)).tdiv 4 * 3:=by omega
 have c15:(a:Int)+((b:Int) - (a:Int)).tdiv 4 * 3<=9223372036854775807:=by omega
 have n4:(4:Int)≠0:=by decide
 have e1:(a:Int)+((b:Int) - (a:Int)).tdiv 4 * 1=((a+(b - a) / 4:Nat):Int):=by omega
 have e2:(a:Int)+((b:Int) - (a:Int)).tdiv 4 * 2=((a+(b - a) / 4 * 2:Nat):Int):=by omega
 have e3:(a:Int)+((b:Int) - (a:Int)).tdiv 4 * 3=((a+(b - a) / 4 * 3:Nat):Int):=by omega
 repeat' (first|apply aA|(with_reducible first|exact c0|exact c1|exact c2|exact c3|exact c4|exact c5|exact c6|exact c7|exact c8|exact c9|exact c10|exact c11|exact c12|exact c13|exact c14|exact c15|exact n4))
 rotate_left
 ·exact fun (h:decide ((b:Int) - (a:Int)>=8)=false)=>absurd (show (b:Int) - (a:Int)>=8 by omega) (of_decide_eq_false h)
 refine fun (_:decide ((b:Int) - (a:Int)>=8)=true)=>?_;repeat' (first|refine aA ?_ ?_)
 ·exact fun (h:decide ((b:Int) - (a:Int)>=50)=true)=>absurd (of_decide_eq_true h) (show ¬ (b:Int) - (a:Int)>=50 by omega)
 refine fun (_:decide ((b:Int) - (a:Int)>=50)=false)=>?_;have p1:a+(b - a) / 4 < L.length/\a+(b - a) / 4 * 2 < L.length/\a+(b - a) / 4 * 3 < L.length/\L.length<=24:=by omega
 refine aB (L,a+(b - a) / 4,a+(b - a) / 4 * 2,a+(b - a) / 4 * 3) (aB [0,1] ?_);repeat' (first|exact p1|apply aA|exact trivial|exact rfl|exact dC (fun a=>dV _ _ _ a)|exact e1|exact e2|exact e3)
 refine fun (y:Nat×Int) (hy:(0<=y.2/\y.2<=3)/\(∃ p q,(p=a+(b - a) / 4\/p=a+(b - a) / 4 * 2\/p=a+(b - a) / 4 * 3)/\(q=a+(b - a) / 4\/q=a+(b - a) / 4 * 2\/q=a+(b - a) / 4 * 3)/\(y.1=a+(b - a) / 4\/y.1=a+(b - a) / 4 * 2\/y.1=a+(b - a) / 4 * 3)/\(a+(b - a) / 4≠a+(b - a) / 4 * 2->a+(b - a) / 4≠a+(b - a) / 4 * 3->a+(b - a) / 4 * 2≠a+(b - a) / 4 * 3->p≠y.1/\q≠y.1)/\L.getD p 0<=L.getD y.1 0/\L.getD y.1 0<=L.getD q 0))=>?_;obtain ⟨v,s⟩:=y;obtain ⟨⟨(hs0:0<=s),(hs3:s<=3)⟩,p,q,(hp:p=a+(b - a) / 4\/p=a+(b - a) / 4 * 2\/p=a+(b - a) / 4 * 3),(hq1:q=a+(b - a) / 4\/q=a+(b - a) / 4 * 2\/q=a+(b - a) / 4 * 3),(hv:v=a+(b - a) / 4\/v=a+(b - a) / 4 * 2\/v=a+(b - a) / 4 * 3),hne,(h1:L.getD p 0<=L.getD v 0),(h2:L.getD v 0<=L.getD q 0)⟩:=hy;have hpost:(a<=v/\v < b)/\∃ p q,(a<=p/\p < b)/\(a<=q/\q < b)/\(p≠v/\q≠v)/\L.getD p 0<=L.getD v 0/\L.getD v 0<=L.getD q 0 :=
  ⟨by omega,p,q,by omega,by omega,hne (by omega) (by omega) (by omega),h1,h2⟩
 repeat' (first|refine aA ?_ ?_)
 ·refine fun (_:decide (s=0)=true)=>?_;refine aB (v,1) (aA ⟨hpost.1,.inr rfl,hpost.2⟩ ?_);repeat' (first|apply aA|exact trivial|exact rfl|exact dC (fun a=>dV _ _ _ a)|fail)
 ·refine fun (_:decide (s=0)=false)=>?_;repeat' (first|refine aA ?_ ?_)
  ·exact fun (h:decide (s=12)=true)=>absurd (of_decide_eq_true h) (show ¬ s=12 by omega)
  refine fun (_:decide (s=12)=false)=>?_;refine aB (v,0) (aA ⟨hpost.1,.inl rfl,hpost.2⟩ ?_);repeat' (first|apply aA|exact trivial|exact rfl|exact dC (fun a=>dV _ _ _ a)|fail)
end T51
end
section
open Go Go.Eng Go.Proofs A0 T1 T28 T29 T50 T51
set_option maxRecDepth 100000
namespace T52
theorem gdI {x y:Int} {P:Prop} (h:x<=y->P):decide (x<=y)=true->P:=fun k=>h (of_decide_eq_true k)
theorem xs1 {M:List Int} {i j e f:Nat} (he:e=i) (hf:f=j) (hi:i < M.length) (p:Nat):(bif Nat.beq p e then SV.cons (.int .u8 (M.getD f 0)) .nil else lc bE 0 M p)=lc bE 0 (M.set i (M.getD j 0)) p:=by
 subst he hf;rw [P0];unfold lc;by_cases h:p=e
 ·subst h;rw [if_pos rfl];simp only [aE,gD,if_true,hi];rfl
 ·rw [if_neg h];simp only [aE,gD,if_neg (dY h)]
theorem xs2 {M:List Int} {i j e f:Nat} (he:e=i) (hf:f=j) (hi:i < M.length) (hj:j < M.length) (p:Nat):(bif Nat.beq p f then SV.cons (.int .u8 (M.getD e 0)) .nil else lc bE 0 (M.set i (M.getD j 0)) p)=lc bE 0 (xch M i j) p:=by
 subst he hf;rw [P0];unfold lc;rw [uF hi hj];by_cases h:p=f
 ·subst h;rw [if_pos rfl,if_pos rfl]; rfl
 ·rw [if_neg h,if_neg h];by_cases h2:p=e
  ·subst h2;rw [if_pos rfl];simp only [aE,gD,if_true,hi];rfl
  ·rw [if_neg h2];simp only [aE,gD,if_neg (dY h2)]
theorem xs3 {K:Keep} {hp:List (Nat×aT)} {m n:Nat} {M:List Int} {i j e f:Nat} (he:e=i) (hf:f=j) (hi:i < M.length) (hj:j < M.length):∀ p,p < n->oP K (sub K hp (m+3)) (bif Nat.beq p f then SV.cons (.int .u8 (M.getD e 0)) .nil else lc bE 0 (M.set i (M.getD j 0)) p) (lc bE 0 (xch M i j) p):=fun p _=>by
 rw [xs2 he hf hi hj];exact Or.inl (dV _ _ _ _)
structure Mid (a b:Nat) (L:List Int) (v:Int) (M:List Int) (i j:Nat):Prop where
 pr:PR a b L M
 pv:M.getD a 0=v
 lt:∀ p,a < p->p < i->M.getD p 0 < v
 ge:∀ p,j < p->p < b->¬ M.getD p 0 < v
 ai:a < i
 ij:i<=j+1
 jb:j < b
theorem Mid.up {a b:Nat} {L:List Int} {v:Int} {M:List Int} {i j:Nat} (h:Mid a b L v M i j) (hij:i<=j) (hc:M.getD i 0 < v):Mid a b L v M (i+1) j :=
 ⟨h.pr,h.pv,fun p h1 h2=>by
  by_cases e:p=i
  ·rw [e]; exact hc
  ·exact h.lt p h1 (by omega),h.ge,by have:=h.ai; omega,by omega,h.jb⟩
theorem Mid.down {a b:Nat} {L:List Int} {v:Int} {M:List Int} {i j:Nat} (h:Mid a b L v M i j) (hij:i<=j) (hc:¬ M.getD j 0 < v):Mid a b L v M i (j - 1) :=
 ⟨h.pr,h.pv,h.lt,fun p h1 h2=>by
  by_cases e:p=j
  ·rw [e]; exact hc
  ·exact h.ge p (by omega) h2,h.ai,by have:=h.ai; omega,by have:=h.jb; omega⟩
theorem Mid.swap {a b:Nat} {L:List Int} {v:Int} {M:List Int} {i j:Nat} (h:Mid a b L v M i j) (hb:b<=L.length) (hij:i<=j) (h1:¬ M.getD i 0 < v) (h2:M.getD j 0 < v):Mid a b L v (xch M i j) (i+1) (j - 1):=by
 have hl:=h.pr.len;have hai:=h.ai;have hjb:=h.jb;have hne:i≠j:=fun e=>h1 (e ▸ h2);have hg:∀ p,(xch M i j).getD p 0=if p=j then M.getD i 0 else if p=i then M.getD j 0 else M.getD p 0:=fun p=>uF (by omega) (by omega)
 refine ⟨h.pr.xch ⟨by omega,by omega⟩ ⟨by omega,by omega⟩ (by omega),?_,fun p k1 k2=>?_,fun p k1 k2=>?_,by omega,by omega,by omega⟩
 ·rw [hg,if_neg (by omega),if_neg (by omega)]; exact h.pv
 ·rw [hg,if_neg (by omega)];by_cases e:p=i
  ·rw [if_pos e]; exact h2
  ·rw [if_neg e]; exact h.lt p k1 (by omega)
 ·rw [hg];by_cases e:p=j
  ·rw [if_pos e]; exact h1
  ·rw [if_neg e,if_neg (by omega)]; exact h.ge p (by omega) k2
structure Fin (a b:Nat) (L:List Int) (v:Int) (m:Nat) (N:List Int):Prop where
 pr:PR a b L N
 lo:a<=m
 hi:m < b
 pv:N.getD m 0=v
 lt:∀ p,a<=p->p < m->N.getD p 0 < v
 ge:∀ p,m < p->p < b->¬ N.getD p 0 < v
theorem Mid.fin {a b:Nat} {L:List Int} {v:Int} {M:List Int} {i j:Nat} (h:Mid a b L v M i j) (hb:b<=L.length) (hij:¬ i<=j):Fin a b L v j (xch M j a):=by
 have hl:=h.pr.len;have hai:=h.ai;have hjb:=h.jb;have hij2:=h.ij;have hg:∀ p,(xch M j a).getD p 0=if p=a then M.getD j 0 else if p=j then M.getD a 0 else M.getD p 0:=fun p=>uF (by omega) (by omega)
 refine ⟨h.pr.xch ⟨by omega,by omega⟩ ⟨by omega,by omega⟩ (by omega),by omega,hjb,?_,fun p k1 k2=>?_,fun p k1 k2=>?_⟩
 ·rw [hg];by_cases e:j=a
  ·rw [if_pos e,e]; exact h.pv
  ·rw [if_neg e,if_pos rfl]; exact h.pv
 ·rw [hg];by_cases e:p=a
  ·rw [if_pos e]; exact h.lt j (by omega) (by omega)
  ·rw [if_neg e,if_neg (by omega)]; exact h.lt p (by omega) (by omega)
 ·rw [hg,if_neg (by omega),if_neg (by omega)]; exact h.ge p k1 k2
theorem mid0 {a b q:Nat} {L:List Int} (hb:b<=L.length) (ha:a+1 < b) (hq:a<=q/\q < b):Mid a b L (L.getD q 0) (xch L a q) (a+1) (b - 1):=by
 have hg:∀ p,(xch L a q).getD p 0=if p=q then L.getD a 0 else if p=a then L.getD q 0 else L.getD p 0:=fun p=>uF (by omega) (by omega)
 refine ⟨(PR.refl a b L).xch ⟨by omega,by omega⟩ hq (by omega),?_,fun p h1 h2=>by omega,fun p h1 h2=>by omega,by omega,by omega,by omega⟩;rw [hg];by_cases e:a=q
 ·rw [if_pos e,e]
 ·rw [if_neg e,if_pos rfl]
def g169:List Nat:=[3,2,43,60,65,112,129,134,10,1,0,11,8,9]
def c169:bH :=
 .seq (.region g169 [(zo 8 (.move (cj 0))),(zo 9 (.move cF))]) (.seq (.drawn g169 (.pure 0 (mv 12 0) (.pure 1 (mv 13 1) (.pure 2 (mv 14 0) (.pure 3 (mv 15 3) (.pure 4 (mv 16 0) (.pure 5 (mv 17 3) (.pure 6 (zo 18 (.idxSl 1 (.s 16) (.s 17))) (.pure 7 (ld 19 18) (.pure 8 (mv 20 0) (.pure 9 (mv 21 1) (.pure 10 (zo 22 (.idxSl 1 (.s 20) (.s 21))) (.pure 11 (ld 23 22) (.pure 12 (zo 24 (.idxSl 1 (.s 12) (.s 13))) (.eff 13 ⟨none,none,.store 1 (.s 24) (.s 19),[]⟩ [] (.pure 14 (zo 25 (.idxSl 1 (.s 14) (.s 15))) (.eff 15 ⟨none,none,.store 1 (.s 25) (.s 23),[]⟩ [] .done .none)) .none))))))))))))))) (.seq (.region g169 [(mv 26 1),(zo 27 (.bin (.add) (.s 26) (cj 1))),(mv 28 2),(zo 29 (.bin (.sub) (.s 28) (cj 1))),(mv 10 27),(mv 11 29)]) (.seq (.block 0 (.loop 0 [30,31,32,33,34,35,36,37,38,39,40,41,42,43,44,45,10] (.seq (.seq (.drawn g169 (.pure 0 (mv 30 10) (.pure 1 (mv 31 11) (.pure 2 (zo 32 (.bin (.leq) (.s 30) (.s 31))) (.pure 3 (mv 33 32) (.pure 4 (mg 34 33 true 0) (.pure 5 (mg 35 33 true 10) (.pure 6 (zg 36 33 true (.idxSl 1 (.s 34) (.s 35))) (.pure 7 (lg 37 33 true 36) (.pure 8 (mg 38 33 true 0) (.pure 9 (mg 39 33 true 1) (.pure 10 (zg 40 33 true (.idxSl 1 (.s 38) (.s 39))) (.pure 11 (lg 41 33 true 40) (.pure 12 (zg 42 33 true (.call (.c (.fn 167)) [.s 37,.s 41])) (.pure 13 (zo 43 (.pick (.s 33) (.s 42) cF)) .done))))))))))))))) (.cond (.s 43) .skip (.exit 0))) (.block 1 (.region g169 [(mv 44 10),(zo 45 (.bin (.add) (.s 44) (cj 1))),(mv 10 45)]))))) (.seq (.block 2 (.loop 1 [46,47,48,49,50,51,52,53,54,55,56,57,58,59,60,61,62,11] (.seq (.seq (.drawn g169 (.pure 0 (mv 46 10) (.pure 1 (mv 47 11) (.pure 2 (zo 48 (.bin (.leq) (.s 46) (.s 47))) (.pure 3 (mv 49 48) (.pure 4 (mg 50 49 true 0) (.pure 5 (mg 51 49 true 11) (.pure 6 (zg 52 49 true (.idxSl 1 (.s 50) (.s 51))) (.pure 7 (lg 53 49 true 52) (.pure 8 (mg 54 49 true 0) (.pure 9 (mg 55 49 true 1) (.pure 10 (zg 56 49 true (.idxSl 1 (.s 54) (.s 55))) (.pure 11 (lg 57 49 true 56) (.pure 12 (zg 58 49 true (.call (.c (.fn 167)) [.s 53,.s 57])) (.pure 13 (zg 59 49 true (.not (.s 58))) (.pure 14 (zo 60 (.pick (.s 49) (.s 59) cF)) .done)))))))))))))))) (.cond (.s 60) .skip (.exit 2))) (.block 3 (.region g169 [(mv 61 11),(zo 62 (.bin (.sub) (.s 61) (cj 1))),(mv 11 62)]))))) (.seq (.seq (.region g169 [(mv 63 10),(mv 64 11),(zo 65 (.bin (.gtr) (.s 63) (.s 64)))]) (.cond (.s 65) (.seq (.drawn g169 (.pure 0 (mv 66 0) (.pure 1 (mv 67 11) (.pure 2 (mv 68 0) (.pure 3 (mv 69 1) (.pure 4 (mv 70 0) (.pure 5 (mv 71 1) (.pure 6 (zo 72 (.idxSl 1 (.s 70) (.s 71))) (.pure 7 (ld 73 72) (.pure 8 (mv 74 0) (.pure 9 (mv 75 11) (.pure 10 (zo 76 (.idxSl 1 (.s 74) (.s 75))) (.pure 11 (ld 77 76) (.pure 12 (zo 78 (.idxSl 1 (.s 66) (.s 67))) (.eff 13 ⟨none,none,.store 1 (.s 78) (.s 73),[]⟩ [] (.pure 14 (zo 79 (.idxSl 1 (.s 68) (.s 69))) (.eff 15 ⟨none,none,.store 1 (.s 79) (.s 77),[]⟩ [] .done .none)) .none))))))))))))))) (.seq (.region g169 [(mv 80 11),(mv 8 80),(zo 9 (.move cT))]) .ret)) .skip)) (.seq (.drawn g169 (.pure 0 (mv 81 0) (.pure 1 (mv 82 10) (.pure 2 (mv 83 0) (.pure 3 (mv 84 11) (.pure 4 (mv 85 0) (.pure 5 (mv 86 11) (.pure 6 (zo 87 (.idxSl 1 (.s 85) (.s 86))) (.pure 7 (ld 88 87) (.pure 8 (mv 89 0) (.pure 9 (mv 90 10) (.pure 10 (zo 91 (.idxSl 1 (.s 89) (.s 90))) (.pure 11 (ld 92 91) (.pure 12 (zo 93 (.idxSl 1 (.s 81) (.s 82))) (.eff 13 ⟨none,none,.store 1 (.s 93) (.s 88),[]⟩ [] (.pure 14 (zo 94 (.idxSl 1 (.s 83) (.s 84))) (.eff 15 ⟨none,none,.store 1 (.s 94) (.s 92),[]⟩ [] .done .none)) .none))))))))))))))) (.seq (.region g169 [(mv 95 10),(zo 96 (.bin (.add) (.s 95) (cj 1))),(mv 10 96)]) (.seq (.region g169 [(mv 97 11),(zo 98 (.bin (.sub) (.s 97) (cj 1))),(mv 11 98)]) (.seq (.block 4 (.loop 2 [99,100,101,102,103,104,105,106,107,108,109,110,111,112,113,114,115,116,117,118,119,120,121,122,123,124,125,126,127,128,129,130,131,132,133,134,135,136,137,138,139,140,141,142,143,144,145,146,147,148,149,150,10,151,152,11] (.block 5 (.seq (.block 6 (.loop 3 [99,100,101,102,103,104,105,106,107,108,109,110,111,112,113,114,10] (.seq (.seq (.drawn g169 (.pure 0 (mv 99 10) (.pure 1 (mv 100 11) (.pure 2 (zo 101 (.bin (.leq) (.s 99) (.s 100))) (.pure 3 (mv 102 101) (.pure 4 (mg 103 102 true 0) (.pure 5 (mg 104 102 true 10) (.pure 6 (zg 105 102 true (.idxSl 1 (.s 103) (.s 104))) (.pure 7 (lg 106 102 true 105) (.pure 8 (mg 107 102 true 0) (.pure 9 (mg 108 102 true 1) (.pure 10 (zg 109 102 true (.idxSl 1 (.s 107) (.s 108))) (.pure 11 (lg 110 102 true 109) (.pure 12 (zg 111 102 true (.call (.c (.fn 167)) [.s 106,.s 110])) (.pure 13 (zo 112 (.pick (.s 102) (.s 111) cF)) .done))))))))))))))) (.cond (.s 112) .skip (.exit 6))) (.block 7 (.region g169 [(mv 113 10),(zo 114 (.bin (.add) (.s 113) (cj 1))),(mv 10 114)]))))) (.seq (.block 8 (.loop 4 [115,116,117,118,119,120,121,122,123,124,125,126,127,128,129,130,131,11] (.seq (.seq (.drawn g169 (.pure 0 (mv 115 10) (.pure 1 (mv 116 11) (.pure 2 (zo 117 (.bin (.leq) (.s 115) (.s 116))) (.pure 3 (mv 118 117) (.pure 4 (mg 119 118 true 0) (.pure 5 (mg 120 118 true 11) (.pure 6 (zg 121 118 true (.idxSl 1 (.s 119) (.s 120))) (.pure 7 (lg 122 118 true 121) (.pure 8 (mg 123 118 true 0) (.pure 9 (mg 124 118 true 1) (.pure 10 (zg 125 118 true (.idxSl 1 (.s 123) (.s 124))) (.pure 11 (lg 126 118 true 125) (.pure 12 (zg 127 118 true (.call (.c (.fn 167)) [.s 122,.s 126])) (.pure 13 (zg 128 118 true (.not (.s 127))) (.pure 14 (zo 129 (.pick (.s 118) (.s 128) cF)) .done)))))))))))))))) (.cond (.s 129) .skip (.exit 8))) (.block 9 (.region g169 [(mv 130 11),(zo 131 (.bin (.sub) (.s 130) (cj 1))),(mv 11 131)]))))) (.seq (.seq (.region g169 [(mv 132 10),(mv 133 11),(zo 134 (.bin (.gtr) (.s 132) (.s 133)))]) (.cond (.s 134) (.exit 4) .skip)) (.seq (.drawn g169 (.pure 0 (mv 135 0) (.pure 1 (mv 136 10) (.pure 2 (mv 137 0) (.pure 3 (mv 138 11) (.pure 4 (mv 139 0) (.pure 5 (mv 140 11) (.pure 6 (zo 141 (.idxSl 1 (.s 139) (.s 140))) (.pure 7 (ld 142 141) (.pure 8 (mv 143 0) (.pure 9 (mv 144 10) (.pure 10 (zo 145 (.idxSl 1 (.s 143) (.s 144))) (.pure 11 (ld 146 145) (.pure 12 (zo 147 (.idxSl 1 (.s 135) (.s 136))) (.eff 13 ⟨none,none,.store 1 (.s 147) (.s 142),[]⟩ [] (.pure 14 (zo 148 (.idxSl 1 (.s 137) (.s 138))) (.eff 15 ⟨none,none,.store 1 (.s 148) (.s 146),[]⟩ [] .done .none)) .none))))))))))))))) (.seq (.region g169 [(mv 149 10),(zo 150 (.bin (.add) (.s 149) (cj 1))),(mv 10 150)]) (.region g169 [(mv 151 11),(zo 152 (.bin (.sub) (.s 151) (cj 1))),(mv 11 152)]))))))))) (.seq (.drawn g169 (.pure 0 (mv 153 0) (.pure 1 (mv 154 11) (.pure 2 (mv 155 0) (.pure 3 (mv 156 1) (.pure 4 (mv 157 0) (.pure 5 (mv 158 1) (.pure 6 (zo 159 (.idxSl 1 (.s 157) (.s 158))) (.pure 7 (ld 160 159) (.pure 8 (mv 161 0) (.pure 9 (mv 162 11) (.pure 10 (zo 163 (.idxSl 1 (.s 161) (.s 162))) (.pure 11 (ld 164 163) (.pure 12 (zo 165 (.idxSl 1 (.s 153) (.s 154))) (.eff 13 ⟨none,none,.store 1 (.s 165) (.s 160),[]⟩ [] (.pure 14 (zo 166 (.idxSl 1 (.s 155) (.s 156))) (.eff 15 ⟨none,none,.store 1 (.s 166) (.s 164),[]⟩ [] .done .none)) .none))))))))))))))) (.seq (.region g169 [(mv 167 11),(mv 8 167),(zo 9 (.move cF))]) .ret)))))))))))
theorem e169:cR Tryz.prog 169 g169 [] [] []=some (c169,[.slot 8,.slot 9],168):=by kernel_rfl
def aBb:bU where
 X:=List Int×Nat×Nat×Nat
 Y:=Nat×Bool×List Int
 args:=fun x=>.cons (.lsl 0 1 x.1.length) (.cons (.int .i64 (x.2.1:Int)) (.cons (.int .i64 (x.2.2.1:Int)) (.cons (.int .i64 (x.2.2.2:Int)) .nil)))
 pre:=fun x=>(x.2.2.1<=x.1.length/\x.1.length<=24/\x.2.1+1 < x.2.2.1)/\x.2.1<=x.2.2.2/\x.2.2.2 < x.2.2.1
 h0:=fun x=>[arH x.1]
 nx0:=1
 post:=fun x y=>Fin x.2.1 x.2.2.1 x.1 (x.1.getD x.2.2.2 0) y.1 y.2.2
 res:=fun _ y=>.tup (.cons (.int .i64 (y.1:Int)) (.cons (.bool y.2.1) .nil))
 h1:=fun x y=>[(0,.arr 5 1 x.1.length (lc bE 0 y.2.2))]
 nx1:=1
theorem Zd:aBb.Ok Tryz.prog 169:=by
 refine Eng.bU.okR e169 .nil (fun _=>[(167,.p wR)]) (fun _ _=>aZ.p rS aZ.nil) ?_;rintro ⟨L,a,b,q⟩ ⟨⟨(hb:b<=L.length),(hn:L.length<=24),(hab:a+1 < b)⟩,(hq1:a<=q),(hq2:q < b)⟩;refine ⟨trivial,?_⟩;have a1:(0:Int)<=(a:Int):=by omega
 have a2:(a:Int) < (L.length:Int):=by omega
 have a3:0+(a:Int).toNat < L.length:=by omega
 have q1:(0:Int)<=(q:Int):=by omega
 have q2:(q:Int) < (L.length:Int):=by omega
 have q3:0+(q:Int).toNat < L.length:=by omega
 have ea:0+(a:Int).toNat=a:=by omega
 have eq:0+(q:Int).toNat=q:=by omega
 have hal:a < L.length:=by omega
 have hql:q < L.length:=by omega
 have b1:-9223372036854775808<=(a:Int)+1:=by omega
 have b2:(a:Int)+1<=9223372036854775807:=by omega
 have b3:-9223372036854775808<=(b:Int) - 1:=by omega
 have b4:(b:Int) - 1<=9223372036854775807:=by omega
 repeat' (first|apply aA|exact trivial|(with_reducible first|exact a1|exact a2)|exact a3|(with_reducible first|exact q1|exact q2)|exact q3)
 refine ext0 (enc':=fun p=>lc bE 0 (L.set a (L.getD q 0)) p) (xs1 ea eq hal) ?_;repeat' (first|apply aA|exact trivial|exact q3|(with_reducible first|exact b1|exact b2|exact b3|exact b4))
 have hm0:=mid0 (q:=q) hb hab ⟨hq1,hq2⟩;obtain ⟨M0,hM0⟩:∃ M,xch L a q=M:=⟨_,rfl⟩;obtain ⟨v,hv⟩:∃ v,L.getD q 0=v:=⟨_,rfl⟩;rw [hM0,hv] at hm0;have e11:(b:Int) - 1=((b - 1:Nat):Int):=by omega
 refine ⟨⟨Nat,fun i=>Mid a b L v M0 i (b - 1),fun i=>[(10,.int .i64 (i:Int)),(11,.int .i64 ((b - 1:Nat):Int))],fun _=>[(0,.arr 5 1 L.length (lc bE 0 M0))],fun i=>b - i⟩,a+1,hm0,?_,?_⟩
 ·repeat' (first|apply aA|exact trivial|exact rfl|exact e11|(rw [<- hM0]; exact xs3 ea eq hal hql)|fail)
 rintro (i:Nat) (hm:Mid a b L v M0 i (b - 1));have hl0:M0.length=L.length:=hm.pr.len;have hai:=hm.ai;have hij:=hm.ij;have i1:(0:Int)<=(i:Int):=by omega
 have i2:(i:Int)<=((b - 1:Nat):Int)->(i:Int) < (L.length:Int):=by omega
 have i3:(i:Int)<=((b - 1:Nat):Int)->0+(i:Int).toNat < L.length:=by omega
 have ei:0+(i:Int).toNat=i:=by omega
 repeat' (first|apply aA|exact trivial|exact rfl|refine gdI fun hp=>?_|(with_reducible first|exact a1|exact a2)|exact a3|with_reducible exact i1|with_reducible exact i2 hp|exact i3 hp|fail)
 ·refine fun (hz:cS _ _ _ _ _=true)=>?_;rw [dE,aO,decide_eq_true_iff,decide_eq_true_iff,ei,ea,hm.pv] at hz;have hz1:i<=b - 1:=by omega
  have hm2:=hm.up hz1 hz.2;have j1:-9223372036854775808<=(i:Int)+1:=by omega
  have j2:(i:Int)+1<=9223372036854775807:=by omega
  have j3:b - (i+1) < b - i:=by omega
  repeat' (first|apply aA|(with_reducible first|exact j1|exact j2))
  refine aB (i+1) (aA hm2 (aA ?_ j3));repeat' (first|apply aA|exact trivial|exact rfl|exact dC (fun a=>dV _ _ _ a)|fail)
 refine fun (hz:cS _ _ _ _ _=false)=>?_;have hA:i<=b - 1->¬ M0.getD i 0 < v:=fun h1 h2=>by
  rw [dE,ei,ea,hm.pv,decide_eq_true (show (i:Int)<=((b - 1:Nat):Int) by omega),decide_eq_true h2] at hz;cases hz
 clear hz;refine ⟨⟨Nat,fun j=>Mid a b L v M0 i j/\(i<=j->¬ M0.getD i 0 < v),fun j=>[(11,.int .i64 (j:Int))],fun _=>[(0,.arr 5 1 L.length (lc bE 0 M0))],fun j=>j⟩,b - 1,⟨hm,hA⟩,?_,?_⟩
 ·repeat' (first|apply aA|exact trivial|exact rfl|exact dC (fun a=>dV _ _ _ a)|fail)
 clear hA hm;rintro (j:Nat) ⟨(hm:Mid a b L v M0 i j),(hA:i<=j->¬ M0.getD i 0 < v)⟩;have hij2:=hm.ij;have hjb:=hm.jb;have j1:(0:Int)<=(j:Int):=by omega
 have j2:(j:Int) < (L.length:Int):=by omega
 have j3:0+(j:Int).toNat < L.length:=by omega
 have ej:0+(j:Int).toNat=j:=by omega
 repeat' (first|apply aA|exact trivial|exact rfl|refine gdI fun hp=>?_|(with_reducible first|exact a1|exact a2)|exact a3|(with_reducible first|exact j1|exact j2)|exact j3)
 ·refine fun (hz:cS _ _ _ _ _=true)=>?_;rw [dE,aO,decide_eq_true_iff,bV,decide_eq_false_iff_not,ej,ea,hm.pv] at hz;have hz1:i<=j:=by omega
  have hm2:=hm.down hz1 hz.2;have hA2:i<=j - 1->¬ M0.getD i 0 < v:=fun h=>hA (by omega);have k1:-9223372036854775808<=(j:Int) - 1:=by omega
  have k2:(j:Int) - 1<=9223372036854775807:=by omega
  have k3:j - 1 < j:=by omega
  have k4:(j:Int) - 1=((j - 1:Nat):Int):=by omega
  repeat' (first|apply aA|(with_reducible first|exact k1|exact k2))
  refine aB (j - 1) (aA ⟨hm2,hA2⟩ (aA ?_ k3));repeat' (first|apply aA|exact trivial|exact rfl|exact dC (fun a=>dV _ _ _ a)|exact k4)
 refine fun (hz:cS _ _ _ _ _=false)=>?_;have hB:i<=j->M0.getD j 0 < v:=fun h1=>by
  rw [dE,ej,ea,hm.pv,decide_eq_true (show (i:Int)<=(j:Int) by omega),gS,jD,decide_eq_true_iff] at hz;exact hz
 clear hz;have hjl:j < M0.length:=by omega
 have hal2:a < M0.length:=by omega
 repeat' (first|refine aA ?_ ?_)
 ·refine fun (hz:decide ((i:Int) > (j:Int))=true)=>?_;have hgt:=of_decide_eq_true hz;have hf:=hm.fin hb (by omega);repeat' (first|apply aA|exact trivial|(with_reducible first|exact a1|exact a2)|exact a3|(with_reducible first|exact j1|exact j2)|exact j3)
  refine ext0 (enc':=fun p=>lc bE 0 (M0.set j (M0.getD a 0)) p) (xs1 ej ea hjl) ?_;repeat' (first|apply aA|exact trivial|exact a3)
  refine aB (j,true,xch M0 j a) (aA (show Fin a b L (L.getD q 0) j (xch M0 j a) by rw [hv]; exact hf) ?_);repeat' (first|apply aA|exact trivial|exact rfl|exact xs3 ej ea hjl hal2|fail)
 refine fun (hz:decide ((i:Int) > (j:Int))=false)=>?_;have hle:i<=j:=by have:=of_decide_eq_false hz; omega
 have i4:(i:Int) < (L.length:Int):=by omega
 have i5:0+(i:Int).toNat < L.length:=by omega
 have hil:i < M0.length:=by omega
 have hms:=hm.swap hb hle (hA hle) (hB hle);repeat' (first|apply aA|exact trivial|(with_reducible first|exact j1|exact j2)|exact j3|(with_reducible first|exact i1|exact i4)|exact i5)
 refine ext0 (enc':=fun p=>lc bE 0 (M0.set i (M0.getD j 0)) p) (xs1 ei ej hil) ?_;have u1:-9223372036854775808<=(i:Int)+1:=by omega
 have u2:(i:Int)+1<=9223372036854775807:=by omega
 have u3:-9223372036854775808<=(j:Int) - 1:=by omega
 have u4:(j:Int) - 1<=9223372036854775807:=by omega
 have u5:(j:Int) - 1=((j - 1:Nat):Int):=by omega
 repeat' (first|apply aA|exact trivial|exact j3|(with_reducible first|exact u1|exact u2|exact u3|exact u4))
 refine ⟨⟨Nat×Nat×List Int,fun x=>Mid a b L v x.2.2 x.1 x.2.1,fun x=>[(10,.int .i64 (x.1:Int)),(11,.int .i64 (x.2.1:Int))],fun x=>[(0,.arr 5 1 L.length (lc bE 0 x.2.2))],fun x=>x.2.1+1 - x.1⟩,(i+1,j - 1,xch M0 i j),hms,?_,?_⟩
 ·repeat' (first|apply aA|exact trivial|exact rfl|exact u5|exact xs3 ei ej hil hjl|fail)
 clear hms u1 u2 u3 u4 u5 hil i4 i5 hle hz hB hA hjl hal2 ej j1 j2 j3 hij2 hjb hm hai hij i1 i2 i3 ei;rintro ⟨i,j,M⟩ (hm:Mid a b L v M i j);have hMl:M.length=L.length:=hm.pr.len;refine ⟨⟨Nat,fun x=>Mid a b L v M x j/\i<=x,fun x=>[(10,.int .i64 (x:Int)),(11,.int .i64 (j:Int))],fun _=>[(0,.arr 5 1 L.length (lc bE 0 M))],fun x=>b - x⟩,i,⟨hm,aL _⟩,?_,?_⟩
 ·repeat' (first|apply aA|exact trivial|exact rfl|exact dC (fun a=>dV _ _ _ a)|fail)
 rintro (x:Nat) ⟨(hx:Mid a b L v M x j),(hix:i<=x)⟩;have hxa:=hx.ai;have hxj:=hx.ij;have hjb:=hx.jb;have i1:(0:Int)<=(x:Int):=by omega
 have i2:(x:Int)<=(j:Int)->(x:Int) < (L.length:Int):=by omega
 have i3:(x:Int)<=(j:Int)->0+(x:Int).toNat < L.length:=by omega
 have ei:0+(x:Int).toNat=x:=by omega
 repeat' (first|apply aA|exact trivial|exact rfl|refine gdI fun hp=>?_|(with_reducible first|exact a1|exact a2)|exact a3|with_reducible exact i1|with_reducible exact i2 hp|exact i3 hp|fail)
 ·refine fun (hz:cS _ _ _ _ _=true)=>?_;rw [dE,aO,decide_eq_true_iff,decide_eq_true_iff,ei,ea,hx.pv] at hz;have hz1:x<=j:=by omega
  have hm2:=hx.up hz1 hz.2;have j1:-9223372036854775808<=(x:Int)+1:=by omega
  have j2:(x:Int)+1<=9223372036854775807:=by omega
  have j3:b - (x+1) < b - x:=by omega
  repeat' (first|apply aA|(with_reducible first|exact j1|exact j2))
  refine aB (x+1) (aA ⟨hm2,Nat.le_succ_of_le hix⟩ (aA ?_ j3));repeat' (first|apply aA|exact trivial|exact rfl|exact dC (fun a=>dV _ _ _ a)|fail)
 refine fun (hz:cS _ _ _ _ _=false)=>?_;have hA:x<=j->¬ M.getD x 0 < v:=fun h1 h2=>by
  rw [dE,ei,ea,hx.pv,decide_eq_true (show (x:Int)<=(j:Int) by omega),decide_eq_true h2] at hz;cases hz
 clear hz;refine ⟨⟨Nat,fun y=>Mid a b L v M x y/\(x<=y->¬ M.getD x 0 < v)/\y<=j,fun y=>[(10,.int .i64 (x:Int)),(11,.int .i64 (y:Int))],fun _=>[(0,.arr 5 1 L.length (lc bE 0 M))],fun y=>y⟩,j,⟨hx,hA,aL _⟩,?_,?_⟩
 ·repeat' (first|apply aA|exact trivial|exact rfl|exact dC (fun a=>dV _ _ _ a)|fail)
 clear hA hx hxj hjb i2 i3;rintro (y:Nat) ⟨(hm2:Mid a b L v M x y),(hA:x<=y->¬ M.getD x 0 < v),(hyj:y<=j)⟩;have hxy:=hm2.ij;have hyb:=hm2.jb;have j1:(0:Int)<=(y:Int):=by omega
 have j2:(y:Int) < (L.length:Int):=by omega
 have j3:0+(y:Int).toNat < L.length:=by omega
 have ej:0+(y:Int).toNat=y:=by omega
 repeat' (first|apply aA|exact trivial|exact rfl|refine gdI fun hp=>?_|(with_reducible first|exact a1|exact a2)|exact a3|(with_reducible first|exact j1|exact j2)|exact j3)
 ·refine fun (hz:cS _ _ _ _ _=true)=>?_;rw [dE,aO,decide_eq_true_iff,bV,decide_eq_false_iff_not,ej,ea,hm2.pv] at hz;have hz1:x<=y:=by omega
  have hm3:=hm2.down hz1 hz.2;have hA2:x<=y - 1->¬ M.getD x 0 < v:=fun h=>hA (by omega);have k1:-9223372036854775808<=(y:Int) - 1:=by omega
  have k2:(y:Int) - 1<=9223372036854775807:=by omega
  have k3:y - 1 < y:=by omega
  have k4:(y:Int) - 1=((y - 1:Nat):Int):=by omega
  have k5:y - 1<=j:=by omega
  repeat' (first|apply aA|(with_reducible first|exact k1|exact k2))
  refine aB (y - 1) (aA ⟨hm3,hA2,k5⟩ (aA ?_ k3));repeat' (first|apply aA|exact trivial|exact rfl|exact dC (fun a=>dV _ _ _ a)|exact k4)
 refine fun (hz:cS _ _ _ _ _=false)=>?_;have hB:x<=y->M.getD y 0 < v:=fun h1=>by
  rw [dE,ej,ea,hm2.pv,decide_eq_true (show (x:Int)<=(y:Int) by omega),gS,jD,decide_eq_true_iff] at hz;exact hz
 clear hz;have hjl:y < M.length:=by omega
 have hal2:a < M.length:=by omega
 repeat' (first|refine aA ?_ ?_)
 ·refine fun (hz:decide ((x:Int) > (y:Int))=true)=>?_;have hgt:=of_decide_eq_true hz;have hf:=hm2.fin hb (by omega);repeat' (first|apply aA|exact trivial|(with_reducible first|exact a1|exact a2)|exact a3|(with_reducible first|exact j1|exact j2)|exact j3)
  refine ext0 (enc':=fun p=>lc bE 0 (M.set y (M.getD a 0)) p) (xs1 ej ea hjl) ?_;repeat' (first|apply aA|exact trivial|exact a3)
  refine aB (y,false,xch M y a) (aA (show Fin a b L (L.getD q 0) y (xch M y a) by rw [hv]; exact hf) ?_);repeat' (first|apply aA|exact trivial|exact rfl|exact xs3 ej ea hjl hal2|fail)
 refine fun (hz:decide ((x:Int) > (y:Int))=false)=>?_;have hle:x<=y:=by have:=of_decide_eq_false hz; omega
 have i4:(x:Int) < (L.length:Int):=by omega
 have i5:0+(x:Int).toNat < L.length:=by omega
 have hil:x < M.length:=by omega
 have hms:=hm2.swap hb hle (hA hle) (hB hle);repeat' (first|apply aA|exact trivial|(with_reducible first|exact j1|exact j2)|exact j3|(with_reducible first|exact i1|exact i4)|exact i5)
 refine ext0 (enc':=fun p=>lc bE 0 (M.set x (M.getD y 0)) p) (xs1 ei ej hil) ?_;have u1:-9223372036854775808<=(x:Int)+1:=by omega
 have u2:(x:Int)+1<=9223372036854775807:=by omega
 have u3:-9223372036854775808<=(y:Int) - 1:=by omega
 have u4:(y:Int) - 1<=9223372036854775807:=by omega
 have u5:(y:Int) - 1=((y - 1:Nat):Int):=by omega
 have u6:y - 1+1 - (x+1) < j+1 - i:=by omega
 repeat' (first|apply aA|exact trivial|exact j3|(with_reducible first|exact u1|exact u2|exact u3|exact u4))
 refine aB (x+1,y - 1,xch M x y) (aA hms (aA ?_ u6));repeat' (first|apply aA|exact trivial|exact rfl|exact u5|exact xs3 ei ej hil hjl|fail)
end T52
end
section
open Go Go.Eng Go.Proofs A0 T1 T28 T29 T50 T51 T52
set_option maxRecDepth 100000
namespace T53
def SdR (a i:Nat) (L:List Int):Prop:=∀ p q,a<=p->p < q->q < i->L.getD p 0<=L.getD q 0
def InR (a i j:Nat) (L:List Int):Prop:=∀ p q,a<=p->p < q->q<=i->q≠j->L.getD p 0<=L.getD q 0
theorem Gf {a i:Nat} {L:List Int} (h:SdR a i L):InR a i i L:=fun p q h1 h2 h3 h4=>h p q h1 h2 (by omega)
theorem Q2 {a i j:Nat} {L:List Int} (h:InR a i j L) (hi:j<=i) (hc:a < j->¬ L.getD j 0 < L.getD (j - 1) 0):SdR a (i+1) L:=by
 intro p q h1 h2 h3;by_cases e:q=j
 ·subst e;have hj:=hc (by omega);by_cases e2:p=q - 1
  ·rw [e2]; omega
  ·have:=h p (q - 1) h1 (by omega) (by omega) (by omega);omega
 ·exact h p q h1 h2 (by omega) e
theorem Uk {a i j:Nat} {L:List Int} (h:InR a i j L) (hj:a < j) (hi:j<=i) (hl:i < L.length) (hc:L.getD j 0 < L.getD (j - 1) 0):InR a i (j - 1) (xch L j (j - 1)):=by
 intro p q h1 h2 h3 h4;have hg:∀ p,(xch L j (j - 1)).getD p 0=if p=j - 1 then L.getD j 0 else if p=j then L.getD (j - 1) 0 else L.getD p 0:=fun p=>uF (by omega) (by omega)
 rw [hg,hg,if_neg h4];by_cases e:q=j
 ·subst e;rw [if_pos rfl];by_cases e2:p=q - 1
  ·rw [if_pos e2]; omega
  ·rw [if_neg e2,if_neg (by omega)];exact h p (q - 1) h1 (by omega) (by omega) (by omega)
 ·rw [if_neg e];by_cases e2:p=j - 1
  ·rw [if_pos e2];exact h j q (by omega) (by omega) h3 e
  ·rw [if_neg e2];by_cases e3:p=j
   ·rw [if_pos e3];exact h (j - 1) q (by omega) (by omega) h3 e
   ·rw [if_neg e3];exact h p q h1 h2 h3 e
theorem gdL {x y:Int} {P:Prop} (h:x < y->P):decide (x < y)=true->P:=fun k=>h (of_decide_eq_true k)
def g161:List Nat:=[2,12,1,30,0,7,6]
def c161:bH :=
 .seq (.region g161 [(mv 8 1),(zo 9 (.bin (.add) (.s 8) (cj 1))),(mv 6 9)]) (.block 0 (.loop 0 [10,11,12,15,16,17,18,19,20,21,22,23,24,25,26,27,28,29,30,33,34,35,36,37,38,39,40,41,42,43,44,45,46,47,48,31,32,7,13,14,6] (.seq (.seq (.region g161 [(mv 10 6),(mv 11 2),(zo 12 (.bin (.lss) (.s 10) (.s 11)))]) (.cond (.s 12) .skip (.exit 0))) (.seq (.block 1 (.seq (.region g161 [(mv 15 6),(mv 7 15)]) (.block 2 (.loop 1 [16,17,18,19,20,21,22,23,24,25,26,27,28,29,30,33,34,35,36,37,38,39,40,41,42,43,44,45,46,47,48,31,32,7] (.seq (.seq (.drawn g161 (.pure 0 (mv 16 7) (.pure 1 (mv 17 1) (.pure 2 (zo 18 (.bin (.gtr) (.s 16) (.s 17))) (.pure 3 (mv 19 18) (.pure 4 (mg 20 19 true 0) (.pure 5 (mg 21 19 true 7) (.pure 6 (zg 22 19 true (.idxSl 1 (.s 20) (.s 21))) (.pure 7 (lg 23 19 true 22) (.pure 8 (mg 24 19 true 0) (.pure 9 (mg 25 19 true 7) (.pure 10 (zg 26 19 true (.bin (.sub) (.s 25) (cj 1))) (.pure 11 (zg 27 19 true (.idxSl 1 (.s 24) (.s 26))) (.pure 12 (lg 28 19 true 27) (.pure 13 (zg 29 19 true (.call (.c (.fn 167)) [.s 23,.s 28])) (.pure 14 (zo 30 (.pick (.s 19) (.s 29) cF)) .done)))))))))))))))) (.cond (.s 30) .skip (.exit 2))) (.seq (.block 3 (.drawn g161 (.pure 0 (mv 33 0) (.pure 1 (mv 34 7) (.pure 2 (mv 35 0) (.pure 3 (mv 36 7) (.pure 4 (zo 37 (.bin (.sub) (.s 36) (cj 1))) (.pure 5 (mv 38 0) (.pure 6 (mv 39 7) (.pure 7 (zo 40 (.bin (.sub) (.s 39) (cj 1))) (.pure 8 (zo 41 (.idxSl 1 (.s 38) (.s 40))) (.pure 9 (ld 42 41) (.pure 10 (mv 43 0) (.pure 11 (mv 44 7) (.pure 12 (zo 45 (.idxSl 1 (.s 43) (.s 44))) (.pure 13 (ld 46 45) (.pure 14 (zo 47 (.idxSl 1 (.s 33) (.s 34))) (.eff 15 ⟨none,none,.store 1 (.s 47) (.s 42),[]⟩ [] (.pure 16 (zo 48 (.idxSl 1 (.s 35) (.s 37))) (.eff 17 ⟨none,none,.store 1 (.s 48) (.s 46),[]⟩ [] .done .none)) .none)))))))))))))))))) (.region g161 [(mv 31 7),(zo 32 (.bin (.sub) (.s 31) (cj 1))),(mv 7 32)]))))))) (.region g161 [(mv 13 6),(zo 14 (.bin (.add) (.s 13) (cj 1))),(mv 6 14)])))))
theorem e161:cR Tryz.prog 161 g161 [] [] []=some (c161,[],49):=by kernel_rfl
def Yl:bU where
 X:=List Int×Nat×Nat
 Y:=List Int
 args:=fun x=>.cons (.lsl 0 1 x.1.length) (.cons (.int .i64 (x.2.1:Int)) (.cons (.int .i64 (x.2.2:Int)) .nil))
 pre:=fun x=>x.2.2<=x.1.length/\x.1.length<=24/\x.2.1<=24
 h0:=fun x=>[arH x.1]
 nx0:=1
 post:=fun x y=>PR x.2.1 x.2.2 x.1 y/\SdR x.2.1 x.2.2 y
 res:=fun _ _=>.tup .nil
 h1:=fun x y=>[(0,.arr 5 1 x.1.length (lc bE 0 y))]
 nx1:=1
theorem Q3:Yl.Ok Tryz.prog 161:=by
 refine Eng.bU.okR e161 .nil (fun _=>[(167,.p wR)]) (fun _ _=>aZ.p rS aZ.nil) ?_;rintro ⟨L,a,b⟩ ⟨(hb:b<=L.length),(hn:L.length<=24),(hab:a<=24)⟩;refine ⟨trivial,?_⟩;have b1:-9223372036854775808<=(a:Int)+1:=by omega
 have b2:(a:Int)+1<=9223372036854775807:=by omega
 repeat' (first|apply aA|(with_reducible first|exact b1|exact b2))
 refine ⟨⟨Nat×List Int,fun x=>(a+1<=x.1/\x.1<=26)/\PR a b L x.2/\SdR a x.1 x.2,fun x=>[(6,.int .i64 (x.1:Int))],fun x=>[(0,.arr 5 1 L.length (lc bE 0 x.2))],fun x=>26 - x.1⟩,(a+1,L),⟨⟨aL _,by omega⟩,PR.refl _ _ _,fun p q h1 h2 h3=>by omega⟩,?_,?_⟩
 ·repeat' (first|apply aA|exact trivial|exact rfl|exact dC (fun a=>dV _ _ _ a)|fail)
 rintro ⟨i,M⟩ ⟨⟨(h1:a+1<=i),(h2:i<=26)⟩,(hp:PR a b L M),(hs:SdR a i M)⟩;have hml:M.length=L.length:=hp.len;repeat' (first|refine aA ?_ ?_)
 ·refine fun (hg:decide ((i:Int) < (b:Int))=true)=>?_;have hib:i < b:=by have:=of_decide_eq_true hg; omega
  refine ⟨⟨Nat×List Int,fun x=>(a<=x.1/\x.1<=i)/\PR a b L x.2/\InR a i x.1 x.2,fun x=>[(7,.int .i64 (x.1:Int))],fun x=>[(0,.arr 5 1 L.length (lc bE 0 x.2))],fun x=>x.1⟩,(i,M),⟨⟨by omega,aL _⟩,hp,Gf hs⟩,?_,?_⟩
  ·repeat' (first|apply aA|exact trivial|exact rfl|exact dC (fun a=>dV _ _ _ a)|fail)
  clear hs hp hml;rintro ⟨j,M⟩ ⟨⟨(g1:a<=j),(g2:j<=i)⟩,(hp:PR a b L M),(hs:InR a i j M)⟩;have hml:M.length=L.length:=hp.len;have k1:(0:Int)<=(j:Int):=by omega
  have k2:(j:Int) < (L.length:Int):=by omega
  have k3:0+(j:Int).toNat < L.length:=by omega
  have k4:(a:Int) < (j:Int)->0<=(j:Int) - 1:=by omega
  have k5:(j:Int) - 1 < (L.length:Int):=by omega
  have k6:0+((j:Int) - 1).toNat < L.length:=by omega
  have k7:-9223372036854775808<=(j:Int) - 1:=by omega
  have k8:(j:Int) - 1<=9223372036854775807:=by omega
  have ej:0+(j:Int).toNat=j:=by omega
  have ej1:0+((j:Int) - 1).toNat=j - 1:=by omega
  repeat' (first|apply aA|exact trivial|exact rfl|refine gdL fun hp=>?_|(with_reducible first|exact k1|exact k2)|exact k3|with_reducible exact k4 hp|with_reducible exact k5|exact k6|(with_reducible first|exact k7|exact k8))
  ·refine fun (hz:cS _ _ _ _ _=true)=>?_;rw [dE,aO,decide_eq_true_iff,decide_eq_true_iff,ej,ej1] at hz;have hj:a < j:=by have h:(a:Int) < (j:Int):=hz.1; omega
   have hil:i < M.length:=by omega
   have hjl:j < M.length:=by omega
   have hjl1:j - 1 < M.length:=by omega
   have hs2:=Uk hs hj g2 hil hz.2;have hp2:=hp.xch (i:=j) (j:=j - 1) ⟨g1,by omega⟩ ⟨by omega,by omega⟩ (by omega);have k4':(0:Int)<=(j:Int) - 1:=by omega
   have m1:a<=j - 1/\j - 1<=i:=by omega
   have m2:j - 1 < j:=by omega
   have m3:(j:Int) - 1=((j - 1:Nat):Int):=by omega
   repeat' (first|apply aA|exact trivial|(with_reducible first|exact k1|exact k2)|exact k3|(with_reducible first|exact k4'|exact k5)|exact k6|(with_reducible first|exact k7|exact k8))
   refine ext0 (enc':=fun p=>lc bE 0 (M.set j (M.getD (j - 1) 0)) p) (xs1 ej ej1 hjl) ?_;repeat' (first|apply aA|exact trivial|exact k6|(with_reducible first|exact k7|exact k8))
   refine aB (j - 1,xch M j (j - 1)) (aA ⟨m1,hp2,hs2⟩ (aA ?_ m2));repeat' (first|apply aA|exact trivial|exact rfl|exact m3|exact xs3 ej ej1 hjl hjl1|fail)
  refine fun (hz:cS _ _ _ _ _=false)=>?_;have hs2:SdR a (i+1) M:=Q2 hs g2 fun hj hlt=>by
   rw [dE,ej,ej1,decide_eq_true (show (a:Int) < (j:Int) by omega),decide_eq_true hlt] at hz;cases hz
  clear hz;have m1:a+1<=i+1/\i+1<=26:=by omega
  have m2:26 - (i+1) < 26 - i:=by omega
  have m3:-9223372036854775808<=(i:Int)+1:=by omega
  have m4:(i:Int)+1<=9223372036854775807:=by omega
  repeat' (first|apply aA|(with_reducible first|exact m3|exact m4))
  refine aB (i+1,M) (aA ⟨m1,hp,hs2⟩ (aA ?_ m2));repeat' (first|apply aA|exact trivial|exact rfl|exact dC (fun a=>dV _ _ _ a)|fail)
 refine fun (hg:decide ((i:Int) < (b:Int))=false)=>?_;have hib:b<=i:=by have:=of_decide_eq_false hg; omega
 have hsb:SdR a b M:=fun p q h1 h2 h3=>hs p q h1 h2 (by omega);refine aB M (aA ⟨hp,hsb⟩ ?_);repeat' (first|apply aA|exact trivial|exact rfl|exact dC (fun a=>dV _ _ _ a)|fail)
def g166:List Nat:=[14,32,37,41,1,61,65,78,9,98,7,2,103,116,0,10,8,6]
def c166:bH :=
 .seq (.region g166 [(zo 6 (.move cF))]) (.seq (.region g166 [(mv 11 1),(zo 12 (.bin (.add) (.s 11) (cj 1))),(mv 7 12)]) (.seq (.seq (.region g166 [(zo 8 (.move (cj 0)))]) (.block 0 (.loop 0 [13,14,17,18,19,20,21,22,23,24,25,26,27,28,29,30,31,32,33,34,7,35,36,37,38,39,40,41,6,42,43,44,45,46,47,48,49,50,51,52,53,54,55,56,57,58,59,60,61,62,63,64,65,68,69,70,71,72,73,74,75,76,77,78,79,80,81,82,83,84,85,86,87,88,89,90,91,92,93,94,66,67,9,95,96,97,98,99,100,101,102,103,106,107,108,109,110,111,112,113,114,115,116,117,118,119,120,121,122,123,124,125,126,127,128,129,130,131,132,104,105,10,15,16,8] (.seq (.seq (.region g166 [(mv 13 8),(zo 14 (.bin (.lss) (.s 13) (cj 5)))]) (.cond (.s 14) .skip (.exit 0))) (.seq (.block 1 (.seq (.block 2 (.loop 1 [17,18,19,20,21,22,23,24,25,26,27,28,29,30,31,32,33,34,7] (.seq (.seq (.drawn g166 (.pure 0 (mv 17 7) (.pure 1 (mv 18 2) (.pure 2 (zo 19 (.bin (.lss) (.s 17) (.s 18))) (.pure 3 (mv 20 19) (.pure 4 (mg 21 20 true 0) (.pure 5 (mg 22 20 true 7) (.pure 6 (zg 23 20 true (.idxSl 1 (.s 21) (.s 22))) (.pure 7 (lg 24 20 true 23) (.pure 8 (mg 25 20 true 0) (.pure 9 (mg 26 20 true 7) (.pure 10 (zg 27 20 true (.bin (.sub) (.s 26) (cj 1))) (.pure 11 (zg 28 20 true (.idxSl 1 (.s 25) (.s 27))) (.pure 12 (lg 29 20 true 28) (.pure 13 (zg 30 20 true (.call (.c (.fn 167)) [.s 24,.s 29])) (.pure 14 (zg 31 20 true (.not (.s 30))) (.pure 15 (zo 32 (.pick (.s 20) (.s 31) cF)) .done))))))))))))))))) (.cond (.s 32) .skip (.exit 2))) (.block 3 (.region g166 [(mv 33 7),(zo 34 (.bin (.add) (.s 33) (cj 1))),(mv 7 34)]))))) (.seq (.seq (.region g166 [(mv 35 7),(mv 36 2),(zo 37 (.bin (.eql) (.s 35) (.s 36)))]) (.cond (.s 37) (.seq (.region g166 [(zo 6 (.move cT))]) .ret) .skip)) (.seq (.seq (.region g166 [(mv 38 2),(mv 39 1),(zo 40 (.bin (.sub) (.s 38) (.s 39))),(zo 41 (.bin (.lss) (.s 40) (cj 50)))]) (.cond (.s 41) (.seq (.region g166 [(zo 6 (.move cF))]) .ret) .skip)) (.seq (.drawn g166 (.pure 0 (mv 42 0) (.pure 1 (mv 43 7) (.pure 2 (mv 44 0) (.pure 3 (mv 45 7) (.pure 4 (zo 46 (.bin (.sub) (.s 45) (cj 1))) (.pure 5 (mv 47 0) (.pure 6 (mv 48 7) (.pure 7 (zo 49 (.bin (.sub) (.s 48) (cj 1))) (.pure 8 (zo 50 (.idxSl 1 (.s 47) (.s 49))) (.pure 9 (ld 51 50) (.pure 10 (mv 52 0) (.pure 11 (mv 53 7) (.pure 12 (zo 54 (.idxSl 1 (.s 52) (.s 53))) (.pure 13 (ld 55 54) (.pure 14 (zo 56 (.idxSl 1 (.s 42) (.s 43))) (.eff 15 ⟨none,none,.store 1 (.s 56) (.s 51),[]⟩ [] (.pure 16 (zo 57 (.idxSl 1 (.s 44) (.s 46))) (.eff 17 ⟨none,none,.store 1 (.s 57) (.s 55),[]⟩ [] .done .none)) .none))))))))))))))))) (.seq (.seq (.region g166 [(mv 58 7),(mv 59 1),(zo 60 (.bin (.sub) (.s 58) (.s 59))),(zo 61 (.bin (.geq) (.s 60) (cj 2)))]) (.cond (.s 61) (.seq (.region g166 [(mv 62 7),(zo 63 (.bin (.sub) (.s 62) (cj 1))),(mv 9 63)]) (.block 4 (.loop 2 [64,65,68,69,70,71,72,73,74,75,76,77,78,79,80,81,82,83,84,85,86,87,88,89,90,91,92,93,94,66,67,9] (.seq (.seq (.region g166 [(mv 64 9),(zo 65 (.bin (.geq) (.s 64) (cj 1)))]) (.cond (.s 65) .skip (.exit 4))) (.seq (.block 5 (.seq (.seq (.drawn g166 (.pure 0 (mv 68 0) (.pure 1 (mv 69 9) (.pure 2 (zo 70 (.idxSl 1 (.s 68) (.s 69))) (.pure 3 (ld 71 70) (.pure 4 (mv 72 0) (.pure 5 (mv 73 9) (.pure 6 (zo 74 (.bin (.sub) (.s 73) (cj 1))) (.pure 7 (zo 75 (.idxSl 1 (.s 72) (.s 74))) (.pure 8 (ld 76 75) (.pure 9 (zo 77 (.call (.c (.fn 167)) [.s 71,.s 76])) (.pure 10 (zo 78 (.not (.s 77))) .done)))))))))))) (.cond (.s 78) (.exit 4) .skip)) (.drawn g166 (.pure 0 (mv 79 0) (.pure 1 (mv 80 9) (.pure 2 (mv 81 0) (.pure 3 (mv 82 9) (.pure 4 (zo 83 (.bin (.sub) (.s 82) (cj 1))) (.pure 5 (mv 84 0) (.pure 6 (mv 85 9) (.pure 7 (zo 86 (.bin (.sub) (.s 85) (cj 1))) (.pure 8 (zo 87 (.idxSl 1 (.s 84) (.s 86))) (.pure 9 (ld 88 87) (.pure 10 (mv 89 0) (.pure 11 (mv 90 9) (.pure 12 (zo 91 (.idxSl 1 (.s 89) (.s 90))) (.pure 13 (ld 92 91) (.pure 14 (zo 93 (.idxSl 1 (.s 79) (.s 80))) (.eff 15 ⟨none,none,.store 1 (.s 93) (.s 88),[]⟩ [] (.pure 16 (zo 94 (.idxSl 1 (.s 81) (.s 83))) (.eff 17 ⟨none,none,.store 1 (.s 94) (.s 92),[]⟩ [] .done .none)) .none))))))))))))))))))) (.region g166 [(mv 66 9),(zo 67 (.bin (.sub) (.s 66) (cj 1))),(mv 9 67)])))))) .skip)) (.seq (.region g166 [(mv 95 2),(mv 96 7),(zo 97 (.bin (.sub) (.s 95) (.s 96))),(zo 98 (.bin (.geq) (.s 97) (cj 2)))]) (.cond (.s 98) (.seq (.region g166 [(mv 99 7),(zo 100 (.bin (.add) (.s 99) (cj 1))),(mv 10 100)]) (.block 6 (.loop 3 [101,102,103,106,107,108,109,110,111,112,113,114,115,116,117,118,119,120,121,122,123,124,125,126,127,128,129,130,131,132,104,105,10] (.seq (.seq (.region g166 [(mv 101 10),(mv 102 2),(zo 103 (.bin (.lss) (.s 101) (.s 102)))]) (.cond (.s 103) .skip (.exit 6))) (.seq (.block 7 (.seq (.seq (.drawn g166 (.pure 0 (mv 106 0) (.pure 1 (mv 107 10) (.pure 2 (zo 108 (.idxSl 1 (.s 106) (.s 107))) (.pure 3 (ld 109 108) (.pure 4 (mv 110 0) (.pure 5 (mv 111 10) (.pure 6 (zo 112 (.bin (.sub) (.s 111) (cj 1))) (.pure 7 (zo 113 (.idxSl 1 (.s 110) (.s 112))) (.pure 8 (ld 114 113) (.pure 9 (zo 115 (.call (.c (.fn 167)) [.s 109,.s 114])) (.pure 10 (zo 116 (.not (.s 115))) .done)))))))))))) (.cond (.s 116) (.exit 6) .skip)) (.drawn g166 (.pure 0 (mv 117 0) (.pure 1 (mv 118 10) (.pure 2 (mv 119 0) (.pure 3 (mv 120 10) (.pure 4 (zo 121 (.bin (.sub) (.s 120) (cj 1))) (.pure 5 (mv 122 0) (.pure 6 (mv 123 10) (.pure 7 (zo 124 (.bin (.sub) (.s 123) (cj 1))) (.pure 8 (zo 125 (.idxSl 1 (.s 122) (.s 124))) (.pure 9 (ld 126 125) (.pure 10 (mv 127 0) (.pure 11 (mv 128 10) (.pure 12 (zo 129 (.idxSl 1 (.s 127) (.s 128))) (.pure 13 (ld 130 129) (.pure 14 (zo 131 (.idxSl 1 (.s 117) (.s 118))) (.eff 15 ⟨none,none,.store 1 (.s 131) (.s 126),[]⟩ [] (.pure 16 (zo 132 (.idxSl 1 (.s 119) (.s 121))) (.eff 17 ⟨none,none,.store 1 (.s 132) (.s 130),[]⟩ [] .done .none)) .none))))))))))))))))))) (.region g166 [(mv 104 10),(zo 105 (.bin (.add) (.s 104) (cj 1))),(mv 10 105)])))))) .skip)))))))) (.region g166 [(mv 15 8),(zo 16 (.bin (.add) (.s 15) (cj 1))),(mv 8 16)])))))) (.seq (.region g166 [(zo 6 (.move cF))]) .ret)))
theorem e166:cR Tryz.prog 166 g166 [] [] []=some (c166,[.slot 6],133):=by kernel_rfl
def aBc:bU where
 X:=List Int×Nat×Nat
 Y:=Bool
 args:=fun x=>.cons (.lsl 0 1 x.1.length) (.cons (.int .i64 (x.2.1:Int)) (.cons (.int .i64 (x.2.2:Int)) .nil))
 pre:=fun x=>x.2.2<=x.1.length/\x.1.length<=24/\x.2.1+13<=x.2.2
 h0:=fun x=>[arH x.1]
 nx0:=1
 post:=fun x y=>y=true->SdR x.2.1 x.2.2 x.1
 res:=fun _ y=>.bool y
 h1:=fun x _=>[arH x.1]
 nx1:=1
theorem Ze:aBc.Ok Tryz.prog 166:=by
 refine Eng.bU.okR e166 .nil (fun _=>[(167,.p wR)]) (fun _ _=>aZ.p rS aZ.nil) ?_;rintro ⟨L,a,b⟩ ⟨(hb:b<=L.length),(hn:L.length<=24),(hab:a+13<=b)⟩;refine ⟨trivial,?_⟩;have b1:-9223372036854775808<=(a:Int)+1:=by omega
 have b2:(a:Int)+1<=9223372036854775807:=by omega
 have b3:-9223372036854775808<=(b:Int) - (a:Int):=by omega
 have b4:(b:Int) - (a:Int)<=9223372036854775807:=by omega
 have hbp:0 < b:=by omega
 repeat' (first|apply aA|(with_reducible first|exact b1|exact b2))
 refine ⟨⟨Unit,fun _=>True,fun _=>[(8,.int .i64 0),(7,.int .i64 ((a+1:Nat):Int))],fun _=>[(0,.arr 5 1 L.length (lc bE 0 L))],fun _=>0⟩,(),trivial,?_,?_⟩
 ·repeat' (first|apply aA|exact trivial|exact rfl|exact dC (fun a=>dV _ _ _ a)|fail)
 refine fun (_:Unit) (_:True)=>?_;repeat' (first|apply aA|exact zh|refine zt ?_|fail)
 refine ⟨⟨Nat,fun i=>(a+1<=i/\i<=b)/\SdR a i L,fun i=>[(7,.int .i64 (i:Int))],fun _=>[(0,.arr 5 1 L.length (lc bE 0 L))],fun i=>b - i⟩,a+1,⟨by omega,fun p q h1 h2 h3=>by omega⟩,?_,?_⟩
 ·repeat' (first|apply aA|exact trivial|exact rfl|exact dC (fun a=>dV _ _ _ a)|fail)
 rintro (i:Nat) ⟨⟨(h1:a+1<=i),(h2:i<=b)⟩,(hs:SdR a i L)⟩;have k1:(0:Int)<=(i:Int):=by omega
 have k2:(i:Int) < (b:Int)->(i:Int) < (L.length:Int):=by omega
 have k3:(i:Int) < (b:Int)->0+(i:Int).toNat < L.length:=by omega
 have k4:0<=(i:Int) - 1:=by omega
 have k5:(i:Int) - 1 < (L.length:Int):=by omega
 have k6:0+((i:Int) - 1).toNat < L.length:=by omega
 have k7:-9223372036854775808<=(i:Int) - 1:=by omega
 have k8:(i:Int) - 1<=9223372036854775807:=by omega
 have ei:0+(i:Int).toNat=i:=by omega
 have ei1:0+((i:Int) - 1).toNat=i - 1:=by omega
 repeat' (first|apply aA|exact trivial|exact rfl|refine gdL fun hp=>?_|with_reducible exact k1|with_reducible exact k2 hp|exact k3 hp|(with_reducible first|exact k4|exact k5)|exact k6|(with_reducible first|exact k7|exact k8))
 ·refine fun (hz:cS _ _ _ _ _=true)=>?_;rw [dE,aO,decide_eq_true_iff,bV,decide_eq_false_iff_not,ei,ei1] at hz;have hib:i < b:=by have h:(i:Int) < (b:Int):=hz.1; omega
  have hs2:SdR a (i+1) L:=Q2 (Gf hs) (aL i) fun _=>hz.2;have m1:a+1<=i+1/\i+1<=b:=by omega
  have m2:b - (i+1) < b - i:=by omega
  have m3:-9223372036854775808<=(i:Int)+1:=by omega
  have m4:(i:Int)+1<=9223372036854775807:=by omega
  repeat' (first|apply aA|(with_reducible first|exact m3|exact m4))
  refine aB (i+1) (aA ⟨m1,hs2⟩ (aA ?_ m2));repeat' (first|apply aA|exact trivial|exact rfl|exact dC (fun a=>dV _ _ _ a)|fail)
 refine fun _=>?_;repeat' (first|refine aA ?_ ?_)
 ·refine fun (hz:decide ((i:Int)=(b:Int))=true)=>?_;have hib:i=b:=by have:=of_decide_eq_true hz; omega
  subst hib;refine aB true (aA (fun _=>hs) ?_);repeat' (first|apply aA|exact trivial|exact rfl|exact dC (fun a=>dV _ _ _ a)|fail)
 refine fun _=>?_;repeat' (first|apply aA|(with_reducible first|exact b3|exact b4))
 ·refine fun _=>?_;refine aB false (aA (fun h=>Bool.noConfusion h) ?_);repeat' (first|apply aA|exact trivial|exact rfl|exact dC (fun a=>dV _ _ _ a)|fail)
 ·exact fun (h:decide ((b:Int) - (a:Int) < 50)=false)=>absurd (show (b:Int) - (a:Int) < 50 by omega) (of_decide_eq_false h)
end T53
end
