/- A part of the proof. -/
import Derived.Test.YtpiolkcdfgiefaaGreatDoorT53
import Derived.Test.YtpiolkcdfgiefaaGreatDoorT3
section
open Go Go.Eng Go.Proofs A0 T1 T28 T29 T50 T51 T52 T53
set_option maxRecDepth 100000
namespace T54
theorem Fk (x:Int):0<=IntKind.u64.wrap x/\IntKind.u64.wrap x < 18446744073709551616:=by rw [IntKind.wrap_u64]; omega
theorem Fl (a b:Int):0<=jK .xor .u64 a b/\jK .xor .u64 a b < 18446744073709551616:=Fk _
theorem Px (a:Int) (m:Nat) (hm:m < 1000):0<=jK .and .u64 a m/\jK .and .u64 a m<=m:=by
 have h:(BitVec.ofInt 64 a &&& BitVec.ofInt 64 (m:Int)).toNat<=m:=by
  rw [BitVec.toNat_and];refine bC Nat.and_le_right ?_;rw [BitVec.toNat_ofInt];omega
 have e:jK .and .u64 a m=IntKind.u64.wrap ((BitVec.ofInt 64 a &&& BitVec.ofInt 64 (m:Int)).toNat:Int):=rfl;rw [e,IntKind.wrap_u64];omega
theorem ext1 {T:Tb} {g:Option (Nat×Bool)} {fr:List (Nat×SV)} {r:List (Nat×aT)} {z:Nat×aT} {tyq sz n nx:Nat} {enc enc':Nat->SV} {K:SV->St->Prop} {o:SOp} (he:∀ j,enc j=enc' j) (h:Eng.evE T g ⟨fr,z::(0,.arr tyq sz n enc')::r,nx⟩ K o):Eng.evE T g ⟨fr,z::(0,.arr tyq sz n enc)::r,nx⟩ K o:=by
 rw [show enc=enc' from funext he]; exact h
def Et:List Int:=[0,1,2,2,3,3,3,3,4,4,4,4,4,4,4,4,5,5,5,5,5,5,5,5,5]
def Re:Eng.Spec where
 X:=Nat
 args:=fun n=>.cons (.int .u64 n) .nil
 pre:=fun n=>n<=24
 res:=fun n=>.int .i64 (Et.getD n 0)
 inst:=fun
  | .cons (.int _ (n:Int)) _=>some n.toNat
  | _=>none
theorem Rf:Re.Ok Tryz.prog 146:=by
 refine Eng.Spec.okR T29.e146 T29.q146 (fun _=>[]) (fun _ _=>aZ.nil) ?_;rintro (n:Nat) (hn:n<=24);have hc:n=0\/n=1\/n=2\/n=3\/n=4\/n=5\/n=6\/n=7\/n=8\/n=9\/n=10\/n=11\/n=12\/n=13\/n=14\/n=15\/n=16\/n=17\/n=18\/n=19\/n=20\/n=21\/n=22\/n=23\/n=24:=by omega
 rcases hc with rfl|rfl|rfl|rfl|rfl|rfl|rfl|rfl|rfl|rfl|rfl|rfl|rfl|rfl|rfl|rfl|rfl|rfl|rfl|rfl|rfl|rfl|rfl|rfl|rfl;all_goals
  refine ⟨trivial,?_⟩;repeat' (first|apply aA|decide|exact fun h=>absurd h (by decide)|refine fun (_:_=false)=>?_|fail)
def Yz:Eng.Spec where
 X:=Nat
 args:=fun n=>.cons (.int .u64 n) .nil
 pre:=fun n=>n<=24
 res:=fun n=>.int .i64 (Et.getD n 0)
 inst:=fun
  | .cons (.int _ (n:Int)) _=>some n.toNat
  | _=>none
theorem Rh:Yz.Ok Tryz.prog 144:=by
 refine Eng.Spec.okR T29.e144 T29.q144 (fun _=>[(146,.p Re)]) (fun _ _=>aZ.p Rf aZ.nil) ?_;rintro (n:Nat) (hn:n<=24);refine ⟨trivial,?_⟩;repeat' (first|exact hn|apply aA|exact trivial|exact rfl)
def g177:List Nat:=[0,2]
def c177:bH :=
 .seq (.region g177 [(zo 2 (.move (.c (.int (.u64) 0))))]) (.seq (.region g177 [(mv 3 0),(zo 4 (.cnv (.u64) (.s 3))),(zo 5 (.call (.c (.fn 144)) [.s 4])),(zo 6 (.bin (.shl) (.c (.int (.u64) 1)) (.s 5))),(mv 2 6)]) .ret)
theorem e177:cR Tryz.prog 177 g177 [] [] []=some (c177,[.slot 2],7):=by kernel_rfl
def aBe:Eng.Spec where
 X:=Nat
 args:=fun n=>.cons (.int .i64 n) .nil
 pre:=fun n=>13<=n/\n<=24
 res:=fun n=>.int .u64 (if n < 16 then 16 else 32)
 inst:=fun
  | .cons (.int _ (n:Int)) _=>some n.toNat
  | _=>none
theorem Zf:aBe.Ok Tryz.prog 177:=by
 refine Eng.Spec.okR e177 .nil (fun _=>[(144,.p Yz)]) (fun _ _=>aZ.p Rh aZ.nil) ?_;rintro (n:Nat) ⟨(h1:13<=n),(h2:n<=24)⟩;have hc:n=13\/n=14\/n=15\/n=16\/n=17\/n=18\/n=19\/n=20\/n=21\/n=22\/n=23\/n=24:=by omega
 rcases hc with rfl|rfl|rfl|rfl|rfl|rfl|rfl|rfl|rfl|rfl|rfl|rfl;all_goals
  refine ⟨trivial,?_⟩;repeat' (first|apply aA|exact trivial|decide|exact aM rfl|fail)
def g178:List Nat:=[0,2]
def c178:bH :=
 .seq (.region g178 [(zo 2 (.move (.c (.int (.u64) 0))))]) (.seq (.drawn g178 (.pure 0 (mv 3 0) (.pure 1 (zo 4 (.nilCheck (.s 3))) (.pure 2 (ld 5 4) (.pure 3 (mv 6 0) (.pure 4 (zo 7 (.nilCheck (.s 6))) (.pure 5 (ld 8 7) (.pure 6 (zo 9 (.bin (.shl) (.s 8) (.c (.int (.u64) 13)))) (.pure 7 (zo 10 (.bin (.xor) (.s 5) (.s 9))) (.pure 8 (zo 11 (.nilCheck (.s 3))) (.eff 9 ⟨none,none,.store 1 (.s 11) (.s 10),[]⟩ [] .done .none))))))))))) (.seq (.drawn g178 (.pure 0 (mv 12 0) (.pure 1 (zo 13 (.nilCheck (.s 12))) (.pure 2 (ld 14 13) (.pure 3 (mv 15 0) (.pure 4 (zo 16 (.nilCheck (.s 15))) (.pure 5 (ld 17 16) (.pure 6 (zo 18 (.bin (.shr) (.s 17) (.c (.int (.u64) 7)))) (.pure 7 (zo 19 (.bin (.xor) (.s 14) (.s 18))) (.pure 8 (zo 20 (.nilCheck (.s 12))) (.eff 9 ⟨none,none,.store 1 (.s 20) (.s 19),[]⟩ [] .done .none))))))))))) (.seq (.drawn g178 (.pure 0 (mv 21 0) (.pure 1 (zo 22 (.nilCheck (.s 21))) (.pure 2 (ld 23 22) (.pure 3 (mv 24 0) (.pure 4 (zo 25 (.nilCheck (.s 24))) (.pure 5 (ld 26 25) (.pure 6 (zo 27 (.bin (.shl) (.s 26) (.c (.int (.u64) 17)))) (.pure 7 (zo 28 (.bin (.xor) (.s 23) (.s 27))) (.pure 8 (zo 29 (.nilCheck (.s 21))) (.eff 9 ⟨none,none,.store 1 (.s 29) (.s 28),[]⟩ [] .done .none))))))))))) (.seq (.region g178 [(mv 30 0),(zo 31 (.nilCheck (.s 30))),(ld 32 31),(mv 2 32)]) .ret))))
theorem e178:cR Tryz.prog 178 g178 [] [] []=some (c178,[.slot 2],33):=by kernel_rfl
def aA8:bU where
 X:=Int
 Y:=Int
 args:=fun _=>.cons (.own 0 0) .nil
 pre:=fun s=>0<=s/\s < 18446744073709551616
 h0:=fun s=>[(0,.cells 205 (.cons (.int .u64 s) .nil))]
 nx0:=1
 post:=fun _ y=>0<=y/\y < 18446744073709551616
 res:=fun _ y=>.int .u64 y
 h1:=fun _ y=>[(0,.cells 205 (.cons (.int .u64 y) .nil))]
 nx1:=1
theorem Y8:aA8.Ok Tryz.prog 178:=by
 refine Eng.bU.okR e178 .nil (fun _=>[]) (fun _ _=>aZ.nil) ?_;rintro (s:Int) ⟨(h1:0<=s),(h2:s < 18446744073709551616)⟩;refine ⟨trivial,?_⟩;repeat' (first|apply aA|exact trivial|(show (0:Int)<=13; decide)|(show (0:Int)<=7; decide)|(show (0:Int)<=17; decide)|fail)
 refine aB ?y (aA ?h ?k)
 case k=>repeat' (first|apply aA|exact trivial|exact rfl)
 exact Fl _ _
def g163:List Nat:=[2,15,33,7,8,43,6,1,10,0,9]
def c163:bH :=
 .seq (.region g163 [(mv 11 2),(mv 12 1),(zo 13 (.bin (.sub) (.s 11) (.s 12))),(mv 6 13)]) (.seq (.region g163 [(mv 14 6),(zo 15 (.bin (.geq) (.s 14) (cj 8)))]) (.cond (.s 15) (.seq (.region g163 [(mv 16 6),(zo 17 (.cnv (.u64) (.s 16))),(zo 7 (.alloc 205 (.cons (.int (.u64) 0) .nil))),⟨none,none,.store 1 (.s 7) (.s 17),[]⟩]) (.seq (.region g163 [(mv 18 6),(zo 19 (.call (.c (.fn 177)) [.s 18])),(mv 8 19)]) (.seq (.region g163 [(mv 20 1),(mv 21 6),(zo 22 (.bin (.quo) (.s 21) (cj 4))),(zo 23 (.bin (.mul) (.s 22) (cj 2))),(zo 24 (.bin (.add) (.s 20) (.s 23))),(zo 25 (.bin (.sub) (.s 24) (cj 1))),(mv 9 25)]) (.block 0 (.loop 0 [26,27,28,29,30,31,32,33,36,37,38,39,40,41,42,43,44,45,46,10,47,48,49,50,51,52,53,54,55,56,57,58,59,60,61,62,63,64,34,35,9] (.seq (.seq (.region g163 [(mv 26 9),(mv 27 1),(mv 28 6),(zo 29 (.bin (.quo) (.s 28) (cj 4))),(zo 30 (.bin (.mul) (.s 29) (cj 2))),(zo 31 (.bin (.add) (.s 27) (.s 30))),(zo 32 (.bin (.add) (.s 31) (cj 1))),(zo 33 (.bin (.leq) (.s 26) (.s 32)))]) (.cond (.s 33) .skip (.exit 0))) (.seq (.block 1 (.seq (.region g163 [(zo 36 (.call (.c (.fn 178)) [.s 7])),(mv 37 8),(zo 38 (.bin (.sub) (.s 37) (.c (.int (.u64) 1)))),(zo 39 (.bin (.and) (.s 36) (.s 38))),(zo 40 (.cnv .i64 (.s 39))),(mv 10 40)]) (.seq (.seq (.region g163 [(mv 41 10),(mv 42 6),(zo 43 (.bin (.geq) (.s 41) (.s 42)))]) (.cond (.s 43) (.region g163 [(mv 44 10),(mv 45 6),(zo 46 (.bin (.sub) (.s 44) (.s 45))),(mv 10 46)]) .skip)) (.drawn g163 (.pure 0 (mv 47 0) (.pure 1 (mv 48 9) (.pure 2 (mv 49 0) (.pure 3 (mv 50 1) (.pure 4 (mv 51 10) (.pure 5 (zo 52 (.bin (.add) (.s 50) (.s 51))) (.pure 6 (mv 53 0) (.pure 7 (mv 54 1) (.pure 8 (mv 55 10) (.pure 9 (zo 56 (.bin (.add) (.s 54) (.s 55))) (.pure 10 (zo 57 (.idxSl 1 (.s 53) (.s 56))) (.pure 11 (ld 58 57) (.pure 12 (mv 59 0) (.pure 13 (mv 60 9) (.pure 14 (zo 61 (.idxSl 1 (.s 59) (.s 60))) (.pure 15 (ld 62 61) (.pure 16 (zo 63 (.idxSl 1 (.s 47) (.s 48))) (.eff 17 ⟨none,none,.store 1 (.s 63) (.s 58),[]⟩ [] (.pure 18 (zo 64 (.idxSl 1 (.s 49) (.s 52))) (.eff 19 ⟨none,none,.store 1 (.s 64) (.s 62),[]⟩ [] .done .none)) .none)))))))))))))))))))))) (.region g163 [(mv 34 9),(zo 35 (.bin (.add) (.s 34) (cj 1))),(mv 9 35)])))))))) .skip))
theorem e163:cR Tryz.prog 163 g163 [] [] []=some (c163,[],65):=by kernel_rfl
def Z1:bU where
 X:=List Int×Nat×Nat
 Y:=List Int
 args:=fun x=>.cons (.lsl 0 1 x.1.length) (.cons (.int .i64 (x.2.1:Int)) (.cons (.int .i64 (x.2.2:Int)) .nil))
 pre:=fun x=>x.2.2<=x.1.length/\x.1.length<=24/\x.2.1+13<=x.2.2
 h0:=fun x=>[arH x.1]
 nx0:=1
 post:=fun x y=>PR x.2.1 x.2.2 x.1 y
 res:=fun _ _=>.tup .nil
 h1:=fun x y=>[(0,.arr 5 1 x.1.length (lc bE 0 y))]
 nx1:=1
theorem Xh:Z1.Ok Tryz.prog 163:=by
 refine Eng.bU.okR e163 .nil (fun _=>[(177,.p aBe),(178,.m aA8)]) (fun _ _=>aZ.p Zf (aZ.m Y8 aZ.nil)) ?_;rintro ⟨L,a,b⟩ ⟨(hb:b<=L.length),(hn:L.length<=24),(hab:a+13<=b)⟩;refine ⟨trivial,?_⟩;have b3:-9223372036854775808<=(b:Int) - (a:Int):=by omega
 have b4:(b:Int) - (a:Int)<=9223372036854775807:=by omega
 repeat' (first|apply aA|(with_reducible first|exact b3|exact b4))
 rotate_left
 ·exact fun (h:decide ((b:Int) - (a:Int)>=8)=false)=>absurd (show (b:Int) - (a:Int)>=8 by omega) (of_decide_eq_false h)
 refine fun _=>?_;have hq:((b:Int) - (a:Int)).tdiv 4=(((b - a) / 4:Nat):Int):=by
  rw [iG (by omega)];omega
 obtain ⟨q,hqn⟩:∃ q,(b - a) / 4=q:=⟨_,rfl⟩;have hq2:3<=q/\q<=6/\4 * q<=b - a:=by omega
 rw [hqn] at hq;have c0:0<=(b:Int) - (a:Int):=by omega
 have c1:(b:Int) - (a:Int)<=18446744073709551615:=by omega
 have c2:13<=((b:Int) - (a:Int)).toNat:=by omega
 have c3:((b:Int) - (a:Int)).toNat<=24:=by omega
 have c4:(b:Int) - (a:Int)=(((b:Int) - (a:Int)).toNat:Int):=by omega
 have c5:-9223372036854775808<=((b:Int) - (a:Int)).tdiv 4:=by omega
 have c6:((b:Int) - (a:Int)).tdiv 4<=9223372036854775807:=by omega
 have c7:-9223372036854775808<=((b:Int) - (a:Int)).tdiv 4 * 2:=by omega
 have c8:((b:Int) - (a:Int)).tdiv 4 * 2<=9223372036854775807:=by omega
 have c9:-9223372036854775808<=(a:Int)+((b:Int) - (a:Int)).tdiv 4 * 2:=by omega
 have c10:(a:Int)+((b:Int) - (a:Int)).tdiv 4 * 2<=9223372036854775807:=by omega
 have c11:-9223372036854775808<=(a:Int)+((b:Int) - (a:Int)).tdiv 4 * 2 - 1:=by omega
 have c12:(a:Int)+((b:Int) - (a:Int)).tdiv 4 * 2 - 1<=9223372036854775807:=by omega
 have c13:-9223372036854775808<=(a:Int)+((b:Int) - (a:Int)).tdiv 4 * 2+1:=by omega
 have c14:(a:Int)+((b:Int) - (a:Int)).tdiv 4 * 2+1<=9223372036854775807:=by omega
 have n4:(4:Int)≠0:=by decide
 have e9:(a:Int)+((b:Int) - (a:Int)).tdiv 4 * 2 - 1=((a+q * 2 - 1+0:Nat):Int):=by omega
 repeat' (first|apply aA|exact trivial|exact rfl|(with_reducible first|exact c0|exact c1|exact c2|exact c3)|exact c4|(with_reducible first|exact c5|exact c6|exact c7|exact c8|exact c9|exact c10|exact c11|exact c12|exact n4))
 refine ⟨⟨Nat×Int×List Int,fun x=>x.1<=3/\(0<=x.2.1/\x.2.1 < 18446744073709551616)/\PR a b L x.2.2,fun x=>[(9,.int .i64 ((a+q * 2 - 1+x.1:Nat):Int))],fun x=>[(0,.arr 5 1 L.length (lc bE 0 x.2.2)),(1,.cells 205 (.cons (.int .u64 x.2.1) .nil))],fun x=>3 - x.1⟩,(0,(b:Int) - (a:Int),L),⟨by omega,(show 0<=(b:Int) - (a:Int)/\(b:Int) - (a:Int) < 18446744073709551616 by omega),PR.refl _ _ _⟩,?_,?_⟩
 ·repeat' (first|apply aA|exact trivial|exact rfl|exact dC (fun a=>dV _ _ _ a)|exact e9)
 rintro ⟨k,s,M⟩ ⟨(hk:k<=3),⟨(hs0:0<=s),(hs1:s < 18446744073709551616)⟩,(hp:PR a b L M)⟩;repeat' (first|apply aA|(with_reducible first|exact c5|exact c6|exact c7|exact c8|exact c9|exact c10|exact c13|exact c14|exact n4))
 ·refine fun (hz:decide (((a+q * 2 - 1+k:Nat):Int)<=(a:Int)+((b:Int) - (a:Int)).tdiv 4 * 2+1)=true)=>?_;have hk2:k<=2:=by have:=of_decide_eq_true hz; omega
  have hps:0<=s/\s < 18446744073709551616:=⟨hs0,hs1⟩;refine aB s (aB [1] ?_);repeat' (first|exact hps|apply aA|exact trivial|exact rfl)
  refine fun (y:Int) (hy:0<=y/\y < 18446744073709551616)=>?_;have hml:M.length=L.length:=hp.len;have hix:a<=a+q * 2 - 1+k/\a+q * 2 - 1+k < b:=by omega
  have hxl:a+q * 2 - 1+k < M.length:=by omega
  have x1:(0:Int)<=((a+q * 2 - 1+k:Nat):Int):=by omega
  have x2:((a+q * 2 - 1+k:Nat):Int) < (L.length:Int):=by omega
  have x3:0+((a+q * 2 - 1+k:Nat):Int).toNat < L.length:=by omega
  have ex:0+((a+q * 2 - 1+k:Nat):Int).toNat=a+q * 2 - 1+k:=by omega
  have x4:-9223372036854775808<=((a+q * 2 - 1+k:Nat):Int)+1:=by omega
  have x5:((a+q * 2 - 1+k:Nat):Int)+1<=9223372036854775807:=by omega
  obtain ⟨o,ho⟩:∃ o,jK .and .u64 y (IntKind.u64.wrap ((if ((b:Int) - (a:Int)).toNat < 16 then 16 else 32) - 1))=o:=⟨_,rfl⟩;have hob:0<=o/\o < 2 * ((b:Int) - (a:Int)):=by
   rw [<- ho];by_cases h:((b:Int) - (a:Int)).toNat < 16
   ·rw [if_pos h];have:=Px y 15 (by decide);rw [show IntKind.u64.wrap ((16:Int) - 1)=((15:Nat):Int) by rw [IntKind.wrap_u64]; rfl];omega
   ·rw [if_neg h];have:=Px y 31 (by decide);rw [show IntKind.u64.wrap ((32:Int) - 1)=((31:Nat):Int) by rw [IntKind.wrap_u64]; rfl];omega
  have o1:-9223372036854775808<=jK .and .u64 y (IntKind.u64.wrap ((if ((b:Int) - (a:Int)).toNat < 16 then 16 else 32) - 1)):=by rw [ho]; omega
  have o2:jK .and .u64 y (IntKind.u64.wrap ((if ((b:Int) - (a:Int)).toNat < 16 then 16 else 32) - 1))<=9223372036854775807:=by rw [ho]; omega
  have o3:-9223372036854775808<=jK .and .u64 y (IntKind.u64.wrap ((if ((b:Int) - (a:Int)).toNat < 16 then 16 else 32) - 1)) - ((b:Int) - (a:Int)):=by rw [ho]; omega
  have o4:jK .and .u64 y (IntKind.u64.wrap ((if ((b:Int) - (a:Int)).toNat < 16 then 16 else 32) - 1)) - ((b:Int) - (a:Int))<=9223372036854775807:=by rw [ho]; omega
  repeat' (first|refine aA ?_ ?_)
  ·exact o1
  ·exact o2
  ·refine fun (hz:decide (jK .and .u64 y (IntKind.u64.wrap ((if ((b:Int) - (a:Int)).toNat < 16 then 16 else 32) - 1))>=(b:Int) - (a:Int))=true)=>?_;have hge:=of_decide_eq_true hz;have hw:0<=jK .and .u64 y (IntKind.u64.wrap ((if ((b:Int) - (a:Int)).toNat < 16 then 16 else 32) - 1)) - ((b:Int) - (a:Int))/\jK .and .u64 y (IntKind.u64.wrap ((if ((b:Int) - (a:Int)).toNat < 16 then 16 else 32) - 1)) - ((b:Int) - (a:Int)) < (b:Int) - (a:Int):=by rw [ho] at hge ⊢; omega
   obtain ⟨r,hr⟩:∃ r:Nat,(a:Int)+(jK .and .u64 y (IntKind.u64.wrap ((if ((b:Int) - (a:Int)).toNat < 16 then 16 else 32) - 1)) - ((b:Int) - (a:Int)))=(r:Int):=⟨((a:Int)+(jK .and .u64 y (IntKind.u64.wrap ((if ((b:Int) - (a:Int)).toNat < 16 then 16 else 32) - 1)) - ((b:Int) - (a:Int)))).toNat,by omega⟩;have hr1:a<=r/\r < b:=by omega
   have w1:-9223372036854775808<=(a:Int)+(jK .and .u64 y (IntKind.u64.wrap ((if ((b:Int) - (a:Int)).toNat < 16 then 16 else 32) - 1)) - ((b:Int) - (a:Int))):=by omega
   have w2:(a:Int)+(jK .and .u64 y (IntKind.u64.wrap ((if ((b:Int) - (a:Int)).toNat < 16 then 16 else 32) - 1)) - ((b:Int) - (a:Int)))<=9223372036854775807:=by omega
   have w3:0<=(a:Int)+(jK .and .u64 y (IntKind.u64.wrap ((if ((b:Int) - (a:Int)).toNat < 16 then 16 else 32) - 1)) - ((b:Int) - (a:Int))):=by omega
   have w4:(a:Int)+(jK .and .u64 y (IntKind.u64.wrap ((if ((b:Int) - (a:Int)).toNat < 16 then 16 else 32) - 1)) - ((b:Int) - (a:Int))) < (L.length:Int):=by omega
   have w5:0+((a:Int)+(jK .and .u64 y (IntKind.u64.wrap ((if ((b:Int) - (a:Int)).toNat < 16 then 16 else 32) - 1)) - ((b:Int) - (a:Int)))).toNat < L.length:=by omega
   have er:0+((a:Int)+(jK .and .u64 y (IntKind.u64.wrap ((if ((b:Int) - (a:Int)).toNat < 16 then 16 else 32) - 1)) - ((b:Int) - (a:Int)))).toNat=r:=by omega
   have hrl:r < M.length:=by omega
   have hp2:=hp.xch (i:=a+q * 2 - 1+k) (j:=r) hix ⟨hr1.1,hr1.2⟩ (by omega);repeat' (first|apply aA|exact trivial|exact o3|exact o4|exact w1|exact w2|exact w3|exact w4|exact w5|(with_reducible first|exact x1|exact x2)|exact x3)
   refine ext1 (enc':=fun p=>lc bE 0 (M.set (a+q * 2 - 1+k) (M.getD r 0)) p) (fun p=>?_) ?_
   ·exact xs1 ex er hxl p
   have y1:k+1<=3:=by omega
   have y2:((a+q * 2 - 1+k:Nat):Int)+1=((a+q * 2 - 1+(k+1):Nat):Int):=by omega
   have y3:3 - (k+1) < 3 - k:=by omega
   repeat' (first|apply aA|exact trivial|(with_reducible first|exact x4|exact x5))
   ·exact w5
   refine aB (k+1,y,xch M (a+q * 2 - 1+k) r) (aA ⟨y1,hy,hp2⟩ (aA ?_ y3));repeat' (first|apply aA|exact trivial|exact rfl|exact xs3 ex er hxl hrl|fail)
  ·refine fun (hz:decide (jK .and .u64 y (IntKind.u64.wrap ((if ((b:Int) - (a:Int)).toNat < 16 then 16 else 32) - 1))>=(b:Int) - (a:Int))=false)=>?_;have hge:=of_decide_eq_false hz;have hw:0<=jK .and .u64 y (IntKind.u64.wrap ((if ((b:Int) - (a:Int)).toNat < 16 then 16 else 32) - 1))/\jK .and .u64 y (IntKind.u64.wrap ((if ((b:Int) - (a:Int)).toNat < 16 then 16 else 32) - 1)) < (b:Int) - (a:Int):=by rw [ho] at hge ⊢; omega
   obtain ⟨r,hr⟩:∃ r:Nat,(a:Int)+(jK .and .u64 y (IntKind.u64.wrap ((if ((b:Int) - (a:Int)).toNat < 16 then 16 else 32) - 1)))=(r:Int):=⟨((a:Int)+(jK .and .u64 y (IntKind.u64.wrap ((if ((b:Int) - (a:Int)).toNat < 16 then 16 else 32) - 1)))).toNat,by omega⟩;have hr1:a<=r/\r < b:=by omega
   have w1:-9223372036854775808<=(a:Int)+(jK .and .u64 y (IntKind.u64.wrap ((if ((b:Int) - (a:Int)).toNat < 16 then 16 else 32) - 1))):=by omega
   have w2:(a:Int)+(jK .and .u64 y (IntKind.u64.wrap ((if ((b:Int) - (a:Int)).toNat < 16 then 16 else 32) - 1)))<=9223372036854775807:=by omega
   have w3:0<=(a:Int)+(jK .and .u64 y (IntKind.u64.wrap ((if ((b:Int) - (a:Int)).toNat < 16 then 16 else 32) - 1))):=by omega
   have w4:(a:Int)+(jK .and .u64 y (IntKind.u64.wrap ((if ((b:Int) - (a:Int)).toNat < 16 then 16 else 32) - 1))) < (L.length:Int):=by omega
   have w5:0+((a:Int)+(jK .and .u64 y (IntKind.u64.wrap ((if ((b:Int) - (a:Int)).toNat < 16 then 16 else 32) - 1)))).toNat < L.length:=by omega
   have er:0+((a:Int)+(jK .and .u64 y (IntKind.u64.wrap ((if ((b:Int) - (a:Int)).toNat < 16 then 16 else 32) - 1)))).toNat=r:=by omega
   have hrl:r < M.length:=by omega
   have hp2:=hp.xch (i:=a+q * 2 - 1+k) (j:=r) hix ⟨hr1.1,hr1.2⟩ (by omega);repeat' (first|apply aA|exact trivial|exact w1|exact w2|exact w3|exact w4|exact w5|(with_reducible first|exact x1|exact x2)|exact x3)
   refine ext1 (enc':=fun p=>lc bE 0 (M.set (a+q * 2 - 1+k) (M.getD r 0)) p) (fun p=>?_) ?_
   ·exact xs1 ex er hxl p
   have y1:k+1<=3:=by omega
   have y2:((a+q * 2 - 1+k:Nat):Int)+1=((a+q * 2 - 1+(k+1):Nat):Int):=by omega
   have y3:3 - (k+1) < 3 - k:=by omega
   repeat' (first|apply aA|exact trivial|(with_reducible first|exact x4|exact x5))
   ·exact w5
   refine aB (k+1,y,xch M (a+q * 2 - 1+k) r) (aA ⟨y1,hy,hp2⟩ (aA ?_ y3));repeat' (first|apply aA|exact trivial|exact rfl|exact xs3 ex er hxl hrl|fail)
 refine fun _=>?_;refine aB M (aA hp ?_);repeat' (first|apply aA|exact trivial|exact rfl|exact dC (fun a=>dV _ _ _ a)|fail)
end T54
end
section
open Go Go.Eng Go.Proofs A0 T1 T28 T29 T50 T51 T52 T53 T54
set_option maxRecDepth 100000
namespace T55
def aA9:bU where
 X:=List Int×Nat×Nat×Int
 Y:=List Int
 args:=fun x=>.cons (.lsl 0 1 x.1.length) (.cons (.int .i64 (x.2.1:Int)) (.cons (.int .i64 (x.2.2.1:Int)) (.cons (.int .i64 x.2.2.2) .nil)))
 pre:=fun x=>x.2.2.1<=x.1.length/\x.1.length<=24/\x.2.1<=x.2.2.1/\x.2.2.1<=x.2.1+12
 h0:=fun x=>[arH x.1]
 nx0:=1
 post:=fun x y=>PR x.2.1 x.2.2.1 x.1 y/\SdR x.2.1 x.2.2.1 y
 res:=fun _ _=>.tup .nil
 h1:=fun x y=>[(0,.arr 5 1 x.1.length (lc bE 0 y))]
 nx1:=1
theorem Zb:aA9.Ok Tryz.prog 143:=by
 refine Eng.bU.okR T29.e143 T29.q143 (fun _=>[(161,.m Yl)]) (fun _ _=>aZ.m Q3 aZ.nil) ?_;rintro ⟨L,a,b,z⟩ ⟨(hb:b<=L.length),(hn:L.length<=24),(hab:a<=b),(h12:b<=a+12)⟩;refine ⟨trivial,?_⟩;have b3:-9223372036854775808<=(b:Int) - (a:Int):=by omega
 have b4:(b:Int) - (a:Int)<=9223372036854775807:=by omega
 have p1:b<=L.length/\L.length<=24/\a<=24:=by omega
 refine ⟨⟨Unit,fun _=>True,fun _=>[(1,.int .i64 (a:Int)),(2,.int .i64 (b:Int))],fun _=>[(0,.arr 5 1 L.length (lc bE 0 L))],fun _=>0⟩,(),trivial,?_,?_⟩
 ·repeat' (first|apply aA|exact trivial|exact rfl|exact dC (fun a=>dV _ _ _ a)|fail)
 refine fun (_:Unit) (_:True)=>?_;repeat' (first|apply aA|(with_reducible first|exact b3|exact b4))
 ·refine fun _=>?_;refine aB (L,a,b) (aB [0] ?_);repeat' (first|exact p1|apply aA|exact trivial|exact rfl|exact dC (fun a=>dV _ _ _ a)|fail)
  refine fun (y:List Int) (hy:PR a b L y/\SdR a b y)=>?_;refine aB y (aA hy ?_);repeat' (first|apply aA|exact trivial|exact rfl|exact dC (fun a=>dV _ _ _ a)|fail)
 ·exact fun (h:decide ((b:Int) - (a:Int)<=12)=false)=>absurd (of_decide_eq_false h) (by omega)
def Lim (wb:Bool) (lim w:Int):Prop:=w<=12\/(1<=lim/\w<=(bif wb then 14 else 12)+2 * lim)
structure PI (L:List Int) (a b:Nat) (lim:Int) (wb:Bool) (M:List Int):Prop where
 ab:a<=b
 bn:b<=L.length
 pr:PR 0 L.length L M
 ord:OR L.length a b M
 lm:Lim wb lim ((b:Int) - (a:Int))
 l0:0<=lim
 l1:lim<=5
theorem PI.fin12 {L:List Int} {a b:Nat} {lim:Int} {wb:Bool} {M y:List Int} (h:PI L a b lim wb M) (hnd:L.Nodup) (hp:PR a b M y) (hs:SdR a b y):y.Perm L/\SR 0 L.length y:=by
 have hpl:=hp.perm.trans h.pr.perm;refine ⟨hpl,(h.ord.perm hp h.bn (fU h.pr.len.symm)).done fun i j h1 h2 h3=>?_⟩;have hb:=h.bn;have hl:=hpl.length_eq;have hn:=hpl.nodup_iff.2 hnd;have h4:=hs i j h1 h2 h3;rcases Int.lt_or_eq_of_le h4 with h5|h5
 ·exact h5
 ·rw [aE,aE,aH (by omega),aH (by omega)] at h5;have:=(List.getElem_inj hn).1 (show y[i]=y[j] from h5);omega
theorem Mp {y:List Int} (hn:y.Nodup) {i j:Nat} (hi:i < y.length) (hj:j < y.length) (h:i≠j):y.getD i 0≠y.getD j 0:=fun e=>by
 rw [aE,aE,aH hi,aH hj] at e;exact h ((List.getElem_inj hn).1 (show y[i]=y[j] from e))
theorem Ua {a b m pv p q:Nat} {M N:List Int} (h:T52.Fin a b M (M.getD pv 0) m N) (hn:M.Nodup) (hb:b<=M.length) (hv:a<=pv/\pv < b) (hp:a<=p/\p < b) (hq:a<=q/\q < b) (hpn:p≠pv) (hqn:q≠pv)
  (h1:M.getD p 0<=M.getD pv 0) (h2:M.getD pv 0<=M.getD q 0):Par a b m N/\a < m/\m+1 < b:=by
 have hl:=h.pr.len;have hN:N.Nodup:=h.pr.perm.nodup_iff.2 hn;have hlo:=h.lo;have hhi:=h.hi;have hgt:∀ i,m < i->i < b->N.getD m 0 < N.getD i 0:=fun i k1 k2=>by
  have:=h.ge i k1 k2;rw [<- h.pv] at this;have:=Mp hN (i:=m) (j:=i) (by omega) (by omega) (by omega);omega
 have hlt:∀ i,a<=i->i < m->N.getD i 0 < N.getD m 0:=fun i k1 k2=>by rw [h.pv]; exact h.lt i k1 k2
 have hs:PR a b N M:=⟨h.pr.perm.symm,fun i hi=>(h.pr.out i hi).symm⟩;have n1:=Mp hn (i:=p) (j:=pv) (by omega) (by omega) hpn;have n2:=Mp hn (i:=q) (j:=pv) (by omega) (by omega) hqn;refine ⟨⟨hlo,hhi,hlt,hgt⟩,?_,?_⟩
 ·refine lF hlo fun e=>?_;have:=hs.all (by omega) (P:=fun x=>M.getD pv 0<=x) (fun i k1 k2=>by
   by_cases ei:i=m
   ·rw [ei,h.pv]; exact iF _
   ·have:=hgt i (by omega) k2;rw [h.pv] at this;omega) p hp.1 hp.2
  omega
 ·refine lF hhi fun e=>?_;have:=hs.all (by omega) (P:=fun x=>x<=M.getD pv 0) (fun i k1 k2=>by
   by_cases ei:i=m
   ·rw [ei,h.pv]; exact iF _
   ·have:=hlt i k1 (by omega);rw [h.pv] at this;omega) q hq.1 hq.2
  omega
theorem Rj {wb:Bool} {lm w:Int} (h0:0<=lm) (h:w<=12+2 * lm):Lim wb lm w:=by
 by_cases e:lm=0
 ·exact .inl (by omega)
 ·refine .inr ⟨by omega,?_⟩;cases wb
  ·exact h
  ·show w<=14+2 * lm;omega
theorem Ws {a b:Nat} {y:List Int} (hn:y.Nodup) (hb:b<=y.length) (h:SdR a b y):SR a b y:=fun i j h1 h2 h3=>by
 have:=Mp hn (i:=i) (j:=j) (by omega) (by omega) (by omega);have:=h i j h1 h2 h3;omega
def g143:List Nat:=[23,29,35,50,12,68,72,87,13,11,15,9,10,113,16,1,17,18,8,0,3,14,2]
def c143:bH :=
 .seq (.region g143 [(zo 8 (.move cT))]) (.seq (.region g143 [(zo 9 (.move cT))]) (.block 0 (.loop 0 [19,20,21,10,22,23,24,25,26,27,28,29,30,31,32,33,34,35,36,37,38,39,40,41,3,43,44,45,46,42,47,48,49,50,51,52,53,54,55,56,57,58,59,60,11,12,61,62,63,64,65,66,67,68,69,70,71,72,73,74,75,76,77,78,79,80,81,82,83,84,85,86,87,88,89,90,91,92,13,93,95,96,97,98,99,94,100,101,14,15,102,9,103,104,105,106,107,108,16,17,109,110,18,111,112,113,114,115,116,117,118,119,120,121,122,123,1,124,125,126,8,127,128,129,130,131,132,133,2] (.block 1 (.seq (.region g143 [(mv 19 2),(mv 20 1),(zo 21 (.bin (.sub) (.s 19) (.s 20))),(mv 10 21)]) (.seq (.seq (.region g143 [(mv 22 10),(zo 23 (.bin (.leq) (.s 22) (cj 12)))]) (.cond (.s 23) (.seq (.region g143 [(mv 24 0),(mv 25 1),(mv 26 2),(zo 27 (.call (.c (.fn 161)) [.s 24,.s 25,.s 26]))]) .ret) .skip)) (.seq (.seq (.region g143 [(mv 28 3),(zo 29 (.bin (.eql) (.s 28) (cj 0)))]) (.cond (.s 29) (.seq (.region g143 [(mv 30 0),(mv 31 1),(mv 32 2),(zo 33 (.call (.c (.fn 162)) [.s 30,.s 31,.s 32]))]) .ret) .skip)) (.seq (.seq (.region g143 [(mv 34 8),(zo 35 (.not (.s 34)))]) (.join 1 [36,37,38,39,40,41,3] (.cond (.s 35) (.seq (.region g143 [(mv 36 0),(mv 37 1),(mv 38 2),(zo 39 (.call (.c (.fn 163)) [.s 36,.s 37,.s 38]))]) (.region g143 [(mv 40 3),(zo 41 (.bin (.sub) (.s 40) (cj 1))),(mv 3 41)])) .skip))) (.seq (.region g143 [(mv 43 0),(mv 44 1),(mv 45 2),(zo 46 (.call (.c (.fn 164)) [.s 43,.s 44,.s 45])),(mv 42 46),(zo 47 (.extract 0 (.s 42))),(zo 48 (.extract 1 (.s 42))),(mv 11 47),(mv 12 48)]) (.seq (.seq (.region g143 [(mv 49 12),(zo 50 (.bin (.eql) (.s 49) (cj 2)))]) (.cond (.s 50) (.seq (.region g143 [(mv 51 0),(mv 52 1),(mv 53 2),(zo 54 (.call (.c (.fn 165)) [.s 51,.s 52,.s 53]))]) (.seq (.region g143 [(mv 55 2),(zo 56 (.bin (.sub) (.s 55) (cj 1))),(mv 57 11),(mv 58 1),(zo 59 (.bin (.sub) (.s 57) (.s 58))),(zo 60 (.bin (.sub) (.s 56) (.s 59))),(mv 11 60)]) (.region g143 [(zo 12 (.move (cj 1)))]))) .skip)) (.seq (.seq (.region g143 [(mv 61 8),(mv 62 61),(mg 63 62 true 9),(zo 64 (.pick (.s 62) (.s 63) cF)),(mv 65 64),(mg 66 65 true 12),(zg 67 65 true (.bin (.eql) (.s 66) (cj 1))),(zo 68 (.pick (.s 65) (.s 67) cF))]) (.join 2 [69,70,71,72] (.cond (.s 68) (.seq (.region g143 [(mv 69 0),(mv 70 1),(mv 71 2),(zo 72 (.call (.c (.fn 166)) [.s 69,.s 70,.s 71]))]) (.cond (.s 72) .ret .skip)) .skip))) (.seq (.seq (.drawn g143 (.pure 0 (mv 73 1) (.pure 1 (zo 74 (.bin (.gtr) (.s 73) (cj 0))) (.pure 2 (mv 75 74) (.pure 3 (mg 76 75 true 0) (.pure 4 (mg 77 75 true 1) (.pure 5 (zg 78 75 true (.bin (.sub) (.s 77) (cj 1))) (.pure 6 (zg 79 75 true (.idxSl 1 (.s 76) (.s 78))) (.pure 7 (lg 80 75 true 79) (.pure 8 (mg 81 75 true 0) (.pure 9 (mg 82 75 true 11) (.pure 10 (zg 83 75 true (.idxSl 1 (.s 81) (.s 82))) (.pure 11 (lg 84 75 true 83) (.pure 12 (zg 85 75 true (.call (.c (.fn 167)) [.s 80,.s 84])) (.pure 13 (zg 86 75 true (.not (.s 85))) (.pure 14 (zo 87 (.pick (.s 75) (.s 86) cF)) .done)))))))))))))))) (.cond (.s 87) (.seq (.region g143 [(mv 88 0),(mv 89 1),(mv 90 2),(mv 91 11),(zo 92 (.call (.c (.fn 168)) [.s 88,.s 89,.s 90,.s 91])),(mv 13 92)]) (.seq (.region g143 [(mv 93 13),(mv 1 93)]) (.exit 1))) .skip)) (.seq (.region g143 [(mv 95 0),(mv 96 1),(mv 97 2),(mv 98 11),(zo 99 (.call (.c (.fn 169)) [.s 95,.s 96,.s 97,.s 98])),(mv 94 99),(zo 100 (.extract 0 (.s 94))),(zo 101 (.extract 1 (.s 94))),(mv 14 100),(mv 15 101)]) (.seq (.region g143 [(mv 102 15),(mv 9 102)]) (.seq (.region g143 [(mv 103 14),(mv 104 1),(zo 105 (.bin (.sub) (.s 103) (.s 104))),(mv 106 2),(mv 107 14),(zo 108 (.bin (.sub) (.s 106) (.s 107))),(mv 16 105),(mv 17 108)]) (.seq (.region g143 [(mv 109 10),(zo 110 (.bin (.quo) (.s 109) (cj 8))),(mv 18 110)]) (.seq (.region g143 [(mv 111 16),(mv 112 17),(zo 113 (.bin (.lss) (.s 111) (.s 112)))]) (.cond (.s 113) (.seq (.region g143 [(mv 114 16),(mv 115 18),(zo 116 (.bin (.geq) (.s 114) (.s 115))),(mv 8 116)]) (.seq (.region g143 [(mv 117 0),(mv 118 1),(mv 119 14),(mv 120 3),(zo 121 (.call (.c (.fn 143)) [.s 117,.s 118,.s 119,.s 120]))]) (.region g143 [(mv 122 14),(zo 123 (.bin (.add) (.s 122) (cj 1))),(mv 1 123)]))) (.seq (.region g143 [(mv 124 17),(mv 125 18),(zo 126 (.bin (.geq) (.s 124) (.s 125))),(mv 8 126)]) (.seq (.region g143 [(mv 127 0),(mv 128 14),(zo 129 (.bin (.add) (.s 128) (cj 1))),(mv 130 2),(mv 131 3),(zo 132 (.call (.c (.fn 143)) [.s 127,.s 129,.s 130,.s 131]))]) (.region g143 [(mv 133 14),(mv 2 133)])))))))))))))))))))))
def r143:List mD:=[]
def k143:List (Nat×Nat×bH×Nat):=[]
theorem e143:cR Tryz.prog 143 g143 [2,4] [] k143=some (c143,r143,134):=by kernel_rfl
theorem q143:lP Tryz.prog k143:=lP.nil
def aBa:bU where
 X:=List Int×Int
 Y:=List Int
 args:=fun x=>.cons (.lsl 0 1 x.1.length) (.cons (.int .i64 0) (.cons (.int .i64 (x.1.length:Int)) (.cons (.int .i64 x.2) .nil)))
 pre:=fun x=>(x.1.length<=24/\x.1.Nodup)/\(0<=x.2/\x.2<=5)/\Lim true x.2 (x.1.length:Int)
 h0:=fun x=>[arH x.1]
 nx0:=1
 post:=fun x y=>y.Perm x.1/\SR 0 x.1.length y
 res:=fun _ _=>.tup .nil
 h1:=fun x y=>[(0,.arr 5 1 x.1.length (lc bE 0 y))]
 nx1:=1
set_option maxHeartbeats 1000000 in
theorem Zc:aBa.Ok Tryz.prog 143:=by
 refine Eng.bU.okR e143 q143 (fun _=>[(161,.m Yl),(163,.m Z1),(164,.m Z3),(166,.m aBc),(169,.m aBb),(143,.m aA9),(167,.p wR)]) (fun _ _=>aZ.m Q3 (aZ.m Xh (aZ.m Xl (aZ.m Ze (aZ.m Zd (aZ.m Zb (aZ.p rS aZ.nil))))))) ?_;rintro ⟨L,l0⟩ ⟨⟨(hn:L.length<=24),(hnd:L.Nodup)⟩,⟨(hl0:0<=l0),(hl5:l0<=5)⟩,(hlim:Lim true l0 (L.length:Int))⟩;refine ⟨trivial,?_⟩;have hi0:PI L 0 L.length l0 true L:=⟨bB _,aL _,PR.refl _ _ _,fun i j h1 h2 h3=>by omega,by rw [show (L.length:Int) - ((0:Nat):Int)=(L.length:Int) by omega]; exact hlim,hl0,hl5⟩;refine ⟨⟨Nat×Nat×Int×Bool×Bool×List Int,fun x=>PI L x.1 x.2.1 x.2.2.1 x.2.2.2.1 x.2.2.2.2.2,fun x=>[(1,.int .i64 (x.1:Int)),(2,.int .i64 (x.2.1:Int)),(3,.int .i64 x.2.2.1),(8,.bool x.2.2.2.1),(9,.bool x.2.2.2.2.1)],fun x=>[(0,.arr 5 1 L.length (lc bE 0 x.2.2.2.2.2))],fun x=>x.2.1 - x.1⟩,(0,L.length,l0,true,true,L),hi0,?_,?_⟩
 ·repeat' (first|apply aA|exact trivial|exact rfl|exact dC (fun a=>dV _ _ _ a)|fail)
 rintro ⟨a,b,lim,wb,wp,M⟩ (hI:PI L a b lim wb M);have hab:=hI.ab;have hbn:=hI.bn;have hll:=hI.l0;have hl5:=hI.l1;have hml:M.length=L.length:=hI.pr.len;have b3:-9223372036854775808<=(b:Int) - (a:Int):=by omega
 have b4:(b:Int) - (a:Int)<=9223372036854775807:=by omega
 repeat' (first|apply aA|(with_reducible first|exact b3|exact b4))
 ·refine fun (hz:decide ((b:Int) - (a:Int)<=12)=true)=>?_;have h12:=of_decide_eq_true hz;have p1:b<=M.length/\M.length<=24/\a<=24:=by omega
  refine aB (M,a,b) (aB [0] ?_);repeat' (first|exact p1|apply aA|exact trivial|exact rfl|exact dC (fun a=>dV _ _ _ a)|exact hml.symm)
  refine fun (y:List Int) (hy:PR a b M y/\SdR a b y)=>?_;have hpost:=hI.fin12 hnd hy.1 hy.2;refine aB y (aA hpost ?_);repeat' (first|apply aA|exact trivial|exact rfl|exact dC (fun a=>dV _ _ _ a)|exact hml)
 refine fun (hz:decide ((b:Int) - (a:Int)<=12)=false)=>?_;have h12:a+13<=b:=by have:=of_decide_eq_false hz; omega
 have hlm:=hI.lm;have hlim1:1<=lim:=by unfold Lim at hlm; omega
 have hpb:b<=M.length/\M.length<=24/\a+13<=b:=by omega
 repeat' (first|apply aA|exact fun (h:decide (lim=0)=true)=>absurd (of_decide_eq_true h) (show ¬ lim=0 by omega)|refine fun (_:decide (lim=0)=false)=>?_|fail)
 refine aB ⟨Int×List Int,fun x=>PR a b M x.2/\(0<=x.1/\x.1<=5)/\((b:Int) - (a:Int)<=14+2 * x.1),fun x=>[(3,.int .i64 x.1)],fun x=>[(0,.arr 5 1 L.length (lc bE 0 x.2))],fun _=>0⟩ (aA ?_ ?_)
 ·cases wb
  ·have hlf:(b:Int) - (a:Int)<=12+2 * lim:=by
    rcases hlm with h|h
    ·omega
    ·exact h.2
   have m1:-9223372036854775808<=lim - 1:=by omega
   have m2:lim - 1<=9223372036854775807:=by omega
   repeat' (first|apply aA|exact zh|refine zt ?_|fail)
   refine aB (M,a,b) (aB [0] ?_);repeat' (first|exact hpb|apply aA|exact trivial|exact rfl|exact dC (fun a=>dV _ _ _ a)|exact hml.symm)
   refine fun (y:List Int) (hy:PR a b M y)=>?_;repeat' (first|apply aA|(with_reducible first|exact m1|exact m2))
   refine aB (lim - 1,y) (aA ⟨hy,(show 0<=lim - 1/\lim - 1<=5 by omega),(show (b:Int) - (a:Int)<=14+2 * (lim - 1) by omega)⟩ ?_);repeat' (first|apply aA|exact trivial|exact rfl|exact dC (fun a=>dV _ _ _ a)|exact hml)
  ·have hlt:(b:Int) - (a:Int)<=14+2 * lim:=by
    rcases hlm with h|h
    ·omega
    ·exact h.2
   repeat' (first|apply aA|exact zf|refine zt ?_|fail)
   refine aB (lim,M) (aA ⟨PR.refl _ _ _,⟨hll,hl5⟩,hlt⟩ ?_);repeat' (first|apply aA|exact trivial|exact rfl|exact dC (fun a=>dV _ _ _ a)|fail)
 rintro ⟨lm,M1⟩ ⟨(hp1:PR a b M M1),⟨(hm0:0<=lm),(hm5:lm<=5)⟩,(hmw:(b:Int) - (a:Int)<=14+2 * lm)⟩;have hm1l:M1.length=L.length:=hp1.len.trans hml;have hpb1:b<=M1.length/\M1.length<=24/\a+13<=b:=by omega
 have hpr1:=hI.pr.trans (hp1.mono (bB a) hbn);have hor1:=hI.ord.perm hp1 hbn (fU hml.symm);refine aB (M1,a,b) (aB [0] ?_);repeat' (first|exact hpb1|apply aA|exact trivial|exact rfl|exact dC (fun a=>dV _ _ _ a)|exact hm1l.symm)
 refine fun (y:Nat×Int) (hy:(a<=y.1/\y.1 < b)/\(y.2=0\/y.2=1)/\∃ p q,(a<=p/\p < b)/\(a<=q/\q < b)/\(p≠y.1/\q≠y.1)/\M1.getD p 0<=M1.getD y.1 0/\M1.getD y.1 0<=M1.getD q 0)=>?_;obtain ⟨pv,hint⟩:=y;obtain ⟨⟨(hv1:a<=pv),(hv2:pv < b)⟩,(hh:hint=0\/hint=1),p,q,⟨hpa,hpb2⟩,⟨hqa,hqb⟩,⟨(hpn:p≠pv),(hqn:q≠pv)⟩,(hle1:M1.getD p 0<=M1.getD pv 0),(hle2:M1.getD pv 0<=M1.getD q 0)⟩:=hy;repeat' (first|apply aA|exact fun (h:decide (hint=2)=true)=>absurd (of_decide_eq_true h) (show ¬ hint=2 by omega)|refine fun (_:decide (hint=2)=false)=>?_|fail)
 refine aB ⟨Unit,fun _=>True,fun _=>[],fun _=>[(0,.arr 5 1 L.length (lc bE 0 M1))],fun _=>0⟩ (aA ?_ ?_)
 ·repeat' (first|refine aA ?_ ?_)
  ·refine fun _=>?_;refine aB (M1,a,b) (aB [0] ?_);repeat' (first|exact hpb1|apply aA|exact trivial|exact rfl|exact dC (fun a=>dV _ _ _ a)|exact hm1l.symm)
   refine fun (y:Bool) (hy:y=true->SdR a b M1)=>?_;cases y
   ·repeat' (first|apply aA|exact zf|refine zt ?_|fail)
    refine aB () ?_;repeat' (first|apply aA|exact trivial|exact rfl|exact dC (fun a=>dV _ _ _ a)|exact hm1l)
   ·have hpost:=hI.fin12 hnd hp1 (hy rfl);repeat' (first|apply aA|exact zh|refine zt ?_|fail)
    refine aB M1 (aA hpost ?_);repeat' (first|apply aA|exact trivial|exact rfl|exact dC (fun a=>dV _ _ _ a)|exact hm1l)
  ·refine fun _=>?_;refine aB () ?_;repeat' (first|apply aA|exact trivial|exact rfl|exact dC (fun a=>dV _ _ _ a)|exact hm1l)
 refine fun (_:Unit) (_:True)=>?_;have r1:-9223372036854775808<=(a:Int) - 1:=by omega
 have r2:(a:Int) - 1<=9223372036854775807:=by omega
 have r3:(0:Int) < (a:Int)->0<=(a:Int) - 1:=by omega
 have r4:(a:Int) - 1 < (L.length:Int):=by omega
 have r5:0+((a:Int) - 1).toNat < L.length:=by omega
 have r6:(0:Int)<=(pv:Int):=by omega
 have r7:(pv:Int) < (L.length:Int):=by omega
 have r8:0+(pv:Int).toNat < L.length:=by omega
 have epv:0+(pv:Int).toNat=pv:=by omega
 have ea1:0+((a:Int) - 1).toNat=a - 1:=by omega
 have hprp:(b<=M1.length/\M1.length<=24/\a+1 < b)/\a<=pv/\pv < b:=by omega
 repeat' (first|apply aA|exact trivial|exact rfl|refine gdL fun hp=>?_|(with_reducible first|exact r1|exact r2)|with_reducible exact r3 hp|with_reducible exact r4|exact r5|(with_reducible first|exact r6|exact r7)|exact r8)
 ·refine fun (hz:cS _ _ _ _ _=true)=>?_;rw [dE,aO,decide_eq_true_iff,bV,decide_eq_false_iff_not,epv,ea1] at hz;have ha0:0 < a:=by have h:(0:Int) < (a:Int):=hz.1; omega
  exact absurd (hor1 (a - 1) pv (by omega) (by omega) (.inl (by omega))) hz.2
 refine fun _=>?_;refine aB (M1,a,b,pv) (aB [0] ?_);repeat' (first|exact hprp|apply aA|exact trivial|exact rfl|exact dC (fun a=>dV _ _ _ a)|exact hm1l.symm)
 refine fun (y:Nat×Bool×List Int) (hy:T52.Fin a b M1 (M1.getD pv 0) y.1 y.2.2)=>?_;obtain ⟨m,al,M2⟩:=y;replace hy:T52.Fin a b M1 (M1.getD pv 0) m M2:=hy;have hnd1:M1.Nodup:=hpr1.perm.nodup_iff.2 hnd;obtain ⟨hpar,ham,hmb⟩:=Ua hy hnd1 hpb1.1 ⟨hv1,hv2⟩ ⟨hpa,hpb2⟩ ⟨hqa,hqb⟩ hpn hqn hle1 hle2;have hm2l:M2.length=L.length:=hy.pr.len.trans hm1l;have hpr2:=hpr1.trans (hy.pr.mono (bB a) hbn);have hor2:=hor1.perm hy.pr hbn (fU hm1l.symm);have hnd2:M2.Nodup:=hpr2.perm.nodup_iff.2 hnd;have v1:-9223372036854775808<=(m:Int) - (a:Int):=by omega
 have v2:(m:Int) - (a:Int)<=9223372036854775807:=by omega
 have v3:-9223372036854775808<=(b:Int) - (m:Int):=by omega
 have v4:(b:Int) - (m:Int)<=9223372036854775807:=by omega
 have v5:(8:Int)≠0:=by decide
 have hq8:((b:Int) - (a:Int)).tdiv 8=(((b - a) / 8:Nat):Int):=by
  rw [iG (by omega)];omega
 have v6:-9223372036854775808<=((b:Int) - (a:Int)).tdiv 8:=by omega
 have v7:((b:Int) - (a:Int)).tdiv 8<=9223372036854775807:=by omega
 have v8:-9223372036854775808<=(m:Int)+1:=by omega
 have v9:(m:Int)+1<=9223372036854775807:=by omega
 repeat' (first|apply aA|(with_reducible first|exact v1|exact v2|exact v3|exact v4|exact v5|exact v6|exact v7))
 ·refine fun (hz:decide ((m:Int) - (a:Int) < (b:Int) - (m:Int))=true)=>?_;have hz1:=of_decide_eq_true hz;have hc1:m<=M2.length/\M2.length<=24/\a<=m/\m<=a+12:=by omega
  refine aB (M2,a,m,lm) (aB [0] ?_);repeat' (first|exact hc1|apply aA|exact trivial|exact rfl|exact dC (fun a=>dV _ _ _ a)|exact hm2l.symm|exact hm1l.trans hm2l.symm|fail)
  refine fun (y:List Int) (hy:PR a m M2 y/\SdR a m y)=>?_;have hyl:y.length=L.length:=hy.1.len.trans hm2l;have hny:y.Nodup:=hy.1.perm.nodup_iff.2 hnd2;have hsr:SR a m y:=Ws hny (by omega) hy.2;obtain ⟨c,hc⟩:∃ c,c=m+1:=⟨_,rfl⟩;have emc:(m:Int)+1=(c:Int):=by omega
  have hpi:∀ w,PI L c b lm w y:=fun w=>by
   subst hc;exact ⟨by omega,hbn,hpr2.trans (hy.1.mono (bB a) (by omega)),hpar.right hor2 hy.1 hsr hbn (fU hm2l.symm),Rj hm0 (by omega),hm0,hm5⟩
  repeat' (first|apply aA|(with_reducible first|exact v8|exact v9))
  first|rw [emc]|rw [show Int.add (m:Int) 1=(c:Int) from emc]|simp only [emc]
  refine aB (c,b,lm,decide (((b:Int) - (a:Int)).tdiv 8<=(m:Int) - (a:Int)),al,y) ?_;refine aA (hpi _) ?_;have hdec:b - c < b - a:=by omega
  repeat' (first|exact hdec|apply aA|exact trivial|exact rfl|exact dC (fun a=>dV _ _ _ a)|exact hm2l)
 ·refine fun (hz:decide ((m:Int) - (a:Int) < (b:Int) - (m:Int))=false)=>?_;have hz1:=of_decide_eq_false hz;have hc1:b<=M2.length/\M2.length<=24/\m+1<=b/\b<=m+1+12:=by omega
  have emi:(m:Int)+1=((m+1:Nat):Int):=by omega
  repeat' (first|apply aA|(with_reducible first|exact v8|exact v9))
  obtain ⟨c,hc⟩:∃ c,c=m+1:=⟨_,rfl⟩;have emc:(m:Int)+1=(c:Int):=by omega
  have hc2:b<=M2.length/\M2.length<=24/\c<=b/\b<=c+12:=by omega
  first|rw [emc]|rw [show Int.add (m:Int) 1=(c:Int) from emc]|simp only [emc]
  refine aB (M2,c,b,lm) (aB [0] ?_);repeat' (first|exact hc2|apply aA|exact trivial|exact rfl|exact dC (fun a=>dV _ _ _ a)|exact hm2l.symm|exact hm1l.trans hm2l.symm|fail)
  refine fun (y:List Int) (hy0:PR c b M2 y/\SdR c b y)=>?_;have hy:PR (m+1) b M2 y/\SdR (m+1) b y:=hc ▸ hy0;have hyl:y.length=L.length:=hy.1.len.trans hm2l;have hny:y.Nodup:=hy.1.perm.nodup_iff.2 hnd2;have hsr:SR (m+1) b y:=Ws hny (by omega) hy.2;have hpi:∀ w,PI L a m lm w y:=fun w=>⟨by omega,by omega,hpr2.trans (hy.1.mono (bB _) hbn),hpar.left hor2 hy.1 hsr hbn (fU hm2l.symm),Rj hm0 (by omega),hm0,hm5⟩;refine aB (a,m,lm,decide (((b:Int) - (a:Int)).tdiv 8<=(b:Int) - (m:Int)),al,y) ?_;refine aA (hpi _) ?_;have hdec:m - a < b - a:=by omega
  repeat' (first|exact hdec|apply aA|exact trivial|exact rfl|exact dC (fun a=>dV _ _ _ a)|exact hm2l)
end T55
end
section
open Go Go.Eng Go.Proofs A0 T1 T2 T3 T4 T5 T6 T13 T28 T29 T50 T51 T52 T53 T54 T55
set_option maxRecDepth 100000
namespace T56
theorem lim24 {n:Nat} (hn:n<=24):(0<=Et.getD n 0/\Et.getD n 0<=5)/\Lim true (Et.getD n 0) (n:Int):=by
 have hc:n=0\/n=1\/n=2\/n=3\/n=4\/n=5\/n=6\/n=7\/n=8\/n=9\/n=10\/n=11\/n=12\/n=13\/n=14\/n=15\/n=16\/n=17\/n=18\/n=19\/n=20\/n=21\/n=22\/n=23\/n=24:=by omega
 unfold Lim;rcases hc with rfl|rfl|rfl|rfl|rfl|rfl|rfl|rfl|rfl|rfl|rfl|rfl|rfl|rfl|rfl|rfl|rfl|rfl|rfl|rfl|rfl|rfl|rfl|rfl|rfl;all_goals decide
theorem Zl {y:List Int} {n:Nat} (hn:y.length=n) (h:SR 0 n y):Srd y y.length:=fun i j h1 h2=>by
 have:=h i j (bB i) h1 (by omega);omega
def Wu:bU where
 X:=List Int
 Y:=List Int
 args:=fun x=>.cons (.lsl 0 1 x.length) .nil
 pre:=fun x=>x.length<=24/\x.Nodup
 h0:=fun x=>[arH x]
 nx0:=1
 post:=fun x y=>y.Perm x/\Srd y y.length
 res:=fun _ _=>.tup .nil
 h1:=fun x y=>[(0,.arr 5 1 x.length (lc bE 0 y))]
 nx1:=1
theorem Vj:Wu.Ok Tryz.prog 123:=by
 refine Eng.bU.okR T29.e123 T29.q123 (fun _=>[(144,.p T54.Yz),(143,.m aBa)]) (fun _ _=>aZ.p T54.Rh (aZ.m Zc aZ.nil)) ?_;rintro (L:List Int) ⟨(hn:L.length<=24),(hnd:L.Nodup)⟩;refine ⟨trivial,?_⟩;repeat' (first|exact hn|apply aA|exact trivial|exact rfl)
 ·show (0:Int)<=(L.length:Int);omega
 ·show (L.length:Int)<=18446744073709551615;omega
 have hpre:(L.length<=24/\L.Nodup)/\(0<=Et.getD L.length 0/\Et.getD L.length 0<=5)/\Lim true (Et.getD L.length 0) (L.length:Int):=⟨⟨hn,hnd⟩,lim24 hn⟩;refine aB (L,Et.getD L.length 0) (aB [0] ?_);repeat' (first|exact hpre|apply aA|exact trivial|exact rfl|exact dC (fun a=>dV _ _ _ a)|fail)
 refine fun (y:List Int) (hy:y.Perm L/\SR 0 L.length y)=>?_;refine aB y (aA ⟨hy.1,Zl hy.1.length_eq hy.2⟩ ?_);repeat' (first|apply aA|exact trivial|exact rfl|exact dC (fun a=>dV _ _ _ a)|fail)
def M3:bU where
 X:=KX
 Y:=List Int
 args:=fun x=>.cons (clo x.m) .nil
 pre:=fun x=>KOk x/\x.l.length<=24/\(mN x.l).Nodup
 h0:=fun x=>[(0,.fam fun q=>noO 0 (x.N q))]
 nx0:=1
 post:=fun x y=>y.Perm (mN x.l)/\Srd y y.length
 res:=fun _ y=>.lsl 1 1 y.length
 h1:=fun x y=>[(0,.fam fun q=>noO 0 (x.N q)),(1,.arr 5 1 y.length (lc bE 0 y))]
 nx1:=2
theorem O6:M3.Ok Tryz.prog 99:=by
 refine Eng.bU.okR T29.e99 T29.q99 (fun _=>[(122,.m V1),(123,.m Wu)]) (fun _ _=>aZ.m Tu (aZ.m Vj aZ.nil)) ?_;rintro ⟨N,m,l,q⟩ ⟨(h:KOk ⟨N,m,l,q⟩),(hl:l.length<=24),(hnd:(mN l).Nodup)⟩;refine ⟨trivial,?_⟩;refine aB ⟨N,m,l,q⟩ (aB [0] ?_);repeat' (first|exact h|apply aA|exact trivial|exact rfl|exact zm N rfl|fail)
 refine fun (y:List Int) (hy:y.Perm (mN l))=>?_;have hyl:y.length<=24/\y.Nodup:=by
  refine ⟨?_,hy.nodup_iff.2 hnd⟩;rw [hy.length_eq];unfold mN;rw [cO];exact hl
 refine aB y (aB [1] ?_);repeat' (first|exact hyl|apply aA|exact trivial|exact rfl|exact dC (fun a=>dV _ _ _ a)|fail)
 refine fun (z:List Int) (hz:z.Perm y/\Srd z z.length)=>?_;have hzy:=hz.1.length_eq;refine aB z (aA ⟨hz.1.trans hy,hz.2⟩ ?_);repeat' (first|apply aA|exact trivial|exact rfl|exact zr N rfl rfl|exact dC (fun a=>dV _ _ _ a)|exact hzy.symm)
end T56
end
section
open Go Go.Eng Go.Proofs A0 T1 T2 T3 T4 T5 T6 T13 T28 T29
set_option maxRecDepth 100000
namespace T30
def bI (b:UInt8):Int:=(b.toNat:Int)
def bsI (l:List UInt8):List Int:=l.map bI
theorem Lg (l:List UInt8):(bsI l).length=l.length:=cO ..
theorem H5 {a:Int} {r:List Int} (h:Srd (a::r) (a::r).length):(∀ x∈r,a<=x)/\Srd r r.length:=by
 refine ⟨fun x hx=>?_,fun i j h1 h2=>?_⟩
 ·obtain ⟨k,hk,rfl⟩:=cU hx;have:=h 0 (k+1) (by omega) (by simp; omega);simp only [aE,dL,cK,aH hk] at this;exact this
 ·have:=h (i+1) (j+1) (by omega) (by simp; omega);simpa [List.getD_eq_getElem?_getD] using this
theorem Ss:∀ {x y:List Int},Srd x x.length->Srd y y.length->x.Perm y->x=y:=by
 intro x;induction x with
 | nil=>intro y _ _ h; exact (List.nil_perm.1 h).symm
 | cons a r ih =>
  intro y hx hy hp;cases y with
  | nil=>exact absurd hp (by simp)
  | cons b s =>
   obtain ⟨h1,h2⟩:=H5 hx;obtain ⟨k1,k2⟩:=H5 hy;have e:a=b:=by
    have ha:a∈b::s:=hp.subset aQ;have hb:b∈a::r:=hp.symm.subset aQ;rcases aI.1 ha with ha|ha
    ·exact ha
    ·rcases aI.1 hb with hb|hb
     ·exact hb.symm
     ·have:=h1 b hb;have:=k1 a ha;omega
   subst e;rw [ih h2 k2 (hp.cons_inv)]
theorem Zi {bs:List UInt8} (h:Sb bs):Srd (bsI bs) (bsI bs).length:=by
 intro i j h1 h2;rw [Lg] at h2;have hi:i < bs.length:=by omega
 have:=List.pairwise_iff_getElem.1 h i j hi h2 h1;unfold bsI;rw [aE,aE,cE,cE,aH hi,aH h2];show bI bs[i]<=bI bs[j];unfold bI;have:bs[i].toNat < bs[j].toNat:=this;omega
theorem Me {l:IL} {bs:List UInt8} (h:(l.map (·.1)).Perm (bs.map iC)):(mN l).Perm (bsI bs):=by
 have:=h.map Yu;rw [List.map_map,List.map_map] at this;exact this
theorem Rb {l:IL} {bs:List UInt8} (h:(l.map (·.1)).Perm (bs.map iC)):∀ y∈l,y.1.kind=.i .u8:=by
 intro y hy;have:=h.subset (List.mem_map_of_mem hy);obtain ⟨b,_,e⟩:=bF.1 this;rw [<- e];rfl
theorem Y0 {l:IL} {bs:List UInt8} (h:(l.map (·.1)).Perm (bs.map iC)):l.length=bs.length:=by
 have:=h.length_eq;simpa using this
theorem aBj {bs:List UInt8} (h:Sb bs):(bsI bs).Nodup:=by
 refine List.pairwise_map.2 (jV ?_ h);intro x y hxy he;have h1:x.toNat < y.toNat:=hxy;have h2:(x.toNat:Int)=(y.toNat:Int):=he;omega
structure BX where
 N:Nat->NO
 v:Nat
 a:Nat
 n:Nat
 m:Nat
 sz:Int
 mrk:B
 l:IL
 q:Nat
 bs:List UInt8
structure BOk (x:BX):Prop where
 nd:x.N x.v=.node x.a x.n x.m x.sz x.mrk
 mp:x.N x.m=.map x.l x.q
 tk:Tk x.l x.q
 pm:(x.l.map (·.1)).Perm (x.bs.map iC)
 sb:Sb x.bs
 ln:x.bs.length<=24
def g73:List Nat:=[0,2]
def c73:bH :=
 .seq (.region g73 [(zo 2 (.move (.c (.nilsl))))]) (.seq (.region g73 [(mv 3 0),(zo 4 (.nilCheck (.s 3))),(fa 5 1 4),(ld 6 5),(zo 7 (.call (.c (.fn 100)) [.s 6])),(zo 8 (.call (.c (.fn 99)) [.s 7])),(mv 2 8)]) .ret)
theorem e73:cR Tryz.prog 73 g73 [] [] []=some (c73,[.slot 2],9):=by kernel_rfl
def Xk:bU where
 X:=BX
 Y:=Unit
 args:=fun x=>.cons (.fown 0 x.v 0) .nil
 pre:=BOk
 h0:=fun x=>[(0,.fam fun q=>noO 0 (x.N q))]
 nx0:=1
 post:=fun _ _=>True
 res:=fun x _=>.lsl 1 1 x.bs.length
 h1:=fun x _=>[(0,.fam fun q=>noO 0 (x.N q)),(1,.arr 5 1 x.bs.length (lc bE 0 (bsI x.bs)))]
 nx1:=2
theorem P5:Xk.Ok Tryz.prog 73:=by
 refine Eng.bU.okR e73 .nil (fun _=>[(100,.m Rr),(99,.m T56.M3)]) (fun _ _=>aZ.m Rs (aZ.m T56.O6 aZ.nil)) ?_;rintro ⟨N,v,a,n,m,sz,mk,l,q,bs⟩ ⟨(hnd:N v=.node a n m sz mk),(hmp:N m=.map l q),(htk:Tk l q),hpm,(hsb:Sb bs),(hln:bs.length<=24)⟩;replace hpm:(l.map (·.1)).Perm (bs.map iC):=hpm;have hll:=Y0 hpm;have hk:KOk ⟨N,m,l,q⟩:=⟨hmp,htk,Rb hpm,show l.length<=20000 by omega⟩;have hl12:l.length<=24:=by omega
 have hkn:(mN l).Nodup:=(Me hpm).nodup_iff.2 (aBj hsb);refine ⟨trivial,?_⟩;refine aB (noO 0 (.node a n m sz mk)) (aA (congrArg (noO 0) hnd) ?_);refine aB ⟨N,m,l,q⟩ (aB [0] ?_);repeat' (first|apply aA|exact trivial|exact rfl|exact zm N rfl|fail)
 refine fun (_:Unit) (_:True)=>?_;refine aB ⟨N,m,l,q⟩ (aB [0] ?_);repeat' (first|exact hk|exact hl12|exact hkn|apply aA|exact trivial|exact rfl|exact zr N rfl rfl|fail)
 refine fun (y:List Int) (hy:y.Perm (mN l)/\Srd y y.length)=>?_;have he:y=bsI bs:=Ss hy.2 (Zi hsb) (hy.1.trans (Me hpm));have hyl:y.length=bs.length:=by rw [he,Lg]
 refine aB () (aA trivial ?_);repeat' (first|apply aA|exact trivial|exact rfl|exact zr N rfl rfl|exact hyl|exact (fun j _=>by rw [he]; exact Or.inl (dV _ _ _ _))|fail)
end T30
end
section
namespace Go.Eng
open Go Go.RowKit
variable {P:Program}
def Keep.bare:Keep:=⟨[],true,false,false⟩
def Im (items:List SV) (G:Nat->(Nat->Option Obj)->Prop):Handler:=fun id _ _ _ args hp nx K =>
 id=2/\∃ i st item,G i st/\get? hp 1=some (.fam (tK st))/\items[i]?=some item/\sub .bare hp 200 args item /\
  ∀ st',G (i+1) st'->pU hp 1 (.fam (tK st')) fun hp=>K true hp nx
def GS (T:Nat->Prop) (w:World) (l:Nat) (r0:Loop) (st0:Nat->Option Obj) (J:Nat->(Nat->Prop)->World->Prop) (i:Nat) (st:Nat->Option Obj):Prop :=
 (∀ b,dom st0 b->dom st b)/\(∀ b,dom st b->dom st0 b\/w.heap.size<=b) /\
  ∀ W,(∀ q o,st q=some o->W.heap[q]?=some o)->Frm (fun b=>T b\/dom st b) w W->W.heap[l]?=some (.loop r0)->J i (dom st) W
theorem Pv {C:Ctx} {T:Nat->Prop} {w:World} {μ:Nat->Option (Nat×Nat)} {l:Nat} {r0:Loop} {items:List SV} {st0:Nat->Option Obj} {J:Nat->(Nat->Prop)->World->Prop}
  (hY:zN P T w μ l r0 items st0 J) (hg:uY C) (hd:0 < C.dep) (hH:∀ o,C.H 0 0 o->o=.loop r0) (hp2:C.pin 2=some (l,0)) (hw:C.w0=w) (hT:C.T=T) (hpF:∀ q p,μ (fid 0 q)=some p->C.pin (fid 0 q)=some p) :
  mC P C 0 (Im items (GS T w l r0 st0 J)):=by
 intro C2 hx μ2 hp nx W id b c args vs K hh _hle _hkd hgt hm hr _hil he;obtain ⟨rfl,i,st,item,⟨g1,g2,g3⟩,h1,hit,hsub,hK⟩:=he;have hm2:μ2 2=some (l,0):=hh.pin 2 _ (hx.pin 2 _ hp2);rw [hm2] at hm;cases hm;obtain ⟨o,ho,hHo⟩:=hh.recAt hgt hm2;obtain rfl:=hH o ((hx.H 0 0 o hd).1 hHo)
 -- what is in other code's memory
 have old:∀ q o,st q=some o->∃ c,μ2 (fid 1 q)=some (q,c)/\W.heap[q]?=some o/\Jk o=false:=by
  intro q o hq;have hgm:hget hp (fid 1 q)=some (.obj o):=by rw [qY h1 (dO 1 q) (gW q fb1),fR q fb1,hq]; rfl
  obtain ⟨b,c,x,e1,e2,e3,e4⟩:=hh.obj.obj _ _ hgm;have e1':μ2 (fid 1 q)=some (b,c):=e1;have:=hh.pos _ _ _ e1' (dO 1 q) hgm;rw [fR q fb1] at this;simp only at this;subst this;subst e3;exact ⟨c,e1',e2,iY.2 e4⟩
 have tracked:∀ q,dom st q->∃ o c,hget hp (fid 1 q)=some (.obj o)/\μ2 (fid 1 q)=some (q,c):=by
  rintro q ⟨o,hq⟩;obtain ⟨c,e,_,_⟩:=old q o hq;exact ⟨o,c,by rw [qY h1 (dO 1 q) (gW q fb1),fR q fb1,hq]; rfl,e⟩
 have qT:∀ q,dom st q->q < W.heap.size/\Plain W q:=by
  rintro q ⟨o,hq⟩;obtain ⟨c,_,e2,e3⟩:=old q o hq;exact ⟨(aS.1 e2).1,fun y hy=>by rw [e2] at hy; cases hy; exact e3⟩
 have hfrm:Frm T w W:=by
  have:=hx.w0.trans' hh.frm hx.T;rw [hw,hT] at this;exact this
 have hfrm':Frm (fun b=>T b\/dom st b) w W:=hfrm.weak fun _ h=>.inl h;have hJ:=g3 W (fun q o hq=>(old q o hq).choose_spec.2.1) hfrm' ho;have hgv:GV W:=hg.at (by rw [hw,hT]; exact hfrm);have hFr:(aN C2 μ2 hp W).Freed .bare hp (kP (fun _=>False) W) :=
  ⟨fun h=>by simp [loose,Keep.bare] at h,fun _ _ _ h=>by simp [ren,Keep.bare,get?] at h,fun _ _ _ _ h=>by simp [ren,Keep.bare,get?] at h,rfl,fun id o b c _ hg hm h=>by simp [kept,Keep.bare] at h⟩
 have hitem:R (kP (fun _=>False) W) item vs:=mJ hFr hh.obj 200 _ _ _ hsub hr;have hfam0:∀ q p,μ (fid 0 q)=some p->p.1 < W.heap.size/\Plain W p.1:=by
  intro q p e;have e2:=hh.pin _ _ (hx.pin _ _ (hpF q p e));obtain ⟨o,ho⟩:=hh.fam _ _ e2 (dO 0 q);obtain ⟨pb,pc⟩:=p;refine ⟨hh.lt ho e2,hh.obj.plain ho e2 ?_⟩;rintro l p rfl;have:=(qX ho).1;have:=dO 0 q;omega
 obtain ⟨f,tmps,assign,body,hy,hR⟩:=hY.round i (dom st) W item vs hit hJ g1 qT g2 hfrm' ho hgv hitem hfam0;refine ⟨f,tmps,assign,body,hy,hR.mono ?_⟩;rintro e W' ⟨rfl,D',hJ',d1,d2,d3,hfr,hl'⟩;obtain ⟨st',hst'⟩:∃ st':Nat->Option Obj,∀ q,(D' q->st' q=W'.heap[q]?)/\(¬ D' q->st' q=none):=by
  classical
  refine ⟨fun q=>if D' q then W'.heap[q]? else none,fun q=>⟨fun h=>by simp [h],fun h=>by simp [h]⟩⟩
 have hdom:dom st'=D':=by
  funext q;refine propext ⟨?_,fun h=>?_⟩
  ·rintro ⟨o,hq⟩;refine bR fun hn=>?_;rw [(hst' q).2 hn] at hq;cases hq
  ·exact ⟨W'.heap[q]'(d3 q h).1,by rw [(hst' q).1 h]; exact bA _⟩
 have st'D:∀ q o,st' q=some o->D' q/\W'.heap[q]?=some o:=by
  intro q o hq;have hd:D' q:=by rw [<- hdom]; exact ⟨o,hq⟩
  exact ⟨hd,by rw [<- (hst' q).1 hd]; exact hq⟩
 have hG:GS T w l r0 st0 J (i+1) st':=by
  refine ⟨fun b hb=>by rw [hdom]; exact d1 b (g1 b hb),fun b hb=>?_,fun W2 hc hf2 hl2=>?_⟩
  ·rw [hdom] at hb;rcases d2 b hb with h|h
   ·exact g2 b h
   ·exact .inr (bC hfrm.size h)
  ·rw [hdom] at hf2 ⊢;refine hY.stb (i+1) D' W' W2 hJ' (fun b hb=>d1 b (g1 b hb)) hf2 (fun b hb=>?_) hl2;have hb':dom st' b:=by rw [hdom]; exact hb
   obtain ⟨o,ho⟩:=hb';rw [hc b o ho,(st'D b o ho).2]
 have hk:=hK st' hG;rw [rY] at hk
 -- the numbers
 obtain ⟨μ',hμ'⟩:∃ μ':Nat->Option (Nat×Nat),∀ n,(∀ p,μ2 n=some p->μ' n=some p)/\(μ2 n=none->FB<=n->n % FB=1->dom st' (n / FB - 1)->μ' n=some (n / FB - 1,0)) /\
   (∀ p,μ' n=some p->μ2 n=some p\/(μ2 n=none/\FB<=n/\n % FB=1/\dom st' (n / FB - 1)/\p=(n / FB - 1,0))):=by
  classical
  refine ⟨fun n=>match μ2 n with|some p=>some p|none=>if FB<=n/\n % FB=1/\dom st' (n / FB - 1) then some (n / FB - 1,0) else none,fun n=>⟨fun p e=>?_,fun e h1 h2 h3=>?_,fun p e=>?_⟩⟩
  ·simp [e]
  ·simp [e,h1,h2,h3]
  ·cases hm:μ2 n with
   | some q=>simp only [hm] at e; exact .inl e
   | none =>
    simp only [hm] at e;split at e
    ·rename_i hc;exact .inr ⟨rfl,hc.1,hc.2.1,hc.2.2,(bK e).symm⟩
    ·cases e
 have raw_old:∀ n p,μ2 n=some p->FB<=n->n % FB=1->∃ o,st (n / FB - 1)=some o/\p.1=n / FB - 1:=by
  intro n p e hn h2;obtain ⟨o,ho⟩:=hh.fam _ _ e hn;have ho':=ho;rw [qY h1 hn h2] at ho;cases hs:st (n / FB - 1) with
  | none=>rw [hs] at ho; cases ho
  | some o2 =>
   rw [hs] at ho;cases ho;exact ⟨o2,rfl,hh.pos _ _ _ e hn ho'⟩
 have cls:∀ n o b c,hget (gQ hp 1 (.fam (tK st'))) n=some o->μ' n=some (b,c) ->
   ((FB<=n/\n % FB=1/\b=n / FB - 1/\∃ o',o=.obj o'/\st' b=some o')/\((∃ o',hget hp n=some o'/\μ2 n=some (b,c))\/(n=fid 1 b/\W.heap.size<=b))) \/
   (¬ (FB<=n/\n % FB=1)/\hget hp n=some o/\μ2 n=some (b,c)):=by
  intro n o b c hg hm;rw [Ap h1] at hg;by_cases hc:FB<=n/\n % FB=1
  ·rw [if_pos hc] at hg;simp only [aG] at hg;obtain ⟨o',ho',rfl⟩:=hg;rcases (hμ' n).2.2 _ hm with e|⟨e0,e1,e2,e3,e4⟩
   ·obtain ⟨o2,q1,q2⟩:=raw_old n _ e hc.1 hc.2;simp only at q2;refine .inl ⟨⟨hc.1,hc.2,q2,o',rfl,by rw [q2]; exact ho'⟩,.inl ⟨.obj o2,?_,e⟩⟩;rw [qY h1 hc.1 hc.2,q1]; rfl
   ·cases e4;refine .inl ⟨⟨hc.1,hc.2,rfl,o',rfl,ho'⟩,?_⟩;have hD:D' (n / FB - 1):=by rw [<- hdom]; exact e3
    rcases d2 _ hD with h|h
    ·exfalso;obtain ⟨o,c,_,e5⟩:=tracked _ h;have:=nJ hc.1;rw [hc.2] at this;rw [this,e0] at e5;cases e5
    ·refine .inr ⟨?_,h⟩;have:=nJ hc.1;rw [hc.2] at this;exact this.symm
  ·rw [if_neg hc] at hg;rcases (hμ' n).2.2 _ hm with e|⟨_,e1,e2,_,_⟩
   ·exact .inr ⟨hc,hg,e⟩
   ·exact absurd ⟨e1,e2⟩ hc
 have notD:∀ n o b c,¬ (FB<=n/\n % FB=1)->hget hp n=some o->μ2 n=some (b,c)->¬ dom st b:=by
  intro n o b c hc hg hm hd;obtain ⟨o',c',q1,q2⟩:=tracked b hd;have:=hh.inj _ _ _ _ _ _ _ hg q1 hm q2;subst this;exact hc ⟨dO 1 b,gW b fb1⟩
 have hkd:Kd W W':=by
  refine Kd.rA hfr.size fun b hb=>?_;by_cases hd:dom st b
  ·exact .inr ⟨(qT b hd).2,(d3 b (d1 b hd)).2⟩
  ·exact .inl (hfr.block b hb hd)
 have hE:(aN C2 μ2 hp W).Le (aN C2 μ' (gQ hp 1 (.fam (tK st'))) W'):=by
  have same:∀ b,(aN C2 μ2 hp W).U b->W'.heap[b]?=W.heap[b]?:=by
   intro b hb;refine hfr.block b hb.1 fun hd=>?_;obtain ⟨o,c,q1,q2⟩:=tracked b hd;exact hb.2.2.1 _ _ _ q1 q2
  refine ⟨⟨⟨fun b hb=>?_,same⟩,fun n p e=>(hμ' n).1 p e⟩,hkd,fun _ _ _ e=>e⟩;refine ⟨bX hb.1 hfr.size,hb.2.1,fun n o c hg hm=>?_,fun y hy=>hb.2.2.2 y ((same b hb).symm.trans hy)⟩;rcases cls n o b c hg hm with ⟨_,⟨o',q1,q2⟩|⟨_,q⟩⟩|⟨_,q1,q2⟩
  ·exact hb.2.2.1 _ _ _ q1 q2
  ·have:=hb.1; omega
  ·exact hb.2.2.1 _ _ _ q1 q2
 refine ⟨true,_,nx,μ',rfl,hk,hE,?_⟩;refine ⟨⟨fun n o e=>?_,fun n o hg=>?_⟩,?_,?_,fun n o e=>?_,fun n p e hlt=>?_,fun n p e hge=>?_,fun n p e=>(hμ' n).1 p (hh.pin n p e),?_,?_⟩
 ·rw [get?_putH,get?_cons] at e;split at e
  ·rename_i h; rw [<- h]; exact fb1
  ·exact hh.obj.keys _ _ e
 ·have hg':=hg;rw [Ap h1] at hg;by_cases hc:FB<=n/\n % FB=1
  ·rw [if_pos hc] at hg;simp only [aG] at hg;obtain ⟨o',ho',rfl⟩:=hg;obtain ⟨k1,k2⟩:=st'D _ _ ho';have k3:Jk o'=false:=(d3 _ k1).2 _ k2;cases hm:μ2 n with
   | none=>exact ⟨_,_,o',(hμ' n).2.1 hm hc.1 hc.2 ⟨o',ho'⟩,k2,rfl,iY.1 k3⟩
   | some p =>
    obtain ⟨pb,pc⟩:=p;obtain ⟨o2,q1,q2⟩:=raw_old n _ hm hc.1 hc.2;simp only at q2;exact ⟨pb,pc,o',(hμ' n).1 _ hm,by rw [q2]; exact k2,rfl,iY.1 k3⟩
  ·rw [if_neg hc] at hg;obtain ⟨b,c,x,e1,e2,e3⟩:=hh.obj.obj n o hg;have e1':μ2 n=some (b,c):=e1;exact ⟨b,c,x,(hμ' n).1 _ e1',(hfr.block b (hh.lt hg e1') (notD n o b c hc hg e1')).trans e2,e3.mono hE⟩
 ·intro n n' o o' b c c' hg hg' hm hm';rcases cls n o b c hg hm with ⟨⟨a1,a2,a3,_⟩,h⟩|⟨a1,a2,a3⟩ <;> rcases cls n' o' b c' hg' hm' with ⟨⟨b1,b2,b3,_⟩,h'⟩|⟨b1,b2,b3⟩
  ·have e1:=nJ a1;have e2:=nJ b1;rw [a2,<- a3] at e1;rw [b2,<- b3] at e2;exact e1.symm.trans e2
  ·rcases h with ⟨o2,q1,q2⟩|⟨_,q⟩
   ·exact hh.inj _ _ _ _ _ _ _ q1 b2 q2 b3
   ·have:=hh.lt b2 b3; omega
  ·rcases h' with ⟨o2,q1,q2⟩|⟨_,q⟩
   ·exact hh.inj _ _ _ _ _ _ _ a2 q1 a3 q2
   ·have:=hh.lt a2 a3; omega
  ·exact hh.inj _ _ _ _ _ _ _ a2 b2 a3 b3
 ·intro n o b c hg hm;rcases cls n o b c hg hm with ⟨_,⟨o2,q1,q2⟩|⟨_,q⟩⟩|⟨_,a2,a3⟩
  ·exact hh.mine _ _ _ _ q1 q2
  ·exact .inr (bC hh.frm.size q)
  ·exact hh.mine _ _ _ _ a2 a3
 ·rw [get?_putH,get?_cons] at e;split at e
  ·rename_i h; rw [<- h]; exact hh.keys _ _ h1
  ·exact hh.keys _ _ e
 ·rcases (hμ' n).2.2 _ e with e|⟨_,e1,_,_,_⟩
  ·exact hh.nx _ _ e hlt
  ·omega
 ·rw [Ap h1];by_cases hc:FB<=n/\n % FB=1
  ·rw [if_pos hc];have hD:D' (n / FB - 1):=by
    rcases (hμ' n).2.2 _ e with e|⟨_,_,_,e3,_⟩
    ·obtain ⟨o2,q1,_⟩:=raw_old n _ e hc.1 hc.2;exact d1 _ ⟨o2,q1⟩
    ·rw [<- hdom]; exact e3
   rw [<- hdom] at hD;obtain ⟨o,ho⟩:=hD;exact ⟨.obj o,by rw [ho]; rfl⟩
  ·rw [if_neg hc];rcases (hμ' n).2.2 _ e with e|⟨_,e1,e2,_,_⟩
   ·exact hh.fam _ _ e hge
   ·exact absurd ⟨e1,e2⟩ hc
 ·refine hh.frm.trans' hfr fun b hb=>?_;obtain ⟨o,c,q1,q2⟩:=tracked b hb;exact hh.mine _ _ _ _ q1 q2
 ·intro n p q e hge hg;obtain ⟨pb,pc⟩:=p;rcases cls n _ pb pc hg e with ⟨⟨_,_,a3,_⟩,_⟩|⟨_,a2,a3⟩
  ·exact a3
  ·exact hh.pos _ _ _ a3 hge a2
noncomputable def aB4 (tab:List (Nat×iA)) (sc:bH) (res:List mD) (items:List SV) (args:SV) (F:Nat->aT) (Q:(Nat->(Nat->Option Obj)->Prop)->St->Prop):Prop :=
 ∀ (G:Nat->(Nat->Option Obj)->Prop) (st0:Nat->Option Obj),G 0 st0 ->
  X3 sc ⟨tab,[(0,Im items G)],upto 3,0,1⟩ ⟨oL (.cons (.yield 2) args) 0,yHp F st0,3⟩ fun e st =>
   match e with
   | .exit _=>False
   | _=>D0 st res fun _=>Q G st
def aBv (S:sR) (x:S.X) (G:Nat->(Nat->Option Obj)->Prop) (st:St):Prop :=
 ∃ y st',S.post x y/\G (S.items x).length st'/\mM (upto 3) 0 ⟨[],st.hp,st.nx⟩ ⟨[],yHp (S.F1 x y) st',3⟩
theorem sR.okR {f:Nat} {S:sR} {G joins hint:List Nat} {rg:List (Nat×Nat×bH×Nat)} {sc:bH} {res:List mD} {n:Nat} (hc:cR P f G joins hint rg=some (sc,res,n)) (hrg:lP P rg)
  (tab:S.X->List (Nat×iA)) (htab:∀ x,S.pre x->aZ P (tab x))
  (h:∀ x,S.pre x->oG (.cons (.yield 2) (S.args x)) n/\aB4 (tab x) sc res (S.items x) (S.args x) (S.F0 x) (aBv S x)):S.Ok P f:=by
 refine ⟨tR hc,?_⟩;intro x w μ vs T U r0 l st0 J _hU hgc hh0 hm2 hpre hR hY;have hraw:=hh0.raw (st:=st0) rfl;have hG0:GS T w l r0 st0 J 0 st0:=by
  refine ⟨fun _ h=>h,fun _ h=>.inl h,fun W hcn hf hl=>hY.stb 0 (dom st0) w W hY.start (fun _ h=>h) hf (fun b hb=>?_) hl⟩;obtain ⟨o,ho⟩:=hb;rw [hcn b o ho,hraw b o ho]
 obtain ⟨hok,hev⟩:=h x hpre;have hev:=hev _ st0 hG0;rw [Ls] at hev;let C:Ctx:={ Bo w T U μ r0 with n:=n };have hC:bO C μ (yHp (S.F0 x) st0) 3 w:=(hh0.to (C':=C) rfl rfl rfl (fun _ _ _ e=>e) hh0.pin).1;have hpin:sC C:=by
  intro id p e;have e':μ id=some p:=e;by_cases hlt:id < FB
  ·left; simp only [fbase,hlt,if_true]; exact wT.2 (hC.nx id p e' hlt)
  ·left;simp only [fbase,hlt,if_false];obtain ⟨o,ho⟩:=hC.fam id p e' (bJ.1 hlt);simp only [hget,hlt,if_false] at ho;split at ho
   ·rename_i f' hf'; exact wT.2 (hC.keys _ _ hf')
   ·cases ho
 have hg:uY C:=⟨hgc.gok,hgc.gT⟩;have htb:xI P C ⟨tab x,[(0,Im (S.items x) (GS T w l r0 st0 J))],upto 3,0,1⟩:=by
  refine ⟨htab x hpre,fun lab hd e=>?_,rfl,rfl,rfl,hg⟩;rw [get?_cons] at e;split at e
  ·rename_i e0;cases e;subst e0;exact Pv hY hg Nat.zero_lt_one (fun o ho=>ho.2.2) hm2 rfl rfl (fun q p e=>e)
  ·cases e
 have hR':R (aN C μ (yHp (S.F0 x) st0) w) (.cons (.yield 2) (S.args x)) (.func (.yield l) #[] #[]::vs):=by
  simp only [R];exact ⟨_,_,rfl,⟨l,0,hm2,rfl⟩,hR⟩
 refine Cb hc hrg (C:=C) rfl hpin rfl rfl htb hC hR' hok (K:=fun _ st=>aBv S x (GS T w l r0 st0 J) st) hev ?_;intro sv st μ1 w' v hk hh1 _ hkd;obtain ⟨y,st',hpost,hG,hsub⟩:=hk;let C2:Ctx:={ C with R0:=kP (fun _=>False) w' };have hrep:dR C2 μ1 ⟨[],st.hp,st.nx⟩ ⟨Array.replicate n undef,[]⟩ w':=by
  refine ⟨by simp; rfl,sN.nil _ _,fun s=>nQ _ _ _,(hh1.to (C':=C2) rfl rfl rfl (fun _ _ _ e=>e) hh1.pin).1,⟨fun _ h=>h.elim,fun _ h=>h.elim⟩,Kd.refl _⟩
 obtain ⟨⟨μ',hrep'⟩,_⟩:=oE (C:=C2) hpin hrep (fun s d w x e=>by cases e) hsub;have hfin:=(hrep'.hep.to (C':=Bo w T U μ r0) rfl rfl rfl (fun _ _ _ e=>e) hrep'.hep.pin).1;refine ⟨y,st',μ',hpost,?_,hG.1,hfin,hkd⟩;refine hG.2.2 w' (hfin.raw rfl) (hfin.frm.weak fun _ h=>.inl h) ?_;obtain ⟨o,ho,hHo⟩:=hfin.recAt (id:=2) (l:=0) (p:=0) rfl (hfin.pin 2 _ hm2);rw [ho,hHo.2.2]
end Go.Eng
end
