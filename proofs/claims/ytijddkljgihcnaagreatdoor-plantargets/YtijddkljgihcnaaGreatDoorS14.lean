/- A part of the proof. -/
import Derived.Test.YtijddkljgihcnaaGreatDoorS13
import Derived.Test.YtijddkljgihcnaaGreatDoorL10
open Go Go.Eng Go.Proofs F1 F6 F10 G7 G4 L3 L10 G1 G3 EV0 S1 S10 S11 S12 S13
set_option maxRecDepth 100000
namespace S14
def oX (n:Nat) (f g:Nat->B) (j:Nat):B:=if j < n then f j else g (j - n)
def Ba (q:Sq B) (n:Nat) (g:Nat->B):Sq B:=⟨q.n+n,oX q.n q.f g⟩
theorem oY {n:Nat} {f g:Nat->B} {j:Nat} (h:j < n):oX n f g j=f j:=if_pos h
theorem Hk {n:Nat} {f g:Nat->B} (i:Nat):oX n f g (n+i)=g i:=by
 unfold oX
 rw [if_neg (by omega),show n+i - n=i by omega]
theorem nP {q:Sq B} {g:Nat->B} {i:Nat} {e:Nat->SV} (he:e 0=stL (g i)) {j:Nat} (hj:j < q.n+i+1):cU (q.n+i) (fun j=>stL (oX q.n q.f g j)) e j=stL (oX q.n q.f g j):=by
 unfold cU
 by_cases h:j < q.n+i
 ·rw [show Nat.blt j (q.n+i)=true from Nat.ble_eq_true_of_le h,cond_true]
 ·have:Nat.blt j (q.n+i)=false:=by
   cases hb:Nat.blt j (q.n+i) with
   | false=>rfl
   | true=>exact absurd (Nat.le_of_ble_eq_true hb) h
  rw [this,cond_false,show j - (q.n+i)=0 by omega,he,show j=q.n+i by omega,Hk]
def q0:Sq B:=⟨0,fun _=>[]⟩
def q1 (s:Sta):Sq B:=Ba q0 s.regions.n fun i=>(s.regions.f i).id
def q2 (s:Sta):Sq B:=Ba (q1 s) s.streets.n fun i=>(s.streets.f i).id
def q3 (s:Sta):Sq B:=Ba (q2 s) s.buildings.n fun i=>(s.buildings.f i).id
def q4 (s:Sta):Sq B:=Ba (q3 s) s.doors.n fun i=>(s.doors.f i).id
def q5 (s:Sta):Sq B:=Ba (q4 s) s.units.n fun i=>(s.units.f i).id
def g49:List Nat:=[0,16,18,15,5,17,29,31,28,7,30,42,44,41,9,43,55,57,54,11,56,1,68,70,67,13,69,3,2]
def c49:aH :=
 .seq (.region g49 [(zo 1 (.box 30 (.s 0))),(zo 2 (.move (.c (.nilsl))))]) (.seq (.region g49 [(zo 3 (.move (.c (.nilsl))))]) (.seq (.seq (.region g49 [(fa 14 0 1),(ld 15 14),(zo 16 (.lenSl (.s 15))),(zo 17 (.move (cj 0)))]) (.block 0 (.loop 0 [18,19,20,5,21,22,23,24,25,3,26,17] (.seq (.region g49 [(zo 18 (.bin (.lss) (.s 17) (.s 16)))]) (.seq (.cond (.s 18) .skip (.exit 0)) (.seq (.block 1 (.seq (.region g49 [(zo 19 (.idxSl 6 (.s 15) (.s 17))),(zo 20 (.load 6 true (.s 19))),(zo 5 (.alloc 67 (.cons (.str []) (.cons (.int .i64 0) (.cons (.int .i64 0) (.cons (.nilsl) (.cons (.nilsl) (.cons (.int .i64 0) .nil)))))))),⟨none,none,.store 6 (.s 5) (.s 20),[]⟩]) (.region g49 [(mv 21 3),(fa 22 0 5),(ld 23 22),(zo 24 (.buildSl 9 1 1 (.cons (.str []) .nil) [(0,1,.s 23)])),(zo 25 (.app 9 1 16 (.s 21) (.s 24))),(mv 3 25)]))) (.region g49 [(zo 26 (.bin (.add) (.s 17) (cj 1))),(mv 17 26)]))))))) (.seq (.seq (.region g49 [(fa 27 1 1),(ld 28 27),(zo 29 (.lenSl (.s 28))),(zo 30 (.move (cj 0)))]) (.block 2 (.loop 1 [31,32,33,7,34,35,36,37,38,3,39,30] (.seq (.region g49 [(zo 31 (.bin (.lss) (.s 30) (.s 29)))]) (.seq (.cond (.s 31) .skip (.exit 2)) (.seq (.block 3 (.seq (.region g49 [(zo 32 (.idxSl 5 (.s 28) (.s 30))),(zo 33 (.load 5 true (.s 32))),(zo 7 (.alloc 70 (.cons (.str []) (.cons (.int .i64 0) (.cons (.nilsl) (.cons (.nilsl) (.cons (.int .i64 0) .nil))))))),⟨none,none,.store 5 (.s 7) (.s 33),[]⟩]) (.region g49 [(mv 34 3),(fa 35 0 7),(ld 36 35),(zo 37 (.buildSl 9 1 1 (.cons (.str []) .nil) [(0,1,.s 36)])),(zo 38 (.app 9 1 16 (.s 34) (.s 37))),(mv 3 38)]))) (.region g49 [(zo 39 (.bin (.add) (.s 30) (cj 1))),(mv 30 39)]))))))) (.seq (.seq (.region g49 [(fa 40 2 1),(ld 41 40),(zo 42 (.lenSl (.s 41))),(zo 43 (.move (cj 0)))]) (.block 4 (.loop 2 [44,45,46,9,47,48,49,50,51,3,52,43] (.seq (.region g49 [(zo 44 (.bin (.lss) (.s 43) (.s 42)))]) (.seq (.cond (.s 44) .skip (.exit 4)) (.seq (.block 5 (.seq (.region g49 [(zo 45 (.idxSl 4 (.s 41) (.s 43))),(zo 46 (.load 4 true (.s 45))),(zo 9 (.alloc 72 (.cons (.str []) (.cons (.int .i64 0) (.cons (.nilsl) (.cons (.int .i64 0) .nil)))))),⟨none,none,.store 4 (.s 9) (.s 46),[]⟩]) (.region g49 [(mv 47 3),(fa 48 0 9),(ld 49 48),(zo 50 (.buildSl 9 1 1 (.cons (.str []) .nil) [(0,1,.s 49)])),(zo 51 (.app 9 1 16 (.s 47) (.s 50))),(mv 3 51)]))) (.region g49 [(zo 52 (.bin (.add) (.s 43) (cj 1))),(mv 43 52)]))))))) (.seq (.seq (.region g49 [(fa 53 3 1),(ld 54 53),(zo 55 (.lenSl (.s 54))),(zo 56 (.move (cj 0)))]) (.block 6 (.loop 3 [57,58,59,11,60,61,62,63,64,3,65,56] (.seq (.region g49 [(zo 57 (.bin (.lss) (.s 56) (.s 55)))]) (.seq (.cond (.s 57) .skip (.exit 6)) (.seq (.block 7 (.seq (.region g49 [(zo 58 (.idxSl 16 (.s 54) (.s 56))),(zo 59 (.load 16 true (.s 58))),(zo 11 (.alloc 55 (.cons (.str []) (.cons (.str []) (.cons (.str []) (.cons (.int .i64 0) (.cons (.int .i64 0) (.cons (.str []) (.cons (.int .i64 0) (.cons (.int .i64 0) (.cons (.int .i64 0) (.cons (.int .i64 0) (.cons (.int .i64 0) (.cons (.int .i64 0) (.cons (.nilsl) (.cons (.int .i64 0) (.cons (.int .i64 0) (.cons (.str []) .nil)))))))))))))))))),⟨none,none,.store 16 (.s 11) (.s 59),[]⟩]) (.region g49 [(mv 60 3),(fa 61 0 11),(ld 62 61),(zo 63 (.buildSl 9 1 1 (.cons (.str []) .nil) [(0,1,.s 62)])),(zo 64 (.app 9 1 16 (.s 60) (.s 63))),(mv 3 64)]))) (.region g49 [(zo 65 (.bin (.add) (.s 56) (cj 1))),(mv 56 65)]))))))) (.seq (.seq (.region g49 [(fa 66 4 1),(ld 67 66),(zo 68 (.lenSl (.s 67))),(zo 69 (.move (cj 0)))]) (.block 8 (.loop 4 [70,71,72,13,73,74,75,76,77,3,78,69] (.seq (.region g49 [(zo 70 (.bin (.lss) (.s 69) (.s 68)))]) (.seq (.cond (.s 70) .skip (.exit 8)) (.seq (.block 9 (.seq (.region g49 [(zo 71 (.idxSl 6 (.s 67) (.s 69))),(zo 72 (.load 6 true (.s 71))),(zo 13 (.alloc 74 (.cons (.str []) (.cons (.str []) (.cons (.str []) (.cons (.int .i64 0) (.cons (.int .i64 0) (.cons (.int .i64 0) .nil)))))))),⟨none,none,.store 6 (.s 13) (.s 72),[]⟩]) (.region g49 [(mv 73 3),(fa 74 0 13),(ld 75 74),(zo 76 (.buildSl 9 1 1 (.cons (.str []) .nil) [(0,1,.s 75)])),(zo 77 (.app 9 1 16 (.s 73) (.s 76))),(mv 3 77)]))) (.region g49 [(zo 78 (.bin (.add) (.s 69) (cj 1))),(mv 69 78)]))))))) (.seq (.region g49 [(mv 79 3),(mv 2 79)]) .ret)))))))
theorem e49:aI Tryz.prog 49 g49 [] [] []=some (c49,[.slot 2],80):=by kernel_rfl
def Ul:Eng.bZ where
 X:=Sta
 Y:=Unit
 args:=fun x=>.cons (kM x) .nil
 pre:=fun x=>kJ x
 h0:=fun _=>[]
 nx0:=0
 post:=fun _ _=>True
 res:=fun x _=>.lsl 0 1 (q5 x).n
 h1:=fun x _=>[(0,.arr 9 1 (q5 x).n fun j=>stL ((q5 x).f j))]
 nx1:=1
set_option maxHeartbeats 16000000 in
theorem Qr:Ul.Ok Tryz.prog 49:=by
 refine Eng.bZ.okR e49 .nil (fun _=>[]) (fun _ _=>aA.nil) ?_
 rintro (s:Sta) (h:kJ s)
 have n1:=h.regions.1
 have n2:=h.streets.1
 have n3:=h.buildings.1
 have n4:=h.doors.1
 have n5:=h.units.1
 have c0:q0.n=0:=rfl
 have c1:(q1 s).n=q0.n+s.regions.n:=rfl
 have c2:(q2 s).n=(q1 s).n+s.streets.n:=rfl
 have c3:(q3 s).n=(q2 s).n+s.buildings.n:=rfl
 have c4:(q4 s).n=(q3 s).n+s.doors.n:=rfl
 have c5:(q5 s).n=(q4 s).n+s.units.n:=rfl
 refine ⟨trivial,?_⟩
 repeat' (first|apply And.intro|exact trivial|exact rfl|exact lz fun _=>rfl|exact S1.zz rfl)
 refine ⟨⟨Nat,fun i=>i<=s.regions.n,fun i=>[(17,.int .i64 (i:Int)),(3,.lsl 20 1 (q0.n+i))],
  fun i=>[(20,.arr 9 1 (q0.n+i) fun j=>stL (oX q0.n q0.f (fun i=>(s.regions.f i).id) j))],fun i=>s.regions.n - i⟩,0,Nat.zero_le _,?_,?_⟩
 ·repeat' (first|apply And.intro|exact trivial|exact rfl|exact lz fun _=>rfl|exact S1.zz rfl|exact fun (j:Nat) (hj:j < q0.n+0)=>EL.aV (congrArg stL (oY hj).symm) (bX ..))
 rintro (i:Nat) (hi:i<=s.regions.n)
 repeat' (first|apply And.intro|exact trivial|exact rfl|exact lz fun _=>rfl|exact S1.zz rfl)
 ·refine fun (h:decide ((i:Int) < (s.regions.n:Int))=true)=>?_
  have hil:i < s.regions.n:=by have:=of_decide_eq_true h; omega
  have b0:(0:Int)<=(i:Int):=by omega
  have b1:(i:Int) < (s.regions.n:Int):=by omega
  have b2:-9223372036854775808<=(i:Int)+1:=by omega
  have b3:(i:Int)+1<=9223372036854775807:=by omega
  have m1:q0.n+i+1<=9223372036854775807:=by omega
  have m2:(q0.n+i+1) * 16<=140737488355328:=by omega
  have em:s.regions.n - (i+1) < s.regions.n - i:=by omega
  repeat' (first|with_reducible exact b0|with_reducible exact b1|with_reducible exact b2|with_reducible exact b3|exact m1|exact m2|apply And.intro|exact trivial|exact rfl|exact lz fun _=>rfl|exact S1.zz rfl)
  refine Exists.intro (i+1) (And.intro hil ?_)
  repeat' (first|with_reducible exact em|apply And.intro|exact trivial|exact rfl|exact lz fun _=>rfl|exact S1.zz rfl|exact fun (j:Nat) (hj:j < q0.n+i+1)=>EL.aV (nP (g:=(fun i=>(s.regions.f i).id)) rfl hj) (bX ..))
 refine fun (h:decide ((i:Int) < (s.regions.n:Int))=false)=>?_
 have hil:i=s.regions.n:=by have:=of_decide_eq_false h; omega
 subst hil
 repeat' (first|apply And.intro|exact trivial|exact rfl|exact lz fun _=>rfl|exact S1.zz rfl)
 refine ⟨⟨Nat,fun i=>i<=s.streets.n,fun i=>[(30,.int .i64 (i:Int)),(3,.lsl 20 1 ((q1 s).n+i))],
  fun i=>[(20,.arr 9 1 ((q1 s).n+i) fun j=>stL (oX (q1 s).n (q1 s).f (fun i=>(s.streets.f i).id) j))],fun i=>s.streets.n - i⟩,0,Nat.zero_le _,?_,?_⟩
 ·repeat' (first|apply And.intro|exact trivial|exact rfl|exact lz fun _=>rfl|exact S1.zz rfl|exact fun (j:Nat) (hj:j < (q1 s).n+0)=>EL.aV (congrArg stL (oY hj).symm) (bX ..))
 rintro (i:Nat) (hi:i<=s.streets.n)
 repeat' (first|apply And.intro|exact trivial|exact rfl|exact lz fun _=>rfl|exact S1.zz rfl)
 ·refine fun (h:decide ((i:Int) < (s.streets.n:Int))=true)=>?_
  have hil:i < s.streets.n:=by have:=of_decide_eq_true h; omega
  have b0:(0:Int)<=(i:Int):=by omega
  have b1:(i:Int) < (s.streets.n:Int):=by omega
  have b2:-9223372036854775808<=(i:Int)+1:=by omega
  have b3:(i:Int)+1<=9223372036854775807:=by omega
  have m1:(q1 s).n+i+1<=9223372036854775807:=by omega
  have m2:((q1 s).n+i+1) * 16<=140737488355328:=by omega
  have em:s.streets.n - (i+1) < s.streets.n - i:=by omega
  repeat' (first|with_reducible exact b0|with_reducible exact b1|with_reducible exact b2|with_reducible exact b3|exact m1|exact m2|apply And.intro|exact trivial|exact rfl|exact lz fun _=>rfl|exact S1.zz rfl)
  refine Exists.intro (i+1) (And.intro hil ?_)
  repeat' (first|with_reducible exact em|apply And.intro|exact trivial|exact rfl|exact lz fun _=>rfl|exact S1.zz rfl|exact fun (j:Nat) (hj:j < (q1 s).n+i+1)=>EL.aV (nP (g:=(fun i=>(s.streets.f i).id)) rfl hj) (bX ..))
 refine fun (h:decide ((i:Int) < (s.streets.n:Int))=false)=>?_
 have hil:i=s.streets.n:=by have:=of_decide_eq_false h; omega
 subst hil
 repeat' (first|apply And.intro|exact trivial|exact rfl|exact lz fun _=>rfl|exact S1.zz rfl)
 refine ⟨⟨Nat,fun i=>i<=s.buildings.n,fun i=>[(43,.int .i64 (i:Int)),(3,.lsl 20 1 ((q2 s).n+i))],
  fun i=>[(20,.arr 9 1 ((q2 s).n+i) fun j=>stL (oX (q2 s).n (q2 s).f (fun i=>(s.buildings.f i).id) j))],fun i=>s.buildings.n - i⟩,0,Nat.zero_le _,?_,?_⟩
 ·repeat' (first|apply And.intro|exact trivial|exact rfl|exact lz fun _=>rfl|exact S1.zz rfl|exact fun (j:Nat) (hj:j < (q2 s).n+0)=>EL.aV (congrArg stL (oY hj).symm) (bX ..))
 rintro (i:Nat) (hi:i<=s.buildings.n)
 repeat' (first|apply And.intro|exact trivial|exact rfl|exact lz fun _=>rfl|exact S1.zz rfl)
 ·refine fun (h:decide ((i:Int) < (s.buildings.n:Int))=true)=>?_
  have hil:i < s.buildings.n:=by have:=of_decide_eq_true h; omega
  have b0:(0:Int)<=(i:Int):=by omega
  have b1:(i:Int) < (s.buildings.n:Int):=by omega
  have b2:-9223372036854775808<=(i:Int)+1:=by omega
  have b3:(i:Int)+1<=9223372036854775807:=by omega
  have m1:(q2 s).n+i+1<=9223372036854775807:=by omega
  have m2:((q2 s).n+i+1) * 16<=140737488355328:=by omega
  have em:s.buildings.n - (i+1) < s.buildings.n - i:=by omega
  repeat' (first|with_reducible exact b0|with_reducible exact b1|with_reducible exact b2|with_reducible exact b3|exact m1|exact m2|apply And.intro|exact trivial|exact rfl|exact lz fun _=>rfl|exact S1.zz rfl)
  refine Exists.intro (i+1) (And.intro hil ?_)
  repeat' (first|with_reducible exact em|apply And.intro|exact trivial|exact rfl|exact lz fun _=>rfl|exact S1.zz rfl|exact fun (j:Nat) (hj:j < (q2 s).n+i+1)=>EL.aV (nP (g:=(fun i=>(s.buildings.f i).id)) rfl hj) (bX ..))
 refine fun (h:decide ((i:Int) < (s.buildings.n:Int))=false)=>?_
 have hil:i=s.buildings.n:=by have:=of_decide_eq_false h; omega
 subst hil
 repeat' (first|apply And.intro|exact trivial|exact rfl|exact lz fun _=>rfl|exact S1.zz rfl)
 refine ⟨⟨Nat,fun i=>i<=s.doors.n,fun i=>[(56,.int .i64 (i:Int)),(3,.lsl 20 1 ((q3 s).n+i))],
  fun i=>[(20,.arr 9 1 ((q3 s).n+i) fun j=>stL (oX (q3 s).n (q3 s).f (fun i=>(s.doors.f i).id) j))],fun i=>s.doors.n - i⟩,0,Nat.zero_le _,?_,?_⟩
 ·repeat' (first|apply And.intro|exact trivial|exact rfl|exact lz fun _=>rfl|exact S1.zz rfl|exact fun (j:Nat) (hj:j < (q3 s).n+0)=>EL.aV (congrArg stL (oY hj).symm) (bX ..))
 rintro (i:Nat) (hi:i<=s.doors.n)
 repeat' (first|apply And.intro|exact trivial|exact rfl|exact lz fun _=>rfl|exact S1.zz rfl)
 ·refine fun (h:decide ((i:Int) < (s.doors.n:Int))=true)=>?_
  have hil:i < s.doors.n:=by have:=of_decide_eq_true h; omega
  have b0:(0:Int)<=(i:Int):=by omega
  have b1:(i:Int) < (s.doors.n:Int):=by omega
  have b2:-9223372036854775808<=(i:Int)+1:=by omega
  have b3:(i:Int)+1<=9223372036854775807:=by omega
  have m1:(q3 s).n+i+1<=9223372036854775807:=by omega
  have m2:((q3 s).n+i+1) * 16<=140737488355328:=by omega
  have em:s.doors.n - (i+1) < s.doors.n - i:=by omega
  repeat' (first|with_reducible exact b0|with_reducible exact b1|with_reducible exact b2|with_reducible exact b3|exact m1|exact m2|apply And.intro|exact trivial|exact rfl|exact lz fun _=>rfl|exact S1.zz rfl)
  refine Exists.intro (i+1) (And.intro hil ?_)
  repeat' (first|with_reducible exact em|apply And.intro|exact trivial|exact rfl|exact lz fun _=>rfl|exact S1.zz rfl|exact fun (j:Nat) (hj:j < (q3 s).n+i+1)=>EL.aV (nP (g:=(fun i=>(s.doors.f i).id)) rfl hj) (bX ..))
 refine fun (h:decide ((i:Int) < (s.doors.n:Int))=false)=>?_
 have hil:i=s.doors.n:=by have:=of_decide_eq_false h; omega
 subst hil
 repeat' (first|apply And.intro|exact trivial|exact rfl|exact lz fun _=>rfl|exact S1.zz rfl)
 refine ⟨⟨Nat,fun i=>i<=s.units.n,fun i=>[(69,.int .i64 (i:Int)),(3,.lsl 20 1 ((q4 s).n+i))],
  fun i=>[(20,.arr 9 1 ((q4 s).n+i) fun j=>stL (oX (q4 s).n (q4 s).f (fun i=>(s.units.f i).id) j))],fun i=>s.units.n - i⟩,0,Nat.zero_le _,?_,?_⟩
 ·repeat' (first|apply And.intro|exact trivial|exact rfl|exact lz fun _=>rfl|exact S1.zz rfl|exact fun (j:Nat) (hj:j < (q4 s).n+0)=>EL.aV (congrArg stL (oY hj).symm) (bX ..))
 rintro (i:Nat) (hi:i<=s.units.n)
 repeat' (first|apply And.intro|exact trivial|exact rfl|exact lz fun _=>rfl|exact S1.zz rfl)
 ·refine fun (h:decide ((i:Int) < (s.units.n:Int))=true)=>?_
  have hil:i < s.units.n:=by have:=of_decide_eq_true h; omega
  have b0:(0:Int)<=(i:Int):=by omega
  have b1:(i:Int) < (s.units.n:Int):=by omega
  have b2:-9223372036854775808<=(i:Int)+1:=by omega
  have b3:(i:Int)+1<=9223372036854775807:=by omega
  have m1:(q4 s).n+i+1<=9223372036854775807:=by omega
  have m2:((q4 s).n+i+1) * 16<=140737488355328:=by omega
  have em:s.units.n - (i+1) < s.units.n - i:=by omega
  repeat' (first|with_reducible exact b0|with_reducible exact b1|with_reducible exact b2|with_reducible exact b3|exact m1|exact m2|apply And.intro|exact trivial|exact rfl|exact lz fun _=>rfl|exact S1.zz rfl)
  refine Exists.intro (i+1) (And.intro hil ?_)
  repeat' (first|with_reducible exact em|apply And.intro|exact trivial|exact rfl|exact lz fun _=>rfl|exact S1.zz rfl|exact fun (j:Nat) (hj:j < (q4 s).n+i+1)=>EL.aV (nP (g:=(fun i=>(s.units.f i).id)) rfl hj) (bX ..))
 refine fun (h:decide ((i:Int) < (s.units.n:Int))=false)=>?_
 have hil:i=s.units.n:=by have:=of_decide_eq_false h; omega
 subst hil
 repeat' (first|apply And.intro|exact trivial|exact rfl|exact lz fun _=>rfl|exact S1.zz rfl)
 refine Exists.intro () ?_
 repeat' (first|apply And.intro|exact trivial|exact rfl|exact lz fun _=>rfl|exact S1.zz rfl)
end S14
