/- A part of the proof. -/
import Derived.Test.YtlfdokecdilkcaaGreatDoorF9
open Go Go.Eng Go.Proofs G1 G2 G3 G4 G6 G7 EV0 N1 N2 F1 F2 F3 F4 F5 F6 F7 F8 F9
set_option maxRecDepth 100000
namespace F10
def nm1:SV:=.cons (.cptr (.cons (.fn 81 .nil) .nil)) .nil
def g49:List Nat:=[2,1,0]
def c49:aD :=
 .seq (.region g49 [(zo 0 (.alloc 80 (.cons (.nilfn) (.cons (.nilfn) (.cons (.nilfn) (.cons (.nilfn) (.cons (.nilfn) (.cons (.nilfn) (.cons (.nilfn) (.cons (.nilfn) (.cons (.nilfn) (.cons (.nilfn) (.cons (.nilfn) (.cons (.nilfn) (.cons (.nilfn) (.cons (.nilfn) (.cons (.nilfn) (.cons (.nilfn) .nil))))))))))))))))))]) (.seq (.region g49 [(zo 1 (.alloc 39 (.cons (.nilfn) .nil))),⟨none,none,.store 1 (.s 1) (.c (.fn 81)),[]⟩]) (.seq (.region g49 [(zo 2 (.move (.c (.fn 83))))]) (.seq (.region g49 [(zo 3 (.mkfn 85 [.s 1])),(zo 4 (.mkfn 87 [.s 1])),(zo 5 (.mkfn 89 [.s 1])),(zo 6 (.mkfn 93 [.s 1])),(zo 7 (.mkfn 98 [.s 1])),(zo 8 (.load 1 false (.s 1))),(zo 9 (.load 1 false (.s 1))),(zo 10 (.move (.s 2))),(zo 11 (.move (.s 2))),(zo 12 (.mkfn 103 [.s 1])),(zo 13 (.build (.cons (.nilfn) (.cons (.nilfn) (.cons (.nilfn) (.cons (.nilfn) (.cons (.nilfn) (.cons (.nilfn) (.cons (.nilfn) (.cons (.nilfn) (.cons (.nilfn) (.cons (.nilfn) (.cons (.nilfn) (.cons (.nilfn) (.cons (.nilfn) (.cons (.nilfn) (.cons (.nilfn) (.cons (.nilfn) .nil)))))))))))))))) [(1,1,.s 3),(2,1,.s 4),(3,1,.s 5),(4,1,.c (.fn 91)),(5,1,.s 6),(6,1,.c (.fn 94)),(7,1,.c (.fn 96)),(8,1,.s 7),(9,1,.c (.fn 101)),(10,1,.c (.fn 102)),(11,1,.s 8),(12,1,.s 9),(13,1,.s 10),(14,1,.s 11),(15,1,.s 12)])),⟨none,none,.store 16 (.s 0) (.s 13),[]⟩]) .ret)))
def r49:List aR:=[.cell 0 16 true]
def k49:List (Nat×Nat×aD×Nat):=[]
theorem e49:aK Tryz.prog 49 g49 [] [] k49=some (c49,r49,14):=by kernel_rfl
theorem q49:aF Tryz.prog k49:=aF.nil
def U6:Eng.Spec where
 X:=Unit
 args:=fun _=>.nil
 pre:=fun _=>True
 res:=fun _=>.agg (.cons (CV.nilfn).sv (.cons (.fn 85 nm1) (.cons (.fn 87 nm1) (.cons (.fn 89 nm1) (.cons (.fn 91 .nil) (.cons (.fn 93 nm1) (.cons (.fn 94 .nil) (.cons (.fn 96 .nil) (.cons (.fn 98 nm1) (.cons (.fn 101 .nil) (.cons (.fn 102 .nil) (.cons (.fn 81 .nil) (.cons (.fn 81 .nil) (.cons (.fn 83 .nil) (.cons (.fn 83 .nil) (.cons (.fn 103 nm1) .nil))))))))))))))))
 inst:=fun _=>some ()
theorem Ry:U6.Ok Tryz.prog 49:=by
 refine Eng.Spec.okR e49 q49 (fun _=>[]) (fun _ _=>aA.nil) ?_
 rintro ⟨⟩ _
 refine ⟨trivial,?_⟩
 repeat' (first|apply And.intro|exact trivial|exact rfl)
def ndK (e:Ev):Bool :=
 if e.kind=1 then nd1 e else if e.kind=2 then nd2 e else if e.kind=3 then nd3 e else if e.kind=4 then nd4 e else if e.kind=5 then nd5 e else
 if e.kind=6 then nd6 e else if e.kind=7 then nd7 e else if e.kind=8 then nd8 e else if e.kind=9 then nd9 e else if e.kind=10 then nd10 e else
 if e.kind=11 then nd0 e else if e.kind=12 then nd0 e else if e.kind=13 then nd13 e else if e.kind=14 then nd13 e else if e.kind=15 then nd15 e else false
def g16:List Nat:=[0,13,51,3,1,2]
def c16:aD :=
 .seq (.region g16 [(zo 1 (.box 31 (.s 0))),(zo 2 (.move (.c (.bool false))))]) (.seq (.seq (.region g16 [(zo 4 (.fldA 0 (.s 1))),(zo 5 (.load 1 false (.s 4))),(zo 6 (.call (.c (.fn 47)) [.s 5,.c (.int .i64 1),.c (.int .i64 15)])),(zo 7 (.not (.s 6))),(zo 8 (.move (.s 7))),(zg 9 8 false (.fldA 1 (.s 1))),(zg 10 8 false (.load 1 false (.s 9))),(zg 11 8 false (.call (.c (.fn 47)) [.s 10,.c (.int .i64 0),.c (.int .i64 100000)])),(zg 12 8 false (.not (.s 11))),(zo 13 (.pick (.s 8) (.c (.bool true)) (.s 12)))]) (.cond (.s 13) (.seq (.region g16 [(zo 2 (.move (.c (.bool false))))]) .ret) .skip)) (.seq (.region g16 [(zo 14 (.load 18 true (.s 1))),(zo 15 (.call (.c (.fn 48)) [.s 14])),(zo 3 (.alloc 31 zEv)),⟨none,none,.store 18 (.s 3) (.s 15),[]⟩]) (.seq (.seq (.region g16 [(zo 16 (.fldA 2 (.s 3))),(zo 17 (.load 1 false (.s 16))),(zo 18 (.bin (.neq) (.s 17) (.c (.int .i64 0)))),(zo 19 (.move (.s 18))),(zg 20 19 false (.fldA 3 (.s 3))),(zg 21 19 false (.load 1 false (.s 20))),(zg 22 19 false (.bin (.neq) (.s 21) (.c (.int .i64 0)))),(zo 23 (.pick (.s 19) (.c (.bool true)) (.s 22))),(zo 24 (.move (.s 23))),(zg 25 24 false (.fldA 4 (.s 3))),(zg 26 24 false (.load 1 false (.s 25))),(zg 27 24 false (.bin (.neq) (.s 26) (.c (.int .i64 0)))),(zo 28 (.pick (.s 24) (.c (.bool true)) (.s 27))),(zo 29 (.move (.s 28))),(zg 30 29 false (.fldA 5 (.s 3))),(zg 31 29 false (.load 1 false (.s 30))),(zg 32 29 false (.fldA 6 (.s 3))),(zg 33 29 false (.load 1 false (.s 32))),(zg 34 29 false (.bin (.add) (.s 31) (.s 33))),(zg 35 29 false (.fldA 7 (.s 3))),(zg 36 29 false (.load 1 false (.s 35))),(zg 37 29 false (.bin (.add) (.s 34) (.s 36))),(zg 38 29 false (.bin (.neq) (.s 37) (.c (.str [])))),(zo 39 (.pick (.s 29) (.c (.bool true)) (.s 38))),(zo 40 (.move (.s 39))),(zg 41 40 false (.fldA 10 (.s 3))),(zg 42 40 false (.load 4 true (.s 41))),(zg 43 40 false (.build zHn [])),(zg 44 40 false (.eqS true [(0,1),(1,2),(2,1),(3,1)] (.s 42) (.s 43))),(zo 45 (.pick (.s 40) (.c (.bool true)) (.s 44))),(zo 46 (.move (.s 45))),(zg 47 46 false (.fldA 14 (.s 3))),(zg 48 46 false (.load 2 true (.s 47))),(zg 49 46 false (.build zPt [])),(zg 50 46 false (.eqS true [(0,1),(1,1)] (.s 48) (.s 49))),(zo 51 (.pick (.s 46) (.c (.bool true)) (.s 50)))]) (.cond (.s 51) (.seq (.region g16 [(zo 2 (.move (.c (.bool false))))]) .ret) .skip)) (.seq (.drawn g16 (.pure 0 (zo 52 (.fldA 8 (.s 3))) (.pure 1 (zo 53 (.load 1 false (.s 52))) (.pure 2 (zo 54 (.lenSl (.s 53))) (.pure 3 (zo 55 (.fldA 9 (.s 3))) (.pure 4 (zo 56 (.load 1 false (.s 55))) (.pure 5 (zo 57 (.lenSl (.s 56))) (.pure 6 (zo 58 (.bin (.add) (.s 54) (.s 57))) (.pure 7 (zo 59 (.fldA 16 (.s 3))) (.pure 8 (zo 60 (.load 1 false (.s 59))) (.pure 9 (zo 61 (.lenSl (.s 60))) (.pure 10 (zo 62 (.bin (.add) (.s 58) (.s 61))) (.pure 11 (zo 63 (.fldA 17 (.s 3))) (.pure 12 (zo 64 (.load 1 false (.s 63))) (.pure 13 (zo 65 (.lenSl (.s 64))) (.pure 14 (zo 66 (.bin (.add) (.s 62) (.s 65))) (.pure 15 (zo 67 (.bin (.eql) (.s 66) (.c (.int .i64 0)))) (.pure 16 (zo 68 (.move (.s 67))) (.pure 17 (zg 69 68 true (.call (.c (.fn 49)) [])) (.pure 18 (zg 70 68 true (.fldA 0 (.s 1))) (.pure 19 (zg 71 68 true (.load 1 false (.s 70))) (.pure 20 (zg 72 68 true (.idxVal 16 1 false (.s 69) (.s 71))) (.pure 21 (zg 73 68 true (.load 18 true (.s 1))) (.pure 22 (zg 74 68 true (.call (.s 72) [.s 73])) (.pure 23 (zo 75 (.pick (.s 68) (.s 74) (.c (.bool false)))) (.pure 24 (zo 2 (.move (.s 75))) .done)))))))))))))))))))))))))) .ret))))
def r16:List aR:=[.slot 2]
def k16:List (Nat×Nat×aD×Nat):=[]
theorem e16:aK Tryz.prog 16 g16 [] [] k16=some (c16,r16,76):=by kernel_rfl
theorem q16:aF Tryz.prog k16:=aF.nil
def zB (x:Ev):Bool:=((((!decide (x.a=0) || !decide (x.b=0)) || !decide (x.off=0)) || !decide ((x.id++x.oth)++x.txt=[])) || !(decide (x.num.n=0) && (decide (x.num.l=[]) && (decide (x.num.num=0) && (decide (x.num.den=0) && true))))) || !(decide (x.pt.1=0) && (decide (x.pt.2=0) && true))
def emB (x:Ev):Bool:=decide ((((x.ids.n:Int)+(x.names.n:Int))+(x.path.n:Int))+(x.list.n:Int)=0)
def aS (e:Ev):Bool:=if (!cJ e.kind 1 15 || !cJ e.day 0 100000)=true then false else if zB (bA e)=true then false else emB (bA e) && ndK e
def I7:Eng.Spec where
 X:=Ev
 args:=fun e=>.cons (evE e) .nil
 pre:=okV
 res:=fun e=>.bool (aS e)
 inst:=ev1
theorem Mw {e:Ev} (h:(!cJ e.kind 1 15 || !cJ e.day 0 100000)=true):false=aS e:=by unfold aS; rw [if_pos h]
theorem Q1 {e:Ev} (h:(!cJ e.kind 1 15 || !cJ e.day 0 100000)=false) (hz:zB (bA e)=true):false=aS e:=by unfold aS; rw [if_neg (by rw [h]; decide),if_pos hz]
theorem Q0 {e:Ev} (h:(!cJ e.kind 1 15 || !cJ e.day 0 100000)=false) (hz:zB (bA e)=false):(emB (bA e) && ndK e)=aS e:=by unfold aS; rw [if_neg (by rw [h]; decide),if_neg (by rw [hz]; decide)]
structure Pw (x:Ev):Prop where
 id:x.id.length<=1000000
 oth:x.oth.length<=1000000
 txt:x.txt.length<=1000000
 ids:x.ids.n<=1000000
 names:x.names.n<=1000000
 path:x.path.n<=1000000
 list:x.list.n<=1000000
theorem L7 {e:Ev} (h:okV e):Pw (bA e):=by
 have h1:e.id.length<=1000000:=h.id
 have h2:e.oth.length<=1000000:=h.oth
 have h3:e.txt.length<=1000000:=h.txt
 have h4:=h.ids.1
 have h5:=h.names.1
 have h6:=h.path
 have h7:=h.list.1
 unfold bA
 constructor <;> dsimp only <;> split <;> first|omega|(simp only [List.length_nil]; omega)
set_option maxHeartbeats 80000000 in
theorem wW:I7.Ok Tryz.prog 16:=by
 refine Eng.Spec.okR e16 q16 (fun _=>[(47,.p yQ),(48,.p Ti),(49,.p U6),(85,.p n1S),(87,.p n2S),(89,.p n3S),(91,.p n4S),(93,.p n5S),(94,.p n6S),(96,.p n7S),(98,.p n8S),(101,.p n9S),(102,.p Uq),(81,.p n0S),(83,.p Ur),(103,.p Us)])
  (fun _ _=>aA.p mB (aA.p P5 (aA.p Ry (aA.p Ut (aA.p Uu (aA.p Uv (aA.p Uw (aA.p Ux (aA.p Uy (aA.p Uz (aA.p U1 (aA.p U2 (aA.p Rm (aA.p tK (aA.p Rn (aA.p Ro aA.nil)))))))))))))))) ?_
 rintro (e:Ev) (h:okV e)
 by_cases hk:1<=e.kind/\e.kind<=15
 ·have hb:=L7 h
  have hb1:=hb.id
  have hb2:=hb.oth
  have hb3:=hb.txt
  have hb4:=hb.ids
  have hb5:=hb.names
  have hb6:=hb.path
  have hb7:=hb.list
  have m1:(bA e).id.length+(bA e).oth.length<=9223372036854775807:=by omega
  have m2:((bA e).id++(bA e).oth).length+(bA e).txt.length<=9223372036854775807:=by rw [List.length_append]; omega
  have i1:-9223372036854775808<=((bA e).ids.n:Int)+((bA e).names.n:Int):=by omega
  have i2:((bA e).ids.n:Int)+((bA e).names.n:Int)<=9223372036854775807:=by omega
  have i3:-9223372036854775808<=(((bA e).ids.n:Int)+((bA e).names.n:Int))+((bA e).path.n:Int):=by omega
  have i4:(((bA e).ids.n:Int)+((bA e).names.n:Int))+((bA e).path.n:Int)<=9223372036854775807:=by omega
  have i5:-9223372036854775808<=((((bA e).ids.n:Int)+((bA e).names.n:Int))+((bA e).path.n:Int))+((bA e).list.n:Int):=by omega
  have i6:((((bA e).ids.n:Int)+((bA e).names.n:Int))+((bA e).path.n:Int))+((bA e).list.n:Int)<=9223372036854775807:=by omega
  have fo:=Mw (e:=e)
  have fz:=Q1 (e:=e)
  have fi:=Q0 (e:=e)
  have cz:∀ i j k l m,aG (aG (aG (aG (aG (!decide ((bA e).a=0)) (.c (.bool true)) (.s i) true (!decide ((bA e).b=0))) (.c (.bool true)) (.s j) true (!decide ((bA e).off=0))) (.c (.bool true)) (.s k) true (!decide (((bA e).id++(bA e).oth)++(bA e).txt=[]))) (.c (.bool true)) (.s l) true (!(decide ((bA e).num.n=0) && (decide ((bA e).num.l=[]) && (decide ((bA e).num.num=0) && (decide ((bA e).num.den=0) && true)))))) (.c (.bool true)) (.s m) true (!(decide ((bA e).pt.1=0) && (decide ((bA e).pt.2=0) && true)))=zB (bA e):=fun i j k l m=>by
   rw [aI,aI,aI,aI,aI]; rfl
  obtain ⟨k,day,a,b,off,id,oth,txt,ids,names,num,pt,path,list⟩:=e
  obtain ⟨(h1:1<=k),(h2:k<=15)⟩:=hk
  have k0:0<=k:=by omega
  have k1:k < ((16:Nat):Int):=by omega
  have k2:k.toNat < 16:=by omega
  have:k=1\/k=2\/k=3\/k=4\/k=5\/k=6\/k=7\/k=8\/k=9\/k=10\/k=11\/k=12\/k=13\/k=14\/k=15:=by omega
  rcases this with rfl|rfl|rfl|rfl|rfl|rfl|rfl|rfl|rfl|rfl|rfl|rfl|rfl|rfl|rfl
  all_goals
   refine ⟨trivial,?_⟩
   repeat' (first|apply And.intro|exact trivial|exact rfl|exact lz fun _=>rfl|(refine fun (_:aH _ _ _ _)=>?_))
   ·refine fun hc=>?_
    have hc:aG (!cJ _ 1 15) (.c (.bool true)) (.s 12) true (!cJ day 0 100000)=true:=hc
    rw [aI] at hc
    have ef:=fo hc
    repeat' (first|exact ef|apply And.intro|exact trivial|exact rfl)
   ·refine fun hc=>?_
    have hc:aG (!cJ _ 1 15) (.c (.bool true)) (.s 12) true (!cJ day 0 100000)=false:=hc
    rw [aI] at hc
    replace fz:=fz hc
    replace fi:=fi hc
    repeat' (first|exact h1|exact h2|apply And.intro|exact trivial|exact rfl|exact lz fun _=>rfl|(refine fun (_:aH _ _ _ _)=>?_))
    ·exact m1
    ·exact m2
    ·refine fun hz=>?_
     have hz:=(cz 22 27 38 44 50).symm.trans hz
     have ef:=fz hz
     repeat' (first|exact ef|apply And.intro|exact trivial|exact rfl)
    ·refine fun hz=>?_
     have hz:=(cz 22 27 38 44 50).symm.trans hz
     replace fi:=fi hz
     repeat' (first|apply And.intro|exact trivial|exact rfl|exact lz fun _=>rfl)
     ·exact i1
     ·exact i2
     ·exact i3
     ·exact i4
     ·exact i5
     ·exact i6
     all_goals repeat' (first|exact h|apply And.intro|exact trivial|exact rfl|exact lz fun _=>rfl|(refine fun (_:aH _ _ _ _)=>?_)|exact k0|exact k1|exact k2|exact fi)
 ·have hw:cJ e.kind 1 15=false:=by
   unfold cJ
   rw [Bool.eq_false_iff]
   intro hc
   simp only [Bool.and_eq_true,decide_eq_true_eq] at hc
   exact hk hc
  have ef:false=aS e:=by
   unfold aS
   rw [hw]
   rfl
  refine ⟨trivial,?_⟩
  repeat' (first|apply And.intro|exact trivial|exact rfl|exact lz fun _=>rfl|(refine fun (_:aH _ _ _ _)=>?_))
  ·refine fun _=>?_
   repeat' (first|exact ef|apply And.intro|exact trivial|exact rfl)
  ·refine fun (hc:aG (!cJ e.kind 1 15) _ _ _ _=false)=>?_
   exfalso
   rw [aI,hw] at hc
   exact absurd hc (by simp)
end F10
