/- A part of the proof. -/
import Derived.Test.YtijddkljgihcnaaGreatDoorF9
open Go Go.Eng Go.Proofs G1 G2 G3 G4 G6 G7 EV0 N1 F1 F2 F3 F4 F5 F6 F7 F8 F9
set_option maxRecDepth 100000
namespace F10
def nm1:SV:=.cons (.cptr (.cons (.fn 136 .nil) .nil)) .nil
def g98:List Nat:=[2,1,0]
def c98:aH :=
 .seq (.region g98 [(zo 0 (.alloc 143 (.cons (.nilfn) (.cons (.nilfn) (.cons (.nilfn) (.cons (.nilfn) (.cons (.nilfn) (.cons (.nilfn) (.cons (.nilfn) (.cons (.nilfn) (.cons (.nilfn) (.cons (.nilfn) (.cons (.nilfn) (.cons (.nilfn) (.cons (.nilfn) (.cons (.nilfn) (.cons (.nilfn) (.cons (.nilfn) .nil))))))))))))))))))]) (.seq (.region g98 [(zo 1 (.alloc 114 (.cons (.nilfn) .nil))),⟨none,none,.store 1 (.s 1) (.c (.fn 136)),[]⟩]) (.seq (.region g98 [(zo 2 (.move (.c (.fn 138))))]) (.seq (.region g98 [(zo 3 (.mkfn 140 [.s 1])),(zo 4 (.mkfn 142 [.s 1])),(zo 5 (.mkfn 144 [.s 1])),(zo 6 (.mkfn 148 [.s 1])),(zo 7 (.mkfn 154 [.s 1])),(ld 8 1),(ld 9 1),(mv 10 2),(mv 11 2),(zo 12 (.mkfn 159 [.s 1])),(zo 13 (.build (.cons (.nilfn) (.cons (.nilfn) (.cons (.nilfn) (.cons (.nilfn) (.cons (.nilfn) (.cons (.nilfn) (.cons (.nilfn) (.cons (.nilfn) (.cons (.nilfn) (.cons (.nilfn) (.cons (.nilfn) (.cons (.nilfn) (.cons (.nilfn) (.cons (.nilfn) (.cons (.nilfn) (.cons (.nilfn) .nil)))))))))))))))) [(1,1,.s 3),(2,1,.s 4),(3,1,.s 5),(4,1,.c (.fn 146)),(5,1,.s 6),(6,1,.c (.fn 149)),(7,1,.c (.fn 152)),(8,1,.s 7),(9,1,.c (.fn 157)),(10,1,.c (.fn 158)),(11,1,.s 8),(12,1,.s 9),(13,1,.s 10),(14,1,.s 11),(15,1,.s 12)])),⟨none,none,.store 16 (.s 0) (.s 13),[]⟩]) .ret)))
theorem e98:aI Tryz.prog 98 g98 [] [] []=some (c98,[.cell 0 16 true],14):=by kernel_rfl
def Ve:Eng.Spec where
 X:=Unit
 args:=fun _=>.nil
 pre:=fun _=>True
 res:=fun _=>.agg (.cons (CV.nilfn).sv (.cons (.fn 140 nm1) (.cons (.fn 142 nm1) (.cons (.fn 144 nm1) (.cons (.fn 146 .nil) (.cons (.fn 148 nm1) (.cons (.fn 149 .nil) (.cons (.fn 152 .nil) (.cons (.fn 154 nm1) (.cons (.fn 157 .nil) (.cons (.fn 158 .nil) (.cons (.fn 136 .nil) (.cons (.fn 136 .nil) (.cons (.fn 138 .nil) (.cons (.fn 138 .nil) (.cons (.fn 159 nm1) .nil))))))))))))))))
 inst:=fun _=>some ()
theorem Rg:Ve.Ok Tryz.prog 98:=by
 refine Eng.Spec.okR e98 .nil (fun _=>[]) (fun _ _=>aA.nil) ?_
 rintro ⟨⟩ _
 refine ⟨trivial,?_⟩
 repeat' (first|apply And.intro|exact trivial|exact rfl)
def ndK (e:Ev):Bool :=
 if e.kind=1 then nd1 e else if e.kind=2 then nd2 e else if e.kind=3 then nd3 e else if e.kind=4 then nd4 e else if e.kind=5 then nd5 e else
 if e.kind=6 then nd6 e else if e.kind=7 then nd7 e else if e.kind=8 then nd8 e else if e.kind=9 then nd9 e else if e.kind=10 then nd10 e else
 if e.kind=11 then nd0 e else if e.kind=12 then nd0 e else if e.kind=13 then nd13 e else if e.kind=14 then nd13 e else if e.kind=15 then nd15 e else false
def g66:List Nat:=[0,13,51,3,1,2]
def c66:aH :=
 .seq (.region g66 [(zo 1 (.box 93 (.s 0))),(zo 2 (.move cF))]) (.seq (.seq (.region g66 [(fa 4 0 1),(ld 5 4),(zo 6 (.call (.c (.fn 96)) [.s 5,cj 1,cj 15])),(zo 7 (.not (.s 6))),(mv 8 7),(fg 9 8 false 1 1),(lg 10 8 false 9),(zg 11 8 false (.call (.c (.fn 96)) [.s 10,cj 0,cj 100000])),(zg 12 8 false (.not (.s 11))),(zo 13 (.pick (.s 8) cT (.s 12)))]) (.cond (.s 13) (.seq (.region g66 [(zo 2 (.move cF))]) .ret) .skip)) (.seq (.region g66 [(zo 14 (.load 18 true (.s 1))),(zo 15 (.call (.c (.fn 97)) [.s 14])),(zo 3 (.alloc 93 zEv)),⟨none,none,.store 18 (.s 3) (.s 15),[]⟩]) (.seq (.seq (.region g66 [(fa 16 2 3),(ld 17 16),(zo 18 (.bin (.neq) (.s 17) (cj 0))),(mv 19 18),(fg 20 19 false 3 3),(lg 21 19 false 20),(zg 22 19 false (.bin (.neq) (.s 21) (cj 0))),(zo 23 (.pick (.s 19) cT (.s 22))),(mv 24 23),(fg 25 24 false 4 3),(lg 26 24 false 25),(zg 27 24 false (.bin (.neq) (.s 26) (cj 0))),(zo 28 (.pick (.s 24) cT (.s 27))),(mv 29 28),(fg 30 29 false 5 3),(lg 31 29 false 30),(fg 32 29 false 6 3),(lg 33 29 false 32),(zg 34 29 false (.bin (.add) (.s 31) (.s 33))),(fg 35 29 false 7 3),(lg 36 29 false 35),(zg 37 29 false (.bin (.add) (.s 34) (.s 36))),(zg 38 29 false (.bin (.neq) (.s 37) (.c (.str [])))),(zo 39 (.pick (.s 29) cT (.s 38))),(mv 40 39),(fg 41 40 false 10 3),(zg 42 40 false (.load 4 true (.s 41))),(zg 43 40 false (.build zHn [])),(zg 44 40 false (.eqS true [(0,1),(1,2),(2,1),(3,1)] (.s 42) (.s 43))),(zo 45 (.pick (.s 40) cT (.s 44))),(mv 46 45),(fg 47 46 false 14 3),(zg 48 46 false (.load 2 true (.s 47))),(zg 49 46 false (.build zPt [])),(zg 50 46 false (.eqS true [(0,1),(1,1)] (.s 48) (.s 49))),(zo 51 (.pick (.s 46) cT (.s 50)))]) (.cond (.s 51) (.seq (.region g66 [(zo 2 (.move cF))]) .ret) .skip)) (.seq (.drawn g66 (.pure 0 (fa 52 8 3) (.pure 1 (ld 53 52) (.pure 2 (zo 54 (.lenSl (.s 53))) (.pure 3 (fa 55 9 3) (.pure 4 (ld 56 55) (.pure 5 (zo 57 (.lenSl (.s 56))) (.pure 6 (zo 58 (.bin (.add) (.s 54) (.s 57))) (.pure 7 (fa 59 16 3) (.pure 8 (ld 60 59) (.pure 9 (zo 61 (.lenSl (.s 60))) (.pure 10 (zo 62 (.bin (.add) (.s 58) (.s 61))) (.pure 11 (fa 63 17 3) (.pure 12 (ld 64 63) (.pure 13 (zo 65 (.lenSl (.s 64))) (.pure 14 (zo 66 (.bin (.add) (.s 62) (.s 65))) (.pure 15 (zo 67 (.bin (.eql) (.s 66) (cj 0))) (.pure 16 (mv 68 67) (.pure 17 (zg 69 68 true (.call (.c (.fn 98)) [])) (.pure 18 (fg 70 68 true 0 1) (.pure 19 (lg 71 68 true 70) (.pure 20 (zg 72 68 true (.idxVal 16 1 false (.s 69) (.s 71))) (.pure 21 (zg 73 68 true (.load 18 true (.s 1))) (.pure 22 (zg 74 68 true (.call (.s 72) [.s 73])) (.pure 23 (zo 75 (.pick (.s 68) (.s 74) cF)) (.pure 24 (mv 2 75) .done)))))))))))))))))))))))))) .ret))))
theorem e66:aI Tryz.prog 66 g66 [] [] []=some (c66,[.slot 2],76):=by kernel_rfl
def zB (x:Ev):Bool:=((((!decide (x.a=0) || !decide (x.b=0)) || !decide (x.off=0)) || !decide ((x.id++x.oth)++x.txt=[])) || !(decide (x.num.n=0) && (decide (x.num.l=[]) && (decide (x.num.num=0) && (decide (x.num.den=0) && true))))) || !(decide (x.pt.1=0) && (decide (x.pt.2=0) && true))
def emB (x:Ev):Bool:=decide ((((x.ids.n:Int)+(x.names.n:Int))+(x.path.n:Int))+(x.list.n:Int)=0)
def lY (e:Ev):Bool:=if (!bI e.kind 1 15 || !bI e.day 0 100000)=true then false else if zB (bM e)=true then false else emB (bM e) && ndK e
def Qg:Eng.Spec where
 X:=Ev
 args:=fun e=>.cons (evE e) .nil
 pre:=okV
 res:=fun e=>.bool (lY e)
 inst:=ev1
theorem Mf {e:Ev} (h:(!bI e.kind 1 15 || !bI e.day 0 100000)=true):false=lY e:=by unfold lY; rw [if_pos h]
theorem Qi {e:Ev} (h:(!bI e.kind 1 15 || !bI e.day 0 100000)=false) (hz:zB (bM e)=true):false=lY e:=by unfold lY; rw [if_neg (by rw [h]; decide),if_pos hz]
theorem Qh {e:Ev} (h:(!bI e.kind 1 15 || !bI e.day 0 100000)=false) (hz:zB (bM e)=false):(emB (bM e) && ndK e)=lY e:=by unfold lY; rw [if_neg (by rw [h]; decide),if_neg (by rw [hz]; decide)]
structure Pa (x:Ev):Prop where
 id:x.id.length<=1000000
 oth:x.oth.length<=1000000
 txt:x.txt.length<=1000000
 ids:x.ids.n<=1000000
 names:x.names.n<=1000000
 path:x.path.n<=1000000
 list:x.list.n<=1000000
theorem Lp {e:Ev} (h:okV e):Pa (bM e):=by
 have h1:e.id.length<=1000000:=h.id
 have h2:e.oth.length<=1000000:=h.oth
 have h3:e.txt.length<=1000000:=h.txt
 have h4:=h.ids.1
 have h5:=h.names.1
 have h6:=h.path
 have h7:=h.list.1
 unfold bM
 constructor <;> dsimp only <;> split <;> first|omega|(simp only [List.length_nil]; omega)
set_option maxHeartbeats 80000000 in
theorem Ib:Qg.Ok Tryz.prog 66:=by
 refine Eng.Spec.okR e66 .nil (fun _=>[(96,.p xT),(97,.p Tv),(98,.p Ve),(140,.p n1S),(142,.p n2S),(144,.p n3S),(146,.p n4S),(148,.p n5S),(149,.p n6S),(152,.p n7S),(154,.p n8S),(157,.p n9S),(158,.p Uz),(136,.p n0S),(138,.p U1),(159,.p U2)])
  (fun _ _=>aA.p lM (aA.p Pm (aA.p Rg (aA.p U3 (aA.p U4 (aA.p U5 (aA.p U6 (aA.p U7 (aA.p U8 (aA.p U9 (aA.p Va (aA.p Vb (aA.p Rb (aA.p sX (aA.p Rc (aA.p Re aA.nil)))))))))))))))) ?_
 rintro (e:Ev) (h:okV e)
 by_cases hk:1<=e.kind/\e.kind<=15
 ·have hb:=Lp h
  have hb1:=hb.id
  have hb2:=hb.oth
  have hb3:=hb.txt
  have hb4:=hb.ids
  have hb5:=hb.names
  have hb6:=hb.path
  have hb7:=hb.list
  have m1:(bM e).id.length+(bM e).oth.length<=9223372036854775807:=by omega
  have m2:((bM e).id++(bM e).oth).length+(bM e).txt.length<=9223372036854775807:=by rw [List.length_append]; omega
  have i1:-9223372036854775808<=((bM e).ids.n:Int)+((bM e).names.n:Int):=by omega
  have i2:((bM e).ids.n:Int)+((bM e).names.n:Int)<=9223372036854775807:=by omega
  have i3:-9223372036854775808<=(((bM e).ids.n:Int)+((bM e).names.n:Int))+((bM e).path.n:Int):=by omega
  have i4:(((bM e).ids.n:Int)+((bM e).names.n:Int))+((bM e).path.n:Int)<=9223372036854775807:=by omega
  have i5:-9223372036854775808<=((((bM e).ids.n:Int)+((bM e).names.n:Int))+((bM e).path.n:Int))+((bM e).list.n:Int):=by omega
  have i6:((((bM e).ids.n:Int)+((bM e).names.n:Int))+((bM e).path.n:Int))+((bM e).list.n:Int)<=9223372036854775807:=by omega
  have fo:=Mf (e:=e)
  have fz:=Qi (e:=e)
  have fi:=Qh (e:=e)
  have cz:∀ i j k l m,aE (aE (aE (aE (aE (!decide ((bM e).a=0)) cT (.s i) true (!decide ((bM e).b=0))) cT (.s j) true (!decide ((bM e).off=0))) cT (.s k) true (!decide (((bM e).id++(bM e).oth)++(bM e).txt=[]))) cT (.s l) true (!(decide ((bM e).num.n=0) && (decide ((bM e).num.l=[]) && (decide ((bM e).num.num=0) && (decide ((bM e).num.den=0) && true)))))) cT (.s m) true (!(decide ((bM e).pt.1=0) && (decide ((bM e).pt.2=0) && true)))=zB (bM e):=fun i j k l m=>by
   rw [aD,aD,aD,aD,aD]; rfl
  obtain ⟨k,day,a,b,off,id,oth,txt,ids,names,num,pt,path,list⟩:=e
  obtain ⟨(h1:1<=k),(h2:k<=15)⟩:=hk
  have k0:0<=k:=by omega
  have k1:k < ((16:Nat):Int):=by omega
  have k2:k.toNat < 16:=by omega
  have:k=1\/k=2\/k=3\/k=4\/k=5\/k=6\/k=7\/k=8\/k=9\/k=10\/k=11\/k=12\/k=13\/k=14\/k=15:=by omega
  rcases this with rfl|rfl|rfl|rfl|rfl|rfl|rfl|rfl|rfl|rfl|rfl|rfl|rfl|rfl|rfl
  all_goals
   refine ⟨trivial,?_⟩
   repeat' (first|apply And.intro|exact trivial|exact rfl|exact lz fun _=>rfl|refine gd ?_)
   ·refine fun hc=>?_
    have hc:aE (!bI _ 1 15) cT (.s 12) true (!bI day 0 100000)=true:=hc
    rw [aD] at hc
    have ef:=fo hc
    repeat' (first|exact ef|apply And.intro|exact trivial|exact rfl)
   ·refine fun hc=>?_
    have hc:aE (!bI _ 1 15) cT (.s 12) true (!bI day 0 100000)=false:=hc
    rw [aD] at hc
    replace fz:=fz hc
    replace fi:=fi hc
    repeat' (first|exact h1|exact h2|apply And.intro|exact trivial|exact rfl|exact lz fun _=>rfl|refine gd ?_)
    ·exact m1
    ·exact m2
    ·refine fun hz=>?_
     have hz:=(cz 22 27 38 44 50).symm.trans hz
     have ef:=fz hz
     repeat' (first|exact ef|apply And.intro|exact trivial|exact rfl)
    ·refine fun hz=>?_
     have hz:=(cz 22 27 38 44 50).symm.trans hz
     replace fi:=fi hz
     repeat' (first|apply And.intro|exact trivial|exact rfl|exact lz fun _=>rfl)
     ·exact i1
     ·exact i2
     ·exact i3
     ·exact i4
     ·exact i5
     ·exact i6
     all_goals repeat' (first|exact h|apply And.intro|exact trivial|exact rfl|exact lz fun _=>rfl|refine gd ?_|exact k0|exact k1|exact k2|exact fi)
 ·have hw:bI e.kind 1 15=false:=by
   unfold bI
   rw [Bool.eq_false_iff]
   intro hc
   simp only [Bool.and_eq_true,decide_eq_true_eq] at hc
   exact hk hc
  have ef:false=lY e:=by
   unfold lY
   rw [hw]
   rfl
  refine ⟨trivial,?_⟩
  repeat' (first|apply And.intro|exact trivial|exact rfl|exact lz fun _=>rfl|refine gd ?_)
  ·refine fun _=>?_
   repeat' (first|exact ef|apply And.intro|exact trivial|exact rfl)
  ·refine fun (hc:aE (!bI e.kind 1 15) _ _ _ _=false)=>?_
   exfalso
   rw [aD,hw] at hc
   exact absurd hc (by simp)
end F10
