/- A part of the proof. -/
import Derived.Test.YtlfdokecdilkcaaGreatDoorF25
import Derived.Test.YtlfdokecdilkcaaGreatDoorF20
open Go Go.Eng Go.Proofs G1 G2 G3 G4 G6 G7 EV0 N1 N2 F1 F7 F9 F10 F11 F13 F14 F13g F16 F17 F18 F19 F20 F21 F22 F23 RT3 F25
set_option maxRecDepth 100000
namespace F26
theorem ok6:okV nL:=⟨Nat.le_of_ble_eq_true rfl,Nat.le_of_ble_eq_true rfl,Nat.le_of_ble_eq_true rfl,⟨Nat.le_of_ble_eq_true rfl,fun i hi=>absurd hi (Nat.not_lt_zero i)⟩,⟨Nat.le_of_ble_eq_true rfl,fun i hi=>absurd hi (Nat.not_lt_zero i)⟩,Nat.le_of_ble_eq_true rfl,Nat.le_of_ble_eq_true rfl,Nat.le_of_ble_eq_true rfl,fun i hi=>absurd hi (Nat.not_lt_zero i)⟩
theorem ok3:okV Gn:=⟨Nat.le_of_ble_eq_true rfl,Nat.le_of_ble_eq_true rfl,Nat.le_of_ble_eq_true rfl,⟨Nat.le_of_ble_eq_true rfl,fun i hi=>absurd hi (Nat.not_lt_zero i)⟩,⟨Nat.le_of_ble_eq_true rfl,fun _ _=>⟨Nat.le_of_ble_eq_true rfl,Nat.le_of_ble_eq_true rfl⟩⟩,Nat.le_of_ble_eq_true rfl,Nat.le_of_ble_eq_true rfl,Nat.le_of_ble_eq_true rfl,fun i hi=>absurd hi (Nat.not_lt_zero i)⟩
theorem ok13:okV Jt:=⟨Nat.le_of_ble_eq_true rfl,Nat.le_of_ble_eq_true rfl,Nat.le_of_ble_eq_true rfl,⟨Nat.le_of_ble_eq_true rfl,fun i hi=>absurd hi (Nat.not_lt_zero i)⟩,⟨Nat.le_of_ble_eq_true rfl,fun i hi=>absurd hi (Nat.not_lt_zero i)⟩,Nat.le_of_ble_eq_true rfl,Nat.le_of_ble_eq_true rfl,Nat.le_of_ble_eq_true rfl,fun i hi=>absurd hi (Nat.not_lt_zero i)⟩
theorem ok1:okV wH:=⟨Nat.le_of_ble_eq_true rfl,Nat.le_of_ble_eq_true rfl,Nat.le_of_ble_eq_true rfl,⟨Nat.le_of_ble_eq_true rfl,fun i hi=>absurd hi (Nat.not_lt_zero i)⟩,⟨Nat.le_of_ble_eq_true rfl,fun i hi=>absurd hi (Nat.not_lt_zero i)⟩,Nat.le_of_ble_eq_true rfl,Nat.le_of_ble_eq_true rfl,Nat.le_of_ble_eq_true rfl,fun i hi=>absurd hi (Nat.not_lt_zero i)⟩
theorem ok0:okV P4:=⟨Nat.le_of_ble_eq_true rfl,Nat.le_of_ble_eq_true rfl,Nat.le_of_ble_eq_true rfl,⟨Nat.le_of_ble_eq_true rfl,fun i hi=>absurd hi (Nat.not_lt_zero i)⟩,⟨Nat.le_of_ble_eq_true rfl,fun i hi=>absurd hi (Nat.not_lt_zero i)⟩,Nat.le_of_ble_eq_true rfl,Nat.le_of_ble_eq_true rfl,Nat.le_of_ble_eq_true rfl,fun i hi=>absurd hi (Nat.not_lt_zero i)⟩
def kdD:SV->Int
 | .cons (.agg l) _=>eZ (bI l 0)
 | _=>0
def Qm:Eng.Spec where
 X:=Ev×B
 args:=fun x=>.cons (evE x.1) .nil
 pre:=fun x=>okV x.1/\aS x.1=true/\cB x.1=x.2
 res:=fun x=>.tup (.cons (.str x.2) (.cons (.int .i64 0) .nil))
 inst:=fun s=>bif decide (kdD s=6) then some (nL,T6) else bif decide (kdD s=3) then some (Gn,T3) else bif decide (kdD s=13) then some (Jt,T13) else some (wH,T1)
theorem Mk:Qm.Ok Tryz.prog 12:=via Iu rfl fun x hx=>⟨x.1,hx.1,fun _ _ h=>h,fun E vs h=>by
 obtain ⟨_,h2,h3⟩:=hx
 have e:Is.res x.1=Qm.res x:=by
  show SV.tup (.cons (.str (cB x.1)) (.cons (.int .i64 (if aS x.1=true then 0 else 1)) .nil))=.tup (.cons (.str x.2) (.cons (.int .i64 0) .nil))
  rw [h3,if_pos h2]
 rw [<- e]
 exact h⟩
def Sb (X:Ev):Eng.Spec where
 X:=B×Ev×Int
 args:=fun x=>.cons (.str x.1) .nil
 pre:=fun x=>okT x.1/\fA x.1=x.2.1/\(if dN x.1=true then (0:Int) else 5)=x.2.2
 res:=fun x=>.tup (.cons (evE x.2.1) (.cons (.int .i64 x.2.2) .nil))
 inst:=fun s=>match s with
  | .cons (.str t) _=>match t with
   | b::_=>bif Nat.beq b.toNat 100 then some (T6,X,0) else bif Nat.beq t.length 11 then some (P1,ev00,5) else some (P2,ev00,5)
   | []=>none
  | _=>none
 fresh:=false
theorem N7 (X:Ev):(Sb X).Ok Tryz.prog 14:=via Iz rfl fun x hx=>⟨x.1,hx.1,fun _ _ h=>h,fun E vs h=>by
 obtain ⟨_,h2,h3⟩:=hx
 have e:Fv.res x.1=(Sb X).res x:=by
  show SV.tup (.cons (evE (fA x.1)) (.cons (.int .i64 (if dN x.1=true then 0 else 5)) .nil))=.tup (.cons (evE x.2.1) (.cons (.int .i64 x.2.2) .nil))
  rw [h3,h2]
 rw [<- e]
 exact h⟩
def p6:Pts:=⟨1,fun _=>(3,4)⟩
def p1:Pts:=⟨1,fun _=>(0,0)⟩
def Ve:Eng.Spec where
 X:=Ev×Pts
 args:=fun x=>.cons (evE x.1) .nil
 pre:=fun x=>okV x.1/\PtE (tS x.1) x.2
 res:=fun x=>rgE x.2
 inst:=fun s=>bif decide (kdD s=6) then some (nL,p6) else some (wH,p1)
 fresh:=false
theorem We {E:Env} {a b:Pts} (h:PtE a b) {vs:List Value} (hr:R E (rgE a) vs):R E (rgE b) vs:=by
 unfold rgE at hr ⊢
 simp only [R] at hr ⊢
 obtain ⟨ad,cap,h1,h2,h3⟩:=hr
 rw [<- h.n]
 exact ⟨ad,cap,h1,h2,fun i hi=>by rw [<- h.p i hi]; exact h3 i hi⟩
theorem N3:Ve.Ok Tryz.prog 19:=via De rfl fun x hx=>⟨x.1,hx.1,fun _ _ h=>h,fun _ _ h=>We hx.2 h⟩
theorem plc6:PtE (tS nL) p6:=by
 unfold tS
 rw [if_pos frm6,if_neg (by decide),if_pos (by decide)]
 exact ⟨rfl,fun _ _=>rfl⟩
theorem plc1:PtE (tS wH) p1:=by
 unfold tS
 rw [if_pos frm1,if_pos (by decide)]
 exact ⟨rfl,fun i hi=>by
  have:i < 1:=hi
  obtain rfl:i=0:=by omega
  rfl⟩
def Qz:Eng.Spec where
 X:=Ev×Bool
 args:=fun x=>.cons (evE x.1) .nil
 pre:=fun x=>okV x.1/\aS x.1=x.2
 res:=fun x=>.bool x.2
 inst:=fun s=>bif decide (kdD s=1) then some (wH,true) else some (P4,false)
theorem Mv:Qz.Ok Tryz.prog 16:=via wW rfl fun x hx=>⟨x.1,hx.1,fun _ _ h=>h,fun E vs h=>by
 have e:I7.res x.1=Qz.res x:=by show SV.bool (aS x.1)=.bool x.2; rw [hx.2]
 rw [<- e]
 exact h⟩
def g24:List Nat:=[0]
def c24:aD :=
 .seq (.region g24 [(zo 0 (.alloc 31 zEv))]) (.seq (.region g24 [(zo 1 (.build zHn [(0,1,.c (.int .i64 12)),(2,1,.c (.int .i64 1)),(3,1,.c (.int .i64 2))])),(zo 2 (.build zPt [(0,1,.c (.int .i64 3)),(1,1,.c (.int .i64 4))])),(zo 3 (.build zEv [(0,1,.c (.int .i64 6)),(1,1,.c (.int .i64 5)),(5,1,.c (.str [101,49])),(6,1,.c (.str [98,49])),(7,1,.c (.str [115,49])),(10,4,.s 1),(14,2,.s 2)])),⟨none,none,.store 18 (.s 0) (.s 3),[]⟩]) .ret)
def r24:List aR:=[.cell 0 18 true]
def k24:List (Nat×Nat×aD×Nat):=[]
theorem e24:aK Tryz.prog 24 g24 [] [] k24=some (c24,r24,4):=by kernel_rfl
theorem q24:aF Tryz.prog k24:=aF.nil
def Tv:Eng.Spec where
 X:=Unit
 args:=fun _=>.nil
 pre:=fun _=>True
 res:=fun _=>evE nL
 inst:=fun _=>some ()
theorem Qj:Tv.Ok Tryz.prog 24:=by
 refine Eng.Spec.okR e24 q24 (fun _=>[]) (fun _ _=>aA.nil) ?_
 rintro ⟨⟩ _
 refine ⟨trivial,?_⟩
 repeat' (first|apply And.intro|exact trivial|exact rfl)
def Sl (X:Ev):Eng.Spec where
 X:=Unit
 args:=fun _=>.cons (evE X) (.cons (evE nL) .nil)
 pre:=fun _=>okV X/\gS X nL=true
 res:=fun _=>.bool true
 inst:=fun _=>some ()
theorem Oc (X:Ev):(Sl X).Ok Tryz.prog 21:=via Kl rfl fun x hx=>⟨(X,nL),hx.1,fun _ _ h=>h,fun E vs h=>by
 have e:Sm.res (X,nL)=(Sl X).res x:=by show SV.bool (gS X nL)=.bool true; rw [hx.2]
 rw [<- e]
 exact h⟩
theorem ex6:∃ X,okV X/\fA T6=X/\(if dN T6=true then (0:Int) else 5)=0/\gS X nL=true:=by
 have h:=good6
 refine ⟨_,?_,rfl,by rw [h.1]; rfl,rQ.2 h.2⟩
 unfold fA
 rw [if_pos h.1]
 exact wV (bF (D1 (Nat.le_of_ble_eq_true rfl:okT T6))) _
theorem ex1:fA P1=ev00/\(if dN P1=true then (0:Int) else 5)=5:=by
 unfold fA
 rw [F25.bad1]
 exact ⟨rfl,rfl⟩
theorem ex2:fA P2=ev00/\(if dN P2=true then (0:Int) else 5)=5:=by
 unfold fA
 rw [F25.bad2]
 exact ⟨rfl,rfl⟩
theorem Wl:okT P1:=Nat.le_of_ble_eq_true rfl
theorem Wm:okT P2:=Nat.le_of_ble_eq_true rfl
theorem Wn:okT T6:=Nat.le_of_ble_eq_true rfl
theorem z00:(0:Int)<=0:=Int.le_refl 0
theorem z01:(0:Int) < ((1:Nat):Int):=by decide
attribute [local irreducible] aS cB fA dN tS gS okT
def g10:List Nat:=[2,1,4,3,6,5,9,8,11,13,15,14,17,18,16,19,7,0]
def c10:aD :=
 .seq (.region g10 [(zo 0 (.move (.c (.bool false))))]) (.seq (.region g10 [(zo 21 (.call (.c (.fn 24)) [])),(zo 22 (.call (.c (.fn 12)) [.s 21])),(zo 20 (.move (.s 22))),(zo 23 (.extract 0 (.s 20))),(zo 24 (.extract 1 (.s 20))),(zo 1 (.move (.s 23))),(zo 2 (.move (.s 24)))]) (.seq (.region g10 [(zo 26 (.build (.cons (.str []) (.cons (.int .i64 0) (.cons (.str []) .nil))) [(0,1,.c (.str [101,110])),(2,1,.c (.str [65,109,32,82,105,110,103]))])),(zo 27 (.buildSl 45 3 1 (.cons (.str []) (.cons (.int .i64 0) (.cons (.str []) .nil))) [(0,3,.s 26)])),(zo 28 (.build zEv [(0,1,.c (.int .i64 3)),(5,1,.c (.str [115,49])),(9,1,.s 27)])),(zo 29 (.call (.c (.fn 12)) [.s 28])),(zo 25 (.move (.s 29))),(zo 30 (.extract 0 (.s 25))),(zo 31 (.extract 1 (.s 25))),(zo 3 (.move (.s 30))),(zo 4 (.move (.s 31)))]) (.seq (.region g10 [(zo 33 (.build zEv [(0,1,.c (.int .i64 13)),(1,1,.c (.int .i64 9)),(2,1,.c (.int .i64 1)),(3,1,.c (.int .i64 2))])),(zo 34 (.call (.c (.fn 12)) [.s 33])),(zo 32 (.move (.s 34))),(zo 35 (.extract 0 (.s 32))),(zo 36 (.extract 1 (.s 32))),(zo 5 (.move (.s 35))),(zo 6 (.move (.s 36)))]) (.seq (.region g10 [(zo 37 (.build zPt [])),(zo 38 (.build zPt [(0,1,.c (.int .i64 4))])),(zo 39 (.build zPt [(1,1,.c (.int .i64 4))])),(zo 40 (.buildSl 27 2 3 zPt [(0,2,.s 37),(2,2,.s 38),(4,2,.s 39)])),(zo 41 (.build zEv [(0,1,.c (.int .i64 1)),(5,1,.c (.str [99,49])),(2,1,.c (.int .i64 3)),(16,1,.s 40)])),(zo 7 (.alloc 31 zEv)),⟨none,none,.store 18 (.s 7) (.s 41),[]⟩]) (.seq (.region g10 [(zo 43 (.load 18 true (.s 7))),(zo 44 (.call (.c (.fn 12)) [.s 43])),(zo 42 (.move (.s 44))),(zo 45 (.extract 0 (.s 42))),(zo 46 (.extract 1 (.s 42))),(zo 8 (.move (.s 45))),(zo 9 (.move (.s 46)))]) (.seq (.region g10 [(zo 48 (.call (.c (.fn 14)) [.c (.str [109,101,114,103,101,32,57,32,49,32,49])])),(zo 47 (.move (.s 48))),(zo 49 (.extract 0 (.s 47))),(zo 50 (.extract 1 (.s 47))),(zo 10 (.alloc 31 zEv)),⟨none,none,.store 18 (.s 10) (.s 49),[]⟩,(zo 11 (.move (.s 50)))]) (.seq (.region g10 [(zo 52 (.call (.c (.fn 14)) [.c (.str [109,101,114,103,101,32,57,32,49,32,50,32])])),(zo 51 (.move (.s 52))),(zo 53 (.extract 0 (.s 51))),(zo 54 (.extract 1 (.s 51))),(zo 12 (.alloc 31 zEv)),⟨none,none,.store 18 (.s 12) (.s 53),[]⟩,(zo 13 (.move (.s 54)))]) (.seq (.region g10 [(zo 56 (.move (.s 1))),(zo 57 (.call (.c (.fn 14)) [.s 56])),(zo 55 (.move (.s 57))),(zo 58 (.extract 0 (.s 55))),(zo 59 (.extract 1 (.s 55))),(zo 14 (.alloc 31 zEv)),⟨none,none,.store 18 (.s 14) (.s 58),[]⟩,(zo 15 (.move (.s 59)))]) (.seq (.region g10 [(zo 60 (.move (.s 2))),(zo 61 (.bin (.eql) (.s 60) (.c (.int .i64 0)))),(zo 62 (.move (.s 61))),(zg 63 62 true (.move (.s 1))),(zg 64 62 true (.bin (.eql) (.s 63) (.c (.str [100,111,111,114,32,53,32,101,49,32,98,49,32,115,49,32,34,49,50,32,49,47,50,34,32,51,44,52])))),(zo 65 (.pick (.s 62) (.s 64) (.c (.bool false)))),(zo 66 (.move (.s 65))),(zg 67 66 true (.move (.s 4))),(zg 68 66 true (.bin (.eql) (.s 67) (.c (.int .i64 0)))),(zo 69 (.pick (.s 66) (.s 68) (.c (.bool false)))),(zo 70 (.move (.s 69))),(zg 71 70 true (.move (.s 3))),(zg 72 70 true (.bin (.eql) (.s 71) (.c (.str [110,97,109,101,32,48,32,115,49,32,101,110,32,48,32,34,65,109,32,82,105,110,103,34])))),(zo 73 (.pick (.s 70) (.s 72) (.c (.bool false)))),(zo 74 (.move (.s 73))),(zg 75 74 true (.move (.s 6))),(zg 76 74 true (.bin (.eql) (.s 75) (.c (.int .i64 0)))),(zo 77 (.pick (.s 74) (.s 76) (.c (.bool false)))),(zo 78 (.move (.s 77))),(zg 79 78 true (.move (.s 5))),(zg 80 78 true (.bin (.eql) (.s 79) (.c (.str [109,101,114,103,101,32,57,32,49,32,50])))),(zo 81 (.pick (.s 78) (.s 80) (.c (.bool false)))),(zo 82 (.move (.s 81))),(zg 83 82 true (.move (.s 9))),(zg 84 82 true (.bin (.eql) (.s 83) (.c (.int .i64 0)))),(zo 85 (.pick (.s 82) (.s 84) (.c (.bool false)))),(zo 86 (.move (.s 85))),(zg 87 86 true (.move (.s 8))),(zg 88 86 true (.bin (.eql) (.s 87) (.c (.str [97,114,101,97,32,48,32,99,49,32,51,32,48,44,48,32,52,44,48,32,48,44,52])))),(zo 89 (.pick (.s 86) (.s 88) (.c (.bool false)))),(zo 16 (.move (.s 89)))]) (.seq (.drawn g10 (.pure 0 (zo 90 (.call (.c (.fn 24)) [])) (.pure 1 (zo 91 (.call (.c (.fn 19)) [.s 90])) (.pure 2 (zo 92 (.load 18 true (.s 7))) (.pure 3 (zo 93 (.call (.c (.fn 19)) [.s 92])) (.pure 4 (zo 17 (.move (.s 91))) (.pure 5 (zo 18 (.move (.s 93))) .done))))))) (.seq (.drawn g10 (.pure 0 (zo 94 (.move (.s 11))) (.pure 1 (zo 95 (.bin (.eql) (.s 94) (.c (.int .i64 5)))) (.pure 2 (zo 96 (.move (.s 95))) (.pure 3 (zg 97 96 true (.move (.s 13))) (.pure 4 (zg 98 96 true (.bin (.eql) (.s 97) (.c (.int .i64 5)))) (.pure 5 (zo 99 (.pick (.s 96) (.s 98) (.c (.bool false)))) (.pure 6 (zo 100 (.move (.s 99))) (.pure 7 (zg 101 100 true (.move (.s 15))) (.pure 8 (zg 102 100 true (.bin (.eql) (.s 101) (.c (.int .i64 0)))) (.pure 9 (zo 103 (.pick (.s 100) (.s 102) (.c (.bool false)))) (.pure 10 (zo 104 (.move (.s 103))) (.pure 11 (zg 105 104 true (.load 18 true (.s 14))) (.pure 12 (zg 106 104 true (.call (.c (.fn 24)) [])) (.pure 13 (zg 107 104 true (.call (.c (.fn 21)) [.s 105,.s 106])) (.pure 14 (zo 108 (.pick (.s 104) (.s 107) (.c (.bool false)))) (.pure 15 (zo 109 (.move (.s 108))) (.pure 16 (zg 110 109 true (.move (.s 17))) (.pure 17 (zg 111 109 true (.lenSl (.s 110))) (.pure 18 (zg 112 109 true (.bin (.eql) (.s 111) (.c (.int .i64 1)))) (.pure 19 (zo 113 (.pick (.s 109) (.s 112) (.c (.bool false)))) (.pure 20 (zo 114 (.move (.s 113))) (.pure 21 (zg 115 114 true (.move (.s 17))) (.pure 22 (zg 116 114 true (.idxSl 2 (.s 115) (.c (.int .i64 0)))) (.pure 23 (zg 117 114 true (.load 2 true (.s 116))) (.pure 24 (zg 118 114 true (.build zPt [(0,1,.c (.int .i64 3)),(1,1,.c (.int .i64 4))])) (.pure 25 (zg 119 114 true (.eqS false [(0,1),(1,1)] (.s 117) (.s 118))) (.pure 26 (zo 120 (.pick (.s 114) (.s 119) (.c (.bool false)))) (.pure 27 (zo 121 (.move (.s 120))) (.pure 28 (zg 122 121 true (.move (.s 18))) (.pure 29 (zg 123 121 true (.lenSl (.s 122))) (.pure 30 (zg 124 121 true (.bin (.eql) (.s 123) (.c (.int .i64 1)))) (.pure 31 (zo 125 (.pick (.s 121) (.s 124) (.c (.bool false)))) (.pure 32 (zo 126 (.move (.s 125))) (.pure 33 (zg 127 126 true (.move (.s 18))) (.pure 34 (zg 128 126 true (.idxSl 2 (.s 127) (.c (.int .i64 0)))) (.pure 35 (zg 129 126 true (.load 2 true (.s 128))) (.pure 36 (zg 130 126 true (.build zPt [])) (.pure 37 (zg 131 126 true (.eqS false [(0,1),(1,1)] (.s 129) (.s 130))) (.pure 38 (zo 132 (.pick (.s 126) (.s 131) (.c (.bool false)))) (.pure 39 (zo 19 (.move (.s 132))) .done))))))))))))))))))))))))))))))))))))))))) (.seq (.region g10 [(zo 133 (.move (.s 16))),(zo 134 (.move (.s 133))),(zg 135 134 true (.move (.s 19))),(zo 136 (.pick (.s 134) (.s 135) (.c (.bool false)))),(zo 137 (.move (.s 136))),(zg 138 137 true (.load 18 true (.s 7))),(zg 139 137 true (.call (.c (.fn 16)) [.s 138])),(zo 140 (.pick (.s 137) (.s 139) (.c (.bool false)))),(zo 141 (.move (.s 140))),(zg 142 141 true (.build zEv [(0,1,.c (.int .i64 13))])),(zg 143 141 true (.call (.c (.fn 16)) [.s 142])),(zg 144 141 true (.not (.s 143))),(zo 145 (.pick (.s 141) (.s 144) (.c (.bool false)))),(zo 0 (.move (.s 145)))]) .ret))))))))))))
def r10:List aR:=[.slot 0]
def k10:List (Nat×Nat×aD×Nat):=[]
theorem e10:aK Tryz.prog 10 g10 [] [] k10=some (c10,r10,146):=by kernel_rfl
theorem q10:aF Tryz.prog k10:=aF.nil
def O6:Eng.Spec where
 X:=Unit
 args:=fun _=>.nil
 pre:=fun _=>True
 res:=fun _=>.bool true
 inst:=fun _=>some ()
set_option maxHeartbeats 80000000 in
theorem M0:O6.Ok Tryz.prog 10:=by
 obtain ⟨X,x1,x2,x3,x4⟩:=ex6
 refine Eng.Spec.okR e10 q10 (fun _=>[(24,.p Tv),(12,.p Qm),(14,.p (Sb X)),(19,.p Ve),(16,.p Qz),(21,.p (Sl X))])
  (fun _ _=>aA.p Qj (aA.p Mk (aA.p (N7 X) (aA.p N3 (aA.p Mv (aA.p (Oc X) aA.nil)))))) ?_
 rintro ⟨⟩ _
 refine ⟨trivial,?_⟩
 repeat' (first|with_reducible exact ok6|with_reducible exact ok3|with_reducible exact ok13|with_reducible exact ok1|with_reducible exact ok0|with_reducible exact frm6|with_reducible exact frm3|with_reducible exact frm13|with_reducible exact frm1|with_reducible exact frm0|with_reducible exact etx6|with_reducible exact etx3|with_reducible exact etx13|with_reducible exact etx1|with_reducible exact x1|with_reducible exact x2|with_reducible exact x3|with_reducible exact x4|with_reducible exact ex1.1|with_reducible exact ex1.2|with_reducible exact ex2.1|with_reducible exact ex2.2|with_reducible exact plc6|with_reducible exact plc1|with_reducible exact Wl|with_reducible exact Wm|with_reducible exact Wn|exact z00|exact z01|apply And.intro|exact trivial|exact rfl|exact lz fun _=>rfl|(refine fun (_:aH _ _ _ _)=>?_))
end F26
