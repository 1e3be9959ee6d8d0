/- A part of the proof. -/
import Derived.Test.YtlfdokecdilkcaaGreatDoorF26
import Derived.Test.YtlfdokecdilkcaaGreatDoorRT11
import Derived.Test.YtlfdokecdilkcaaGreatDoorF25
open Go Go.Eng Go.Proofs G1 G2 G3 G4 G6 G7 EV0 N1 N2 F1 F7 F9 F10 F12 F13 F20 F21 F22 F23 F26 RT6 RT11
set_option maxRecDepth 100000
namespace F32
attribute [local irreducible] aS gY cB fA dN gS
def g4:List Nat:=[0,1,27,55,9,57,13,12,11,8,10,3,4,83,90,15,7,14,17,16,2,6]
def c4:aD :=
 .seq (.region g4 [(zo 3 (.box 31 (.s 0))),(zo 4 (.box 31 (.s 1))),(zo 6 (.move (.c (.bool false))))]) (.seq (.region g4 [(zo 18 (.call (.c (.fn 10)) [])),(zo 7 (.move (.s 18)))]) (.seq (.seq (.region g4 [(zo 19 (.load 18 true (.s 3))),(zo 20 (.load 18 true (.s 4))),(zo 21 (.call (.c (.fn 11)) [.s 19,.s 20])),(zo 22 (.not (.s 21))),(zo 23 (.move (.s 22))),(zg 24 23 false (.move (.s 2))),(zg 25 23 false (.lenStr (.s 24))),(zg 26 23 false (.bin (.gtr) (.s 25) (.c (.int .i64 3000)))),(zo 27 (.pick (.s 23) (.c (.bool true)) (.s 26)))]) (.cond (.s 27) (.seq (.region g4 [(zo 28 (.move (.s 7))),(zo 6 (.move (.s 28)))]) .ret) .skip)) (.seq (.region g4 [(zo 30 (.load 18 true (.s 3))),(zo 31 (.call (.c (.fn 12)) [.s 30])),(zo 29 (.move (.s 31))),(zo 32 (.extract 0 (.s 29))),(zo 33 (.extract 1 (.s 29))),(zo 8 (.move (.s 32))),(zo 9 (.move (.s 33)))]) (.seq (.region g4 [(zo 35 (.load 18 true (.s 4))),(zo 36 (.call (.c (.fn 12)) [.s 35])),(zo 34 (.move (.s 36))),(zo 37 (.extract 0 (.s 34))),(zo 38 (.extract 1 (.s 34))),(zo 10 (.move (.s 37))),(zo 11 (.move (.s 38)))]) (.seq (.seq (.region g4 [(zo 39 (.move (.s 9))),(zo 40 (.bin (.eql) (.s 39) (.c (.int .i64 0)))),(zo 41 (.load 18 true (.s 3))),(zo 42 (.call (.c (.fn 16)) [.s 41])),(zo 43 (.eqB true (.s 40) (.s 42))),(zo 44 (.move (.s 43))),(zg 45 44 false (.move (.s 9))),(zg 46 44 false (.bin (.neq) (.s 45) (.c (.int .i64 0)))),(zg 47 44 false (.move (.s 46))),(zg 48 47 true (.move (.s 9))),(zg 49 47 true (.bin (.neq) (.s 48) (.c (.int .i64 1)))),(zg 50 47 true (.move (.s 49))),(zg 51 50 false (.move (.s 8))),(zg 52 50 false (.bin (.neq) (.s 51) (.c (.str [])))),(zg 53 47 true (.pick (.s 50) (.c (.bool true)) (.s 52))),(zg 54 44 false (.pick (.s 47) (.s 53) (.c (.bool false)))),(zo 55 (.pick (.s 44) (.c (.bool true)) (.s 54)))]) (.cond (.s 55) (.seq (.region g4 [(zo 6 (.move (.c (.bool false))))]) .ret) .skip)) (.seq (.seq (.region g4 [(zo 56 (.move (.s 9))),(zo 57 (.bin (.eql) (.s 56) (.c (.int .i64 0))))]) (.join 0 [59,60,58,61,62,12,13,63,64,65,66,67,68,69,70,71,72,73,74,75,76,77,78,79,80,81,82,83,6] (.cond (.s 57) (.seq (.region g4 [(zo 59 (.move (.s 8))),(zo 60 (.call (.c (.fn 14)) [.s 59])),(zo 58 (.move (.s 60))),(zo 61 (.extract 0 (.s 58))),(zo 62 (.extract 1 (.s 58))),(zo 12 (.alloc 31 zEv)),⟨none,none,.store 18 (.s 12) (.s 61),[]⟩,(zo 13 (.move (.s 62)))]) (.seq (.region g4 [(zo 63 (.move (.s 13))),(zo 64 (.bin (.neq) (.s 63) (.c (.int .i64 0)))),(zo 65 (.move (.s 64))),(zg 66 65 false (.load 18 true (.s 12))),(zg 67 65 false (.load 18 true (.s 3))),(zg 68 65 false (.call (.c (.fn 21)) [.s 66,.s 67])),(zg 69 65 false (.not (.s 68))),(zo 70 (.pick (.s 65) (.c (.bool true)) (.s 69))),(zo 71 (.move (.s 70))),(zg 72 71 false (.move (.s 11))),(zg 73 71 false (.bin (.eql) (.s 72) (.c (.int .i64 0)))),(zg 74 71 false (.move (.s 73))),(zg 75 74 true (.move (.s 8))),(zg 76 74 true (.move (.s 10))),(zg 77 74 true (.bin (.eql) (.s 75) (.s 76))),(zg 78 74 true (.load 18 true (.s 3))),(zg 79 74 true (.load 18 true (.s 4))),(zg 80 74 true (.call (.c (.fn 21)) [.s 78,.s 79])),(zg 81 74 true (.eqB true (.s 77) (.s 80))),(zg 82 71 false (.pick (.s 74) (.s 81) (.c (.bool false)))),(zo 83 (.pick (.s 71) (.c (.bool true)) (.s 82)))]) (.cond (.s 83) (.seq (.region g4 [(zo 6 (.move (.c (.bool false))))]) .ret) .skip))) .skip))) (.seq (.region g4 [(zo 85 (.move (.s 2))),(zo 86 (.call (.c (.fn 14)) [.s 85])),(zo 84 (.move (.s 86))),(zo 87 (.extract 0 (.s 84))),(zo 88 (.extract 1 (.s 84))),(zo 14 (.alloc 31 zEv)),⟨none,none,.store 18 (.s 14) (.s 87),[]⟩,(zo 15 (.move (.s 88)))]) (.seq (.seq (.region g4 [(zo 89 (.move (.s 15))),(zo 90 (.bin (.neq) (.s 89) (.c (.int .i64 0))))]) (.cond (.s 90) (.seq (.region g4 [(zo 91 (.move (.s 7))),(zo 92 (.move (.s 91))),(zg 93 92 true (.move (.s 15))),(zg 94 92 true (.bin (.eql) (.s 93) (.c (.int .i64 5)))),(zo 95 (.pick (.s 92) (.s 94) (.c (.bool false)))),(zo 96 (.move (.s 95))),(zg 97 96 true (.load 18 true (.s 14))),(zg 98 96 true (.build zEv [])),(zg 99 96 true (.call (.c (.fn 21)) [.s 97,.s 98])),(zo 100 (.pick (.s 96) (.s 99) (.c (.bool false)))),(zo 6 (.move (.s 100)))]) .ret) .skip)) (.seq (.region g4 [(zo 102 (.load 18 true (.s 14))),(zo 103 (.call (.c (.fn 12)) [.s 102])),(zo 101 (.move (.s 103))),(zo 104 (.extract 0 (.s 101))),(zo 105 (.extract 1 (.s 101))),(zo 16 (.move (.s 104))),(zo 17 (.move (.s 105)))]) (.seq (.region g4 [(zo 106 (.move (.s 7))),(zo 107 (.move (.s 106))),(zg 108 107 true (.load 18 true (.s 14))),(zg 109 107 true (.call (.c (.fn 16)) [.s 108])),(zo 110 (.pick (.s 107) (.s 109) (.c (.bool false)))),(zo 111 (.move (.s 110))),(zg 112 111 true (.move (.s 17))),(zg 113 111 true (.bin (.eql) (.s 112) (.c (.int .i64 0)))),(zo 114 (.pick (.s 111) (.s 113) (.c (.bool false)))),(zo 115 (.move (.s 114))),(zg 116 115 true (.move (.s 16))),(zg 117 115 true (.move (.s 2))),(zg 118 115 true (.bin (.eql) (.s 116) (.s 117))),(zo 119 (.pick (.s 115) (.s 118) (.c (.bool false)))),(zo 6 (.move (.s 119)))]) .ret))))))))))
def r4:List aR:=[.slot 6]
def k4:List (Nat×Nat×aD×Nat):=[]
theorem e4:aK Tryz.prog 4 g4 [2] [31,36,42,60,68,80,86,99,103,109] k4=some (c4,r4,120):=by kernel_rfl
theorem q4:aF Tryz.prog k4:=aF.nil
def T7:Eng.bJ:=I7.mof Bool (fun e y=>y=aS e) (fun _ y=>.bool y)
theorem Mu:T7.Ok Tryz.prog 16:=Eng.Spec.tJ wW fun e _=>⟨aS e,rfl,rfl⟩
def Vo:Eng.bJ:=Sm.mof Bool (fun x y=>y=gS x.1 x.2) (fun _ y=>.bool y)
theorem Od:Vo.Ok Tryz.prog 21:=Eng.Spec.tJ Kl fun x _=>⟨gS x.1 x.2,rfl,rfl⟩
def T2:Eng.bJ:=Fv.mof (Ev×Int) (fun t y=>y=(fA t,if dN t=true then 0 else 5)) (fun _ y=>.tup (.cons (evE y.1) (.cons (.int .i64 y.2) .nil)))
theorem Mq:T2.Ok Tryz.prog 14:=Eng.Spec.tJ Iz fun t _=>⟨(fA t,if dN t=true then 0 else 5),rfl,rfl⟩
def law4:Eng.Spec where
 X:=Ev×Ev×B
 args:=fun x=>.cons (evE x.1) (.cons (evE x.2.1) (.cons (.str x.2.2) .nil))
 pre:=fun x=>sC x.1/\sC x.2.1/\x.2.2.length<=9223372036854775807
 res:=fun _=>.bool true
 inst:=fun _=>none
theorem It {a:Ev} (h:aS a=false):cB a=[]:=by
 rw [show cB a=(if aS a=true then Lib.join (wl a) [32] else []) from (by unfold cB; rfl),if_neg (by rw [h]; decide)]
theorem cond1 {a:Ev} {z:B×Int} {y:Bool} (hz:z=(cB a,if aS a=true then 0 else 1)) (hy:y=aS a) {i j k:Nat}:aG (!decide (decide (z.2=0)=y)) (.c (.bool true)) (.s i) true (aG (!decide (z.2=0)) (.s j) (.c (.bool false)) (aG (!decide (z.2=1)) (.c (.bool true)) (.s k) true (!decide (z.1=[]))) false)=false:=by
 rw [aI,aJ,aI]
 subst hz hy
 cases h:aS a with
 | true=>simp
 | false=>simp [It h]
theorem cond2 {g:Int} {y2 p:Bool} (hg:g=0) (h2:y2=true) {i j k:Nat} (hp:p=false) {q:Bool}:aG (aG (!decide (g=0)) (.c (.bool true)) (.s i) true (!y2)) (.c (.bool true)) (.s j) true (aG q (.s k) (.c (.bool false)) p false)=false:=by
 rw [aI,aI,aJ]
 subst hg h2 hp
 simp
theorem cond3 {g:Int} {y2:Bool} (hg:g=0) (h2:y2=true) {i j:Nat}:aG (aG (!decide (g=0)) (.c (.bool true)) (.s i) true (!y2)) (.c (.bool true)) (.s j) true false=false:=by
 rw [aI,aI]
 subst hg h2
 simp
set_option maxHeartbeats 8000000 in
theorem Nc:law4.Ok Tryz.prog 4:=by
 refine Eng.Spec.okR e4 q4 (fun _=>[(10,.p O6),(11,.p T8),(12,.m Qn),(16,.m T7),(14,.m T2),(21,.m Vo)])
  (fun _ _=>aA.p M0 (aA.p Q2 (aA.m Ec (aA.m Mu (aA.m Mq (aA.m Od aA.nil)))))) ?_
 rintro ⟨a,b,t⟩ ⟨(ha:sC a),(hb:sC b),(ht:t.length<=9223372036854775807)⟩
 refine ⟨trivial,?_⟩
 repeat' (first|exact ha|exact hb|exact ht|apply And.intro|exact trivial|exact rfl|exact lz fun _=>rfl|(refine fun (_:aH _ _ _ _)=>?_))
 ·refine fun _=>?_
  repeat' (first|apply And.intro|exact trivial|exact rfl)
 ·refine fun (hc:aG (!(gY a && gY b)) (.c (.bool true)) (.s 26) true (decide ((3000:Int) < (t.length:Int)))=false)=>?_
  rw [aI,Bool.or_eq_false_iff] at hc
  obtain ⟨hc1,hc2⟩:=hc
  have hfw:=Ia hc1
  rw [Bool.and_eq_true] at hfw
  have hl:t.length<=3000:=by have:=of_decide_eq_false hc2; omega
  have ota:okT t:=by show t.length<=1000000; omega
  have oa:=Ej hfw.1
  have ob:=Ej hfw.2
  repeat' (first|apply And.intro|exact trivial|exact rfl|exact lz fun _=>rfl|(refine fun (_:aH _ _ _ _)=>?_))
  refine Exists.intro a (Exists.intro [] ?_)
  repeat' (first|exact oa|apply And.intro|exact trivial|exact rfl|exact lz fun _=>rfl|(refine fun (_:aH _ _ _ _)=>?_))
  refine fun (z1:B×Int) (h1:z1=(cB a,if aS a=true then 0 else 1))=>?_
  repeat' (first|apply And.intro|exact trivial|exact rfl|exact lz fun _=>rfl|(refine fun (_:aH _ _ _ _)=>?_))
  refine Exists.intro b (Exists.intro [] ?_)
  repeat' (first|exact ob|apply And.intro|exact trivial|exact rfl|exact lz fun _=>rfl|(refine fun (_:aH _ _ _ _)=>?_))
  refine fun (z2:B×Int) (h2:z2=(cB b,if aS b=true then 0 else 1))=>?_
  repeat' (first|apply And.intro|exact trivial|exact rfl|exact lz fun _=>rfl|(refine fun (_:aH _ _ _ _)=>?_))
  refine Exists.intro a (Exists.intro [] ?_)
  repeat' (first|exact oa|apply And.intro|exact trivial|exact rfl|exact lz fun _=>rfl|(refine fun (_:aH _ _ _ _)=>?_))
  refine fun (y1:Bool) (hy1:y1=aS a)=>?_
  repeat' (first|apply And.intro|exact trivial|exact rfl|exact lz fun _=>rfl|(refine fun (_:aH _ _ _ _)=>?_))
  ·refine fun (h:aG (!decide (decide (z1.2=0)=y1)) (.c (.bool true)) (.s 54) true (aG (!decide (z1.2=0)) (.s 53) (.c (.bool false)) (aG (!decide (z1.2=1)) (.c (.bool true)) (.s 52) true (!decide (z1.1=[]))) false)=true)=>?_
   exact absurd h (by rw [cond1 h1 hy1]; decide)
  refine fun _=>?_
  repeat' (first|apply And.intro|exact trivial|exact rfl|exact lz fun _=>rfl|(refine fun (_:aH _ _ _ _)=>?_))
  refine Exists.intro ⟨Unit,fun _=>True,fun _=>[],fun _=>[],fun _=>0⟩ ?_
  refine And.intro ?_ ?_
  ·repeat' (first|apply And.intro|exact trivial|exact rfl|exact lz fun _=>rfl|(refine fun (_:aH _ _ _ _)=>?_))
   ·refine fun (hz:decide (z1.2=0)=true)=>?_
    have hz:z1.2=0:=of_decide_eq_true hz
    have hf:aS a=true:=by
     cases h:aS a with
     | true=>rfl
     | false=>rw [h1,h] at hz; cases hz
    have ot:okT z1.1:=by rw [h1]; exact Qp hfw.1
    repeat' (first|apply And.intro|exact trivial|exact rfl|exact lz fun _=>rfl|(refine fun (_:aH _ _ _ _)=>?_))
    refine Exists.intro z1.1 (Exists.intro [] ?_)
    repeat' (first|exact ot|apply And.intro|exact trivial|exact rfl|exact lz fun _=>rfl|(refine fun (_:aH _ _ _ _)=>?_))
    refine fun (z3:Ev×Int) (h3:z3=(fA z1.1,if dN z1.1=true then 0 else 5))=>?_
    have h30:z3.2=0:=by rw [h3,show z1.1=cB a by rw [h1],show (if dN (cB a)=true then (0:Int) else 5)=0 from if_pos (I0 hf).1]
    have o3:okV z3.1:=by rw [h3]; exact Eh ot
    repeat' (first|apply And.intro|exact trivial|exact rfl|exact lz fun _=>rfl|(refine fun (_:aH _ _ _ _)=>?_))
    ·refine fun _=>?_
     refine Exists.intro (z3.1,a) (Exists.intro [] ?_)
     repeat' (first|exact o3|apply And.intro|exact trivial|exact rfl|exact lz fun _=>rfl|(refine fun (_:aH _ _ _ _)=>?_))
     refine fun (y2:Bool) (hy2:y2=gS z3.1 a)=>?_
     have e2:y2=true:=by rw [hy2,h3,h1]; exact Sn hf
     repeat' (first|apply And.intro|exact trivial|exact rfl|exact lz fun _=>rfl|(refine fun (_:aH _ _ _ _)=>?_))
     ·refine fun _=>?_
      refine And.intro ?_ ?_
      ·refine fun (hg:decide (z2.2=0)=true)=>?_
       have hfb:aS b=true:=by
        have hg:=of_decide_eq_true hg
        cases h:aS b with
        | true=>rfl
        | false=>rw [h2,h] at hg; cases hg
       refine Exists.intro (a,b) (Exists.intro [] ?_)
       repeat' (first|exact oa|exact ob|apply And.intro|exact trivial|exact rfl|exact lz fun _=>rfl|(refine fun (_:aH _ _ _ _)=>?_))
       refine fun (y3:Bool) (hy3:y3=gS a b)=>?_
       have e3:(!(decide (z1.1=z2.1) == y3))=false:=by rw [hy3,h1,h2]; rw [Sr hf hfb]; simp
       repeat' (first|apply And.intro|exact trivial|exact rfl|exact lz fun _=>rfl|(refine fun (_:aH _ _ _ _)=>?_))
       ·exact fun h=>absurd h (by rw [cond2 h30 e2 e3]; decide)
       ·refine fun _=>?_
        repeat' (first|apply And.intro|exact trivial|exact rfl|exact lz fun _=>rfl|(refine fun (_:aH _ _ _ _)=>?_))
        refine Exists.intro () (And.intro trivial ?_)
        repeat' (first|apply And.intro|exact trivial|exact rfl|exact lz fun _=>rfl|(refine fun (_:aH _ _ _ _)=>?_))
      ·refine fun (hg:decide (z2.2=0)=!true)=>?_
       have no:decide (z2.2=0)=true->False:=fun h=>absurd h (by rw [hg]; decide)
       repeat' (first|exact hg|exact fun (hp:aH _ 10 74 true)=>no hp.1|apply And.intro|exact trivial|exact rfl|exact lz fun _=>rfl|(refine fun (_:aH _ _ _ _)=>?_))
       ·exact fun h=>absurd h (by rw [cond3 h30 e2]; decide)
       ·refine fun _=>?_
        repeat' (first|apply And.intro|exact trivial|exact rfl|exact lz fun _=>rfl|(refine fun (_:aH _ _ _ _)=>?_))
        refine Exists.intro () (And.intro trivial ?_)
        repeat' (first|apply And.intro|exact trivial|exact rfl|exact lz fun _=>rfl|(refine fun (_:aH _ _ _ _)=>?_))
     ·exact fun h=>absurd h (by rw [aI,h30,e2]; decide)
    ·exact fun h=>absurd h (by rw [h30]; decide)
   ·refine fun _=>?_
    repeat' (first|apply And.intro|exact trivial|exact rfl|exact lz fun _=>rfl|(refine fun (_:aH _ _ _ _)=>?_))
    refine Exists.intro () (And.intro trivial ?_)
    repeat' (first|apply And.intro|exact trivial|exact rfl|exact lz fun _=>rfl|(refine fun (_:aH _ _ _ _)=>?_))
  ·refine fun (_:Unit) (_:True)=>?_
   repeat' (first|apply And.intro|exact trivial|exact rfl|exact lz fun _=>rfl|(refine fun (_:aH _ _ _ _)=>?_))
   refine Exists.intro t (Exists.intro [] ?_)
   repeat' (first|exact ota|apply And.intro|exact trivial|exact rfl|exact lz fun _=>rfl|(refine fun (_:aH _ _ _ _)=>?_))
   refine fun (z4:Ev×Int) (h4:z4=(fA t,if dN t=true then 0 else 5))=>?_
   have o4:okV z4.1:=by rw [h4]; exact Eh ota
   repeat' (first|apply And.intro|exact trivial|exact rfl|exact lz fun _=>rfl|(refine fun (_:aH _ _ _ _)=>?_))
   ·refine fun (hz:(!decide (z4.2=0))=true)=>?_
    have hn:dN t=false:=by
     cases h:dN t with
     | false=>rfl
     | true=>rw [h4,h] at hz; cases hz
    have z42:z4.2=5:=by rw [h4,hn]; rfl
    have z41:z4.1=ev00:=by rw [h4]; exact Qs hn
    repeat' (first|apply And.intro|exact trivial|exact rfl|exact lz fun _=>rfl|(refine fun (_:aH _ _ _ _)=>?_))
    ·refine fun _=>?_
     refine Exists.intro (z4.1,ev00) (Exists.intro [] ?_)
     repeat' (first|exact o4|exact Ed|apply And.intro|exact trivial|exact rfl|exact lz fun _=>rfl|(refine fun (_:aH _ _ _ _)=>?_))
     refine fun (y6:Bool) (hy6:y6=gS z4.1 ev00)=>?_
     have e6:y6=true:=by rw [hy6,z41]; exact Km
     have e7:aG (aG true (.s 94) (.c (.bool false)) (decide (z4.2=5)) false) (.s 99) (.c (.bool false)) y6 false=true:=by rw [aJ,aJ,z42,e6]; decide
     repeat' (first|exact e7|apply And.intro|exact trivial|exact rfl|exact lz fun _=>rfl|(refine fun (_:aH _ _ _ _)=>?_))
    ·exact fun h=>absurd h (by rw [aJ,z42]; decide)
   ·refine fun (hz:(!decide (z4.2=0))=false)=>?_
    have hn:dN t=true:=by
     cases h:dN t with
     | true=>rfl
     | false=>rw [h4,h] at hz; cases hz
    have z41:z4.1=fA t:=by rw [h4]
    have hf4:aS z4.1=true:=by rw [z41]; exact (Ei hn).1
    have ht4:cB z4.1=t:=by rw [z41]; exact (Ei hn).2
    repeat' (first|apply And.intro|exact trivial|exact rfl|exact lz fun _=>rfl|(refine fun (_:aH _ _ _ _)=>?_))
    refine Exists.intro z4.1 (Exists.intro [] ?_)
    repeat' (first|exact o4|apply And.intro|exact trivial|exact rfl|exact lz fun _=>rfl|(refine fun (_:aH _ _ _ _)=>?_))
    refine fun (z5:B×Int) (h5:z5=(cB z4.1,if aS z4.1=true then 0 else 1))=>?_
    repeat' (first|apply And.intro|exact trivial|exact rfl|exact lz fun _=>rfl|(refine fun (_:aH _ _ _ _)=>?_))
    ·refine fun _=>?_
     refine Exists.intro z4.1 (Exists.intro [] ?_)
     repeat' (first|exact o4|apply And.intro|exact trivial|exact rfl|exact lz fun _=>rfl|(refine fun (_:aH _ _ _ _)=>?_))
     refine fun (y7:Bool) (hy7:y7=aS z4.1)=>?_
     have e5:z5=(t,0):=by rw [h5,hf4,ht4]; rfl
     have e7:aG (aG (aG true (.s 109) (.c (.bool false)) y7 false) (.s 113) (.c (.bool false)) (decide (z5.2=0)) false) (.s 118) (.c (.bool false)) (decide (z5.1=t)) false=true:=by rw [aJ,aJ,aJ,hy7,hf4,e5]; simp
     repeat' (first|exact e7|apply And.intro|exact trivial|exact rfl|exact lz fun _=>rfl|(refine fun (_:aH _ _ _ _)=>?_))
    ·exact fun h=>by cases h
end F32
