/- A part of the proof. -/
import Derived.Test.YtijddkljgihcnaaGreatDoorS39
open Go Go.Eng Go.Proofs F1 F2 F5 F6 F10 G7 G4 L3 L10 G1 G3 EV0 B1 B2 S1 S2 S3 S4 S5 S6 S7 S8 S9 S10 S11 S12 S33 S36 S38 S39
set_option maxRecDepth 100000
namespace S37
def g27:List Nat:=[1,0]
def c27:aH :=
 .seq (.region g27 [(zo 0 (.alloc 30 (.cons (.nilsl) (.cons (.nilsl) (.cons (.nilsl) (.cons (.nilsl) (.cons (.nilsl) (.cons (.nilsl) (.cons (.nilsl) .nil)))))))))]) (.seq (.region g27 [(zo 2 (.build zPt [])),(zo 3 (.build zPt [(0,1,cj 9)])),(zo 4 (.build zPt [(0,1,cj 9),(1,1,cj 9)])),(zo 5 (.build zPt [(1,1,cj 9)])),(zo 6 (.buildSl 53 2 4 zPt [(0,2,.s 2),(2,2,.s 3),(4,2,.s 4),(6,2,.s 5)])),(mv 1 6)]) (.seq (.region g27 [(mv 7 1),(zo 8 (.build (.cons (.str []) (.cons (.int .i64 0) (.cons (.int .i64 0) (.cons (.nilsl) (.cons (.nilsl) (.cons (.int .i64 0) .nil)))))) [(0,1,.c (.str [99,50])),(1,1,cj 3),(3,1,.s 7),(5,1,cj (-1))])),(zo 9 (.buildSl 67 6 1 (.cons (.str []) (.cons (.int .i64 0) (.cons (.int .i64 0) (.cons (.nilsl) (.cons (.nilsl) (.cons (.int .i64 0) .nil)))))) [(0,6,.s 8)])),(mv 10 1),(zo 11 (.sliceSl 2 (.s 10) none (some (cj 2)))),(zo 12 (.build (.cons (.str []) (.cons (.int .i64 0) (.cons (.nilsl) (.cons (.nilsl) (.cons (.int .i64 0) .nil))))) [(0,1,.c (.str [115])),(2,1,.s 11),(4,1,cj (-1))])),(zo 13 (.buildSl 70 5 1 (.cons (.str []) (.cons (.int .i64 0) (.cons (.nilsl) (.cons (.nilsl) (.cons (.int .i64 0) .nil))))) [(0,5,.s 12)])),(mv 14 1),(zo 15 (.build (.cons (.str []) (.cons (.int .i64 0) (.cons (.nilsl) (.cons (.int .i64 0) .nil)))) [(0,1,.c (.str [98])),(2,1,.s 14),(3,1,cj (-1))])),(zo 16 (.buildSl 72 4 1 (.cons (.str []) (.cons (.int .i64 0) (.cons (.nilsl) (.cons (.int .i64 0) .nil)))) [(0,4,.s 15)])),(zo 17 (.build zHn [(0,1,cj 1)])),(zo 18 (.build zPt [(0,1,cj 2),(1,1,cj 2)])),(zo 19 (.build (.cons (.str []) (.cons (.str []) (.cons (.str []) (.cons (.int .i64 0) (.cons (.int .i64 0) (.cons (.str []) (.cons (.int .i64 0) (.cons (.int .i64 0) (.cons (.int .i64 0) (.cons (.int .i64 0) (.cons (.int .i64 0) (.cons (.int .i64 0) (.cons (.nilsl) (.cons (.int .i64 0) (.cons (.int .i64 0) (.cons (.str []) .nil)))))))))))))))) [(0,1,.c (.str [101])),(2,1,.c (.str [115])),(1,1,.c (.str [98])),(4,4,.s 17),(8,2,.s 18),(11,1,cj (-1))])),(zo 20 (.build (.cons (.str []) (.cons (.str []) (.cons (.str []) (.cons (.int .i64 0) (.cons (.int .i64 0) (.cons (.str []) (.cons (.int .i64 0) (.cons (.int .i64 0) (.cons (.int .i64 0) (.cons (.int .i64 0) (.cons (.int .i64 0) (.cons (.int .i64 0) (.cons (.nilsl) (.cons (.int .i64 0) (.cons (.int .i64 0) (.cons (.str []) .nil)))))))))))))))) [(0,1,.c (.str [104])),(14,1,cj 3),(15,1,.c (.str [120])),(11,1,cj (-1))])),(zo 21 (.build (.cons (.str []) (.cons (.str []) (.cons (.str []) (.cons (.int .i64 0) (.cons (.int .i64 0) (.cons (.str []) (.cons (.int .i64 0) (.cons (.int .i64 0) (.cons (.int .i64 0) (.cons (.int .i64 0) (.cons (.int .i64 0) (.cons (.int .i64 0) (.cons (.nilsl) (.cons (.int .i64 0) (.cons (.int .i64 0) (.cons (.str []) .nil)))))))))))))))) [(0,1,.c (.str [105])),(14,1,cj 9),(15,1,.c (.str [120])),(11,1,cj (-1))])),(zo 22 (.buildSl 55 16 3 (.cons (.str []) (.cons (.str []) (.cons (.str []) (.cons (.int .i64 0) (.cons (.int .i64 0) (.cons (.str []) (.cons (.int .i64 0) (.cons (.int .i64 0) (.cons (.int .i64 0) (.cons (.int .i64 0) (.cons (.int .i64 0) (.cons (.int .i64 0) (.cons (.nilsl) (.cons (.int .i64 0) (.cons (.int .i64 0) (.cons (.str []) .nil)))))))))))))))) [(0,16,.s 19),(16,16,.s 20),(32,16,.s 21)])),(zo 23 (.build (.cons (.nilsl) (.cons (.nilsl) (.cons (.nilsl) (.cons (.nilsl) (.cons (.nilsl) (.cons (.nilsl) (.cons (.nilsl) .nil))))))) [(0,1,.s 9),(1,1,.s 13),(2,1,.s 16),(3,1,.s 22)])),⟨none,none,.store 7 (.s 0) (.s 23),[]⟩]) .ret))
theorem e27:aI Tryz.prog 27 g27 [] [] []=some (c27,[.cell 0 7 true],24):=by kernel_rfl
def Wn:Eng.Spec where
 X:=Unit
 args:=fun _=>.nil
 pre:=fun _=>True
 res:=fun _=>kM s0
 inst:=fun _=>some ()
 fresh:=false
theorem Sw:Wn.Ok Tryz.prog 27:=by
 refine Eng.Spec.okR e27 .nil (fun _=>[]) (fun _ _=>aA.nil) ?_
 rintro ⟨⟩ _
 refine ⟨trivial,?_⟩
 repeat' (first|apply And.intro|exact trivial|exact rfl)
 ·decide
 ·decide
 ·exact fun (i:Nat) (hi:i < 2)=>by
   have:i=0\/i=1:=by omega
   rcases this with rfl|rfl <;> refine Or.inl ?_ <;> repeat' (first|apply And.intro|exact trivial|exact rfl)
theorem pt2 {a b:Bool} {k:Nat} (ha:a=true) (hb:b=true):aE a (.s k) cF b false=true:=by rw [aF,ha,hb]; rfl
theorem W4:l0.n=4:=rfl
theorem Up:l0.n<=1000000:=by show 4<=1000000; decide
theorem B9:okO l0:=⟨fun i _=>by
  show (l0f i).links.n<=1000000
  unfold l0f
  split
  ·show 2<=1000000; decide
  ·split
   ·show 2<=1000000; decide
   ·split <;> (show 2<=1000000; decide),fun i _=>by
  have h1:okS c1 okT:=⟨by show 1<=1000000; decide,fun _ _=>fQ (n:=2) rfl (by decide)⟩
  have h2:okS c2 okT:=⟨by show 1<=1000000; decide,fun _ _=>fQ (n:=2) rfl (by decide)⟩
  show okS (l0f i).codes okT
  unfold l0f
  split
  ·exact vK
  ·split
   ·exact h1
   ·split
    ·exact h2
    ·exact h1⟩
theorem Qz:okO ⟨3,l0f⟩:=⟨fun i hi=>B9.ln i (Nat.lt_trans hi (by decide:3 < 4)),fun i hi=>B9.cn i (Nat.lt_trans hi (by decide:3 < 4))⟩
theorem t101:okT [101]:=fQ (n:=1) rfl (by decide)
theorem t104:okT [104]:=fQ (n:=1) rfl (by decide)
theorem t105:okT [105]:=fQ (n:=1) rfl (by decide)
theorem x1:decide ((if dG l0 0 2=true then (0:Int) else 1)=0)=true:=by rw [if_pos prp02]; rfl
theorem x2:decide (tV l0 0 2=2)=true:=decide_eq_true hop02
theorem x3:decide ((if dG l0 0 2=true then if (0:Int)=2 then (11:Int) else 0 else 1)=0)=true:=by rw [if_pos prp02]; rfl
theorem x4:decide ((if dG l0 0 2=true then if (0:Int)=2 then (0:Int) else Cl l0 0 2 else 0)=1)=true:=by rw [if_pos prp02,if_neg (by decide),nxt02]; rfl
theorem x5:decide ((if dG l0 2 2=true then if (2:Int)=2 then (11:Int) else 0 else 1)=11)=true:=by rw [if_pos prp22,if_pos rfl]; rfl
theorem x6:decide ((if vdV l0=true then if S8.svI l0 [99,49]=-1 then (10:Int) else 0 else 1)=0)=true:=by rw [if_pos vd0,sv1]; rfl
theorem x7:decide ((if vdV l0=true then if S8.svI l0 [99,49]=-1 then (0:Int) else S8.svI l0 [99,49] else 0)=1)=true:=by rw [if_pos vd0,sv1]; rfl
theorem x8:decide ((if vdV l0=true then if S8.svI l0 [99,51]=-1 then (10:Int) else 0 else 1)=10)=true:=by rw [if_pos vd0,sv3]; rfl
theorem y1:decide ((tgT l0 s0 [101]).2=0)=true:=by rw [tg0]; rfl
theorem y2:decide ((tgT l0 s0 [101]).1=2)=true:=by rw [tg0]; rfl
theorem y3:decide ((tgT l0 s0 [104]).2=0)=true:=by rw [tg1]; rfl
theorem y4:decide ((tgT l0 s0 [104]).1=3)=true:=by rw [tg1]; rfl
theorem y5:decide ((tgT l0 s0 [105]).2=9)=true:=by rw [tg2]; rfl
theorem z1:vdV l0=true:=vd0
theorem z2:(!vdV ⟨3,l0.f⟩)=true:=by rw [show (⟨3,l0.f⟩:Sq Of)=⟨3,l0f⟩ from rfl,vd3]; rfl
theorem Iy:3<=1000000/\(3<=64->okO ⟨3,l0.f⟩):=⟨by decide,fun _=>Qz⟩
theorem W3:(0:Int)<=3/\(3:Int)<=(l0.n:Int):=⟨by decide,by rw [W4]; decide⟩
attribute [local irreducible] l0 s0 vdV tV dG Cl S8.svI tgT
def g9:List Nat:=[2,1,4,3,6,8,7,10,17,12,11,14,13,16,0]
def c9:aH :=
 .seq (.region g9 [(zo 0 (.move cF))]) (.seq (.region g9 [(zo 19 (.call (.c (.fn 26)) [])),(zo 20 (.call (.c (.fn 12)) [.s 19,cj 0,cj 2])),(mv 18 20),(zo 21 (.extract 0 (.s 18))),(zo 22 (.extract 1 (.s 18))),(mv 1 21),(mv 2 22)]) (.seq (.region g9 [(zo 24 (.call (.c (.fn 26)) [])),(zo 25 (.call (.c (.fn 14)) [.s 24,cj 0,cj 2])),(mv 23 25),(zo 26 (.extract 0 (.s 23))),(zo 27 (.extract 1 (.s 23))),(mv 3 26),(mv 4 27)]) (.seq (.region g9 [(zo 29 (.call (.c (.fn 26)) [])),(zo 30 (.call (.c (.fn 14)) [.s 29,cj 2,cj 2])),(mv 28 30),(zo 31 (.extract 0 (.s 28))),(zo 32 (.extract 1 (.s 28))),(mv 5 31),(mv 6 32)]) (.seq (.region g9 [(zo 34 (.call (.c (.fn 26)) [])),(zo 35 (.call (.c (.fn 16)) [.s 34,.c (.str [99,49])])),(mv 33 35),(zo 36 (.extract 0 (.s 33))),(zo 37 (.extract 1 (.s 33))),(mv 7 36),(mv 8 37)]) (.seq (.region g9 [(zo 39 (.call (.c (.fn 26)) [])),(zo 40 (.call (.c (.fn 16)) [.s 39,.c (.str [99,51])])),(mv 38 40),(zo 41 (.extract 0 (.s 38))),(zo 42 (.extract 1 (.s 38))),(mv 9 41),(mv 10 42)]) (.seq (.region g9 [(zo 44 (.call (.c (.fn 26)) [])),(zo 45 (.call (.c (.fn 27)) [])),(zo 46 (.call (.c (.fn 18)) [.s 44,.s 45,.c (.str [101])])),(mv 43 46),(zo 47 (.extract 0 (.s 43))),(zo 48 (.extract 1 (.s 43))),(mv 11 47),(mv 12 48)]) (.seq (.region g9 [(zo 50 (.call (.c (.fn 26)) [])),(zo 51 (.call (.c (.fn 27)) [])),(zo 52 (.call (.c (.fn 18)) [.s 50,.s 51,.c (.str [104])])),(mv 49 52),(zo 53 (.extract 0 (.s 49))),(zo 54 (.extract 1 (.s 49))),(mv 13 53),(mv 14 54)]) (.seq (.region g9 [(zo 56 (.call (.c (.fn 26)) [])),(zo 57 (.call (.c (.fn 27)) [])),(zo 58 (.call (.c (.fn 18)) [.s 56,.s 57,.c (.str [105])])),(mv 55 58),(zo 59 (.extract 0 (.s 55))),(zo 60 (.extract 1 (.s 55))),(mv 15 59),(mv 16 60)]) (.seq (.region g9 [(mv 61 2),(zo 62 (.bin (.eql) (.s 61) (cj 0))),(mv 63 62),(mg 64 63 true 1),(zg 65 63 true (.bin (.eql) (.s 64) (cj 2))),(zo 66 (.pick (.s 63) (.s 65) cF)),(mv 67 66),(mg 68 67 true 4),(zg 69 67 true (.bin (.eql) (.s 68) (cj 0))),(zo 70 (.pick (.s 67) (.s 69) cF)),(mv 71 70),(mg 72 71 true 3),(zg 73 71 true (.bin (.eql) (.s 72) (cj 1))),(zo 74 (.pick (.s 71) (.s 73) cF)),(mv 75 74),(mg 76 75 true 6),(zg 77 75 true (.bin (.eql) (.s 76) (cj 11))),(zo 78 (.pick (.s 75) (.s 77) cF)),(mv 79 78),(mg 80 79 true 8),(zg 81 79 true (.bin (.eql) (.s 80) (cj 0))),(zo 82 (.pick (.s 79) (.s 81) cF)),(mv 83 82),(mg 84 83 true 7),(zg 85 83 true (.bin (.eql) (.s 84) (cj 1))),(zo 86 (.pick (.s 83) (.s 85) cF)),(mv 87 86),(mg 88 87 true 10),(zg 89 87 true (.bin (.eql) (.s 88) (cj 10))),(zo 90 (.pick (.s 87) (.s 89) cF)),(mv 17 90)]) (.seq (.region g9 [(mv 91 17),(mv 92 91),(mg 93 92 true 12),(zg 94 92 true (.bin (.eql) (.s 93) (cj 0))),(zo 95 (.pick (.s 92) (.s 94) cF)),(mv 96 95),(mg 97 96 true 11),(zg 98 96 true (.bin (.eql) (.s 97) (cj 2))),(zo 99 (.pick (.s 96) (.s 98) cF)),(mv 100 99),(mg 101 100 true 14),(zg 102 100 true (.bin (.eql) (.s 101) (cj 0))),(zo 103 (.pick (.s 100) (.s 102) cF)),(mv 104 103),(mg 105 104 true 13),(zg 106 104 true (.bin (.eql) (.s 105) (cj 3))),(zo 107 (.pick (.s 104) (.s 106) cF)),(mv 108 107),(mg 109 108 true 16),(zg 110 108 true (.bin (.eql) (.s 109) (cj 9))),(zo 111 (.pick (.s 108) (.s 110) cF)),(mv 112 111),(zg 113 112 true (.call (.c (.fn 26)) [])),(zg 114 112 true (.call (.c (.fn 20)) [.s 113])),(zo 115 (.pick (.s 112) (.s 114) cF)),(mv 116 115),(zg 117 116 true (.call (.c (.fn 26)) [])),(zg 118 116 true (.sliceSl 2 (.s 117) none (some (cj 3)))),(zg 119 116 true (.call (.c (.fn 20)) [.s 118])),(zg 120 116 true (.not (.s 119))),(zo 121 (.pick (.s 116) (.s 120) cF)),(mv 0 121)]) .ret))))))))))
theorem e9:aI Tryz.prog 9 g9 [] [] []=some (c9,[.slot 0],122):=by kernel_rfl
set_option maxHeartbeats 4000000 in
theorem Mi:Og.Ok Tryz.prog 9:=by
 refine Eng.Spec.okR e9 .nil (fun _=>[(26,.p Vy),(27,.p Wn),(12,.p Qo),(14,.p Vk),(16,.p Ss),(18,.p Nw),(20,.p vdS)]) (fun _ _=>aA.p R9 (aA.p Sw (aA.p Qq (aA.p Rq (aA.p Kk (aA.p Kr (aA.p As aA.nil))))))) ?_
 rintro ⟨⟩ _
 refine ⟨trivial,?_⟩
 repeat' (first|exact Up|exact fun _=>B9|exact Vz|exact t101|exact t104|exact t105|exact W3|exact Iy.1|exact Iy.2|refine pt2 ?_ ?_|exact x1|exact x2|exact x3|exact x4|exact x5|exact x6|exact x7|exact x8|exact y1|exact y2|exact y3|exact y4|exact y5|exact z1|exact z2|apply And.intro|exact trivial|exact rfl|exact lz fun _=>rfl|exact S1.zz rfl|refine gd ?_)
end S37
