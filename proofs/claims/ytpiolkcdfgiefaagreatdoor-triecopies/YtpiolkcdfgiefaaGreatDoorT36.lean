/- A part of the proof. -/
import Derived.Test.YtpiolkcdfgiefaaGreatDoorT34
import Derived.Test.YtpiolkcdfgiefaaGreatDoorD14
open Go Go.Eng Go.Proofs T1 T2 T3 T4 T5 T6 T7 T8 T9 T10 T11 T12 T13 T14 T17 T18 T19 T20 T21 T22 T23 T24 T25 T26 T27 T28 T30 T31 T33 D3 D6 D9 D10 D11 D12 D13 D14 T34 T35
set_option maxRecDepth 100000
namespace T36
def g5:List Nat:=[1,0,7,27,34,33,49,5,8,6,3,4]
def c5:aF :=
 .seq (.region g5 [(zo 3 (.box 32 (.s 1))),(zo 4 (.move cF))]) (.seq (.region g5 [(zo 9 (.call (.c (.fn 10)) [])),(mv 5 9)]) (.seq (.region g5 [(mv 11 0),(zo 12 (.call (.c (.fn 11)) [.s 11])),(mv 10 12),(zo 13 (.extract 0 (.s 10))),(zo 14 (.extract 1 (.s 10))),(mv 6 13),(mv 7 14)]) (.seq (.seq (.region g5 [(mv 15 0),(zo 16 (.call (.c (.fn 17)) [.s 15,cj 12])),(zo 17 (.not (.s 16))),(mv 18 17),(zg 19 18 false (.load 2 true (.s 3))),(zg 20 18 false (.buildSl 32 2 1 (.cons (.str []) (.cons (.str []) .nil)) [(0,2,.s 19)])),(zg 21 18 false (.call (.c (.fn 17)) [.s 20,cj 1])),(zg 22 18 false (.not (.s 21))),(zo 23 (.pick (.s 18) cT (.s 22))),(mv 24 23),(mg 25 24 false 7),(zg 26 24 false (.bin (.neq) (.s 25) (cj 0))),(zo 27 (.pick (.s 24) cT (.s 26)))]) (.cond (.s 27) (.seq (.region g5 [(mv 28 5),(mv 4 28)]) .ret) .skip)) (.seq (.region g5 [(mv 29 6),(zo 30 (.call (.c (.fn 23)) [.s 29])),(mv 8 30)]) (.seq (.seq (.region g5 [(mv 31 6),(zo 32 (.load 2 true (.s 3))),(zo 33 (.call (.c (.fn 15)) [.s 31,.s 32]))]) (.block 0 (.seq (.region g5 [(zo 35 (.bin (.eql) (.s 33) (cj 0))),(mv 34 35)]) (.cond (.s 34) (.seq (.region g5 [(mv 36 5),(mv 37 36),(mg 38 37 true 6),(zg 39 37 true (.load 2 true (.s 3))),(zg 40 37 true (.call (.c (.fn 14)) [.s 38,.s 39])),(zg 41 37 true (.bin (.eql) (.s 40) (cj 0))),(zo 42 (.pick (.s 37) (.s 41) cF)),(mv 43 42),(mg 44 43 true 6),(zg 45 43 true (.call (.c (.fn 23)) [.s 44])),(mg 46 43 true 8),(zg 47 43 true (.bin (.eql) (.s 45) (.s 46))),(zo 48 (.pick (.s 43) (.s 47) cF)),(mv 4 48)]) .ret) (.seq (.region g5 [(zo 50 (.bin (.eql) (.s 33) (cj 8))),(mv 49 50)]) (.cond (.s 49) (.seq (.region g5 [(mv 51 5),(mv 52 51),(mg 53 52 true 6),(zg 54 52 true (.load 2 true (.s 3))),(zg 55 52 true (.call (.c (.fn 14)) [.s 53,.s 54])),(zg 56 52 true (.bin (.eql) (.s 55) (cj 0))),(zo 57 (.pick (.s 52) (.s 56) cF)),(mv 58 57),(mg 59 58 true 6),(zg 60 58 true (.load 2 true (.s 3))),(zg 61 58 true (.call (.c (.fn 15)) [.s 59,.s 60])),(zg 62 58 true (.bin (.eql) (.s 61) (cj 0))),(zo 63 (.pick (.s 58) (.s 62) cF)),(mv 64 63),(mg 65 64 true 6),(zg 66 64 true (.call (.c (.fn 23)) [.s 65])),(mg 67 64 true 8),(zg 68 64 true (.bin (.eql) (.s 66) (.s 67))),(zo 69 (.pick (.s 64) (.s 68) cF)),(mv 4 69)]) .ret) .skip)))))) (.seq (.region g5 [(mv 70 5),(mv 71 70),(mg 72 71 true 6),(zg 73 71 true (.call (.c (.fn 23)) [.s 72])),(mg 74 71 true 8),(zg 75 71 true (.bin (.eql) (.s 73) (.s 74))),(zo 76 (.pick (.s 71) (.s 75) cF)),(mv 77 76),(mg 78 77 true 6),(zg 79 77 true (.load 2 true (.s 3))),(zg 80 77 true (.call (.c (.fn 14)) [.s 78,.s 79])),(zg 81 77 true (.bin (.eql) (.s 80) (cj 10))),(zo 82 (.pick (.s 77) (.s 81) cF)),(mv 4 82)]) .ret))))))
def r5:List gS:=[.slot 4]
def k5:List (Nat×Nat×aF×Nat):=[]
theorem e5:aO Tryz.prog 5 g5 [] [] k5=some (c5,r5,83):=by kernel_rfl
theorem q5:kU Tryz.prog k5:=kU.nil
theorem Ca {T:TT} {k:Ky} (hs:szT T<=12) (hv:∀ t i,eB t i T->jD t i=true) :
  (pcT T k=0/\¬ eB k.1 k.2 T/\iQ T k=fX k.2 k.1 T)\/(pcT T k=8/\eB k.1 k.2 T/\iQ T k=T)\/(pcT T k=1/\¬ eB k.1 k.2 T/\iQ T k=T):=by
 have hd:decide (20000<=szT T)=false:=decide_eq_false (by omega)
 cases h1:jD k.1 k.2 with
 | false =>
  have e:pcT T k=1:=by unfold pcT; rw [h1]; rfl
  refine .inr (.inr ⟨e,fun hm=>?_,?_⟩)
  ·rw [hv _ _ hm] at h1; cases h1
  ·unfold iQ; rw [if_neg (by rw [e]; decide)]
 | true =>
  cases h2:tG T k.1 k.2 with
  | false =>
   have e:pcT T k=0:=by unfold pcT; rw [h1,h2,hd]; rfl
   refine .inl ⟨e,fun hm=>?_,?_⟩
   ·rw [gN.2 hm] at h2; cases h2
   ·unfold iQ; rw [if_pos e]
  | true =>
   have e:pcT T k=8:=by unfold pcT; rw [h1,h2]; rfl
   refine .inr (.inl ⟨e,gN.1 h2,?_⟩)
   unfold iQ; rw [if_neg (by rw [e]; decide)]
theorem Kk {T:TT} {k:Ky} (h:eB k.1 k.2 T):dcT T k=0/\kI T k=jL k.2 k.1 T:=by
 have:=gN.2 h
 unfold dcT kI
 rw [this]
 exact ⟨rfl,rfl⟩
theorem Qr {T:TT} {k:Ky} (h:¬ eB k.1 k.2 T):dcT T k=10/\kI T k=T:=by
 have:tG T k.1 k.2=false:=by
  cases e:tG T k.1 k.2 with
  | false=>rfl
  | true=>exact absurd (gN.1 e) h
 unfold dcT kI
 rw [this]
 exact ⟨rfl,rfl⟩
attribute [local irreducible] D9.Dd D6.kL oI T19.eZ
end T36
