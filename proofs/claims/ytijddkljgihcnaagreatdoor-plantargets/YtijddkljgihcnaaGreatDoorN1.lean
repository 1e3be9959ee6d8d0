/- A part of the proof. -/
import Derived.Test.YtijddkljgihcnaaGreatDoorEV0
import Derived.Lib.ItoaLen
import Derived.Lib.ItoaMem
open Go Go.Eng Go.Proofs G1 G2 G3 G4 G6 G7 EV0
set_option maxRecDepth 100000
namespace N1
def Vr:List Int:=[0,0,1,9,1,8,1,7,1,6,1,5,2,9,1,4,2,7,1,3,3,8,2,5,3,7,4,9,1,2,5,9,4,7,3,5,5,8,2,3,5,7,3,4,7,9,4,5,5,6,6,7,7,8,8,9]
def prt (i:Nat):Int:=Vr.getD i 0
def Oh:List Int->SV
 | []=>.nil
 | x::r=>.cons (.int .i64 x) (Oh r)
def g244:List Nat:=[0]
def c244:aH :=
 .seq (.region g244 [(zo 0 (.alloc 246 (.cons (.int .i64 0) (.cons (.int .i64 0) (.cons (.int .i64 0) (.cons (.int .i64 0) (.cons (.int .i64 0) (.cons (.int .i64 0) (.cons (.int .i64 0) (.cons (.int .i64 0) (.cons (.int .i64 0) (.cons (.int .i64 0) (.cons (.int .i64 0) (.cons (.int .i64 0) (.cons (.int .i64 0) (.cons (.int .i64 0) (.cons (.int .i64 0) (.cons (.int .i64 0) (.cons (.int .i64 0) (.cons (.int .i64 0) (.cons (.int .i64 0) (.cons (.int .i64 0) (.cons (.int .i64 0) (.cons (.int .i64 0) (.cons (.int .i64 0) (.cons (.int .i64 0) (.cons (.int .i64 0) (.cons (.int .i64 0) (.cons (.int .i64 0) (.cons (.int .i64 0) (.cons (.int .i64 0) (.cons (.int .i64 0) (.cons (.int .i64 0) (.cons (.int .i64 0) (.cons (.int .i64 0) (.cons (.int .i64 0) (.cons (.int .i64 0) (.cons (.int .i64 0) (.cons (.int .i64 0) (.cons (.int .i64 0) (.cons (.int .i64 0) (.cons (.int .i64 0) (.cons (.int .i64 0) (.cons (.int .i64 0) (.cons (.int .i64 0) (.cons (.int .i64 0) (.cons (.int .i64 0) (.cons (.int .i64 0) (.cons (.int .i64 0) (.cons (.int .i64 0) (.cons (.int .i64 0) (.cons (.int .i64 0) (.cons (.int .i64 0) (.cons (.int .i64 0) (.cons (.int .i64 0) (.cons (.int .i64 0) (.cons (.int .i64 0) (.cons (.int .i64 0) .nil))))))))))))))))))))))))))))))))))))))))))))))))))))))))))]) (.seq (.region g244 [(zo 1 (.build zPt [(0,1,cj 0),(1,1,cj 0)])),(zo 2 (.build zPt [(0,1,cj 1),(1,1,cj 9)])),(zo 3 (.build zPt [(0,1,cj 1),(1,1,cj 8)])),(zo 4 (.build zPt [(0,1,cj 1),(1,1,cj 7)])),(zo 5 (.build zPt [(0,1,cj 1),(1,1,cj 6)])),(zo 6 (.build zPt [(0,1,cj 1),(1,1,cj 5)])),(zo 7 (.build zPt [(0,1,cj 2),(1,1,cj 9)])),(zo 8 (.build zPt [(0,1,cj 1),(1,1,cj 4)])),(zo 9 (.build zPt [(0,1,cj 2),(1,1,cj 7)])),(zo 10 (.build zPt [(0,1,cj 1),(1,1,cj 3)])),(zo 11 (.build zPt [(0,1,cj 3),(1,1,cj 8)])),(zo 12 (.build zPt [(0,1,cj 2),(1,1,cj 5)])),(zo 13 (.build zPt [(0,1,cj 3),(1,1,cj 7)])),(zo 14 (.build zPt [(0,1,cj 4),(1,1,cj 9)])),(zo 15 (.build zPt [(0,1,cj 1),(1,1,cj 2)])),(zo 16 (.build zPt [(0,1,cj 5),(1,1,cj 9)])),(zo 17 (.build zPt [(0,1,cj 4),(1,1,cj 7)])),(zo 18 (.build zPt [(0,1,cj 3),(1,1,cj 5)])),(zo 19 (.build zPt [(0,1,cj 5),(1,1,cj 8)])),(zo 20 (.build zPt [(0,1,cj 2),(1,1,cj 3)])),(zo 21 (.build zPt [(0,1,cj 5),(1,1,cj 7)])),(zo 22 (.build zPt [(0,1,cj 3),(1,1,cj 4)])),(zo 23 (.build zPt [(0,1,cj 7),(1,1,cj 9)])),(zo 24 (.build zPt [(0,1,cj 4),(1,1,cj 5)])),(zo 25 (.build zPt [(0,1,cj 5),(1,1,cj 6)])),(zo 26 (.build zPt [(0,1,cj 6),(1,1,cj 7)])),(zo 27 (.build zPt [(0,1,cj 7),(1,1,cj 8)])),(zo 28 (.build zPt [(0,1,cj 8),(1,1,cj 9)])),(zo 29 (.build (.cons (.int .i64 0) (.cons (.int .i64 0) (.cons (.int .i64 0) (.cons (.int .i64 0) (.cons (.int .i64 0) (.cons (.int .i64 0) (.cons (.int .i64 0) (.cons (.int .i64 0) (.cons (.int .i64 0) (.cons (.int .i64 0) (.cons (.int .i64 0) (.cons (.int .i64 0) (.cons (.int .i64 0) (.cons (.int .i64 0) (.cons (.int .i64 0) (.cons (.int .i64 0) (.cons (.int .i64 0) (.cons (.int .i64 0) (.cons (.int .i64 0) (.cons (.int .i64 0) (.cons (.int .i64 0) (.cons (.int .i64 0) (.cons (.int .i64 0) (.cons (.int .i64 0) (.cons (.int .i64 0) (.cons (.int .i64 0) (.cons (.int .i64 0) (.cons (.int .i64 0) (.cons (.int .i64 0) (.cons (.int .i64 0) (.cons (.int .i64 0) (.cons (.int .i64 0) (.cons (.int .i64 0) (.cons (.int .i64 0) (.cons (.int .i64 0) (.cons (.int .i64 0) (.cons (.int .i64 0) (.cons (.int .i64 0) (.cons (.int .i64 0) (.cons (.int .i64 0) (.cons (.int .i64 0) (.cons (.int .i64 0) (.cons (.int .i64 0) (.cons (.int .i64 0) (.cons (.int .i64 0) (.cons (.int .i64 0) (.cons (.int .i64 0) (.cons (.int .i64 0) (.cons (.int .i64 0) (.cons (.int .i64 0) (.cons (.int .i64 0) (.cons (.int .i64 0) (.cons (.int .i64 0) (.cons (.int .i64 0) (.cons (.int .i64 0) (.cons (.int .i64 0) .nil)))))))))))))))))))))))))))))))))))))))))))))))))))))))) [(0,2,.s 1),(2,2,.s 2),(4,2,.s 3),(6,2,.s 4),(8,2,.s 5),(10,2,.s 6),(12,2,.s 7),(14,2,.s 8),(16,2,.s 9),(18,2,.s 10),(20,2,.s 11),(22,2,.s 12),(24,2,.s 13),(26,2,.s 14),(28,2,.s 15),(30,2,.s 16),(32,2,.s 17),(34,2,.s 18),(36,2,.s 19),(38,2,.s 20),(40,2,.s 21),(42,2,.s 22),(44,2,.s 23),(46,2,.s 24),(48,2,.s 25),(50,2,.s 26),(52,2,.s 27),(54,2,.s 28)])),⟨none,none,.store 56 (.s 0) (.s 29),[]⟩]) .ret)
theorem e244:aI Tryz.prog 244 g244 [] [] []=some (c244,[.cell 0 56 true],30):=by kernel_rfl
def jZ:Eng.Spec where
 X:=Unit
 args:=fun _=>.nil
 pre:=fun _=>True
 res:=fun _=>.agg (Oh Vr)
 inst:=fun _=>some ()
theorem Jm:jZ.Ok Tryz.prog 244:=by
 refine Eng.Spec.okR e244 .nil (fun _=>[]) (fun _ _=>aA.nil) ?_
 rintro ⟨⟩ _
 refine ⟨trivial,?_⟩
 repeat' (first|apply And.intro|exact trivial|exact rfl)
def g207:List Nat:=[0,2]
def c207:aH :=
 .seq (.region g207 [(zo 2 (.move cF))]) (.seq (.region g207 [(mv 3 0),(zo 4 (.bin (.eql) (.s 3) (.c (.str [])))),(mv 5 4),(mg 6 5 false 0),(zg 7 5 false (.lenStr (.s 6))),(zg 8 5 false (.bin (.eql) (.s 7) (cj 1))),(mg 9 5 false 8),(mg 10 9 true 0),(zg 11 9 true (.idxStr (.s 10) (cj 0))),(zg 12 9 true (.bin (.geq) (.s 11) (.c (.int (.u8) 97)))),(zg 13 5 false (.pick (.s 9) (.s 12) cF)),(mg 14 5 false 13),(mg 15 14 true 0),(zg 16 14 true (.idxStr (.s 15) (cj 0))),(zg 17 14 true (.bin (.leq) (.s 16) (.c (.int (.u8) 122)))),(zg 18 5 false (.pick (.s 14) (.s 17) cF)),(zo 19 (.pick (.s 5) cT (.s 18))),(mv 2 19)]) .ret)
theorem e207:aI Tryz.prog 207 g207 [] [] []=some (c207,[.slot 2],20):=by kernel_rfl
def b0 (s:B):Int:=((s.getD 0 0).toNat:Int)
def Ms (s:B):Bool:=decide (s=[]) || ((decide ((s.length:Int)=1) && decide (97<=b0 s)) && decide (b0 s<=122))
def Us:Eng.Spec where
 X:=B
 args:=fun s=>.cons (.str s) .nil
 pre:=fun _=>True
 res:=fun s=>.bool (Ms s)
 inst:=EV0.one oK
theorem Q0:Us.Ok Tryz.prog 207:=by
 refine Eng.Spec.okR e207 .nil (fun _=>[]) (fun _ _=>aA.nil) ?_
 intro (s:B) _
 have gl:decide ((s.length:Int)=1)=true->0<=(0:Int)/\(0:Int) < (s.length:Int):=fun h=>by
  rw [decide_eq_true_eq] at h; omega
 have gl2:∀ b:Bool,aE (decide ((s.length:Int)=1)) (.s 12) cF b false=true->0<=(0:Int)/\(0:Int) < (s.length:Int):=fun b h=>by
  rw [aF,Bool.and_eq_true] at h; exact gl h.1
 have e:aE (decide (s=[])) cT (.s 18) true (aE (aE (decide ((s.length:Int)=1)) (.s 12) cF (decide (97<=b0 s)) false) (.s 17) cF (decide (b0 s<=122)) false)=Ms s:=by
  rw [aD,aF,aF]; rfl
 refine ⟨trivial,?_⟩
 repeat' (first|apply And.intro|exact trivial|exact rfl)
 ·exact fun hg=>gl hg.1
 ·exact fun hg=>gl2 _ hg.1
def g208:List Nat:=[9,7,6,0,1,16,5,8,4]
def c208:aH :=
 .seq (.region g208 [(zo 4 (.move (cj 0)))]) (.seq (.seq (.region g208 [(zo 7 (.call (.c (.fn 244)) [])),(zo 8 (.move (cj 0)))]) (.block 0 (.loop 0 [9,10,11,6,5,12,13,14,15,16,17,4,18,8] (.seq (.region g208 [(zo 9 (.bin (.lss) (.s 8) (cj 28)))]) (.seq (.cond (.s 9) .skip (.exit 0)) (.seq (.block 1 (.seq (.region g208 [(mv 10 8),(zo 11 (.idxVal 28 2 true (.s 7) (.s 8))),(zo 6 (.alloc 245 zPt)),(mv 5 10),⟨none,none,.store 2 (.s 6) (.s 11),[]⟩]) (.seq (.region g208 [(zo 12 (.load 2 true (.s 6))),(mv 13 0),(mv 14 1),(zo 15 (.build zPt [(0,1,.s 13),(1,1,.s 14)])),(zo 16 (.eqS false [(0,1),(1,1)] (.s 12) (.s 15)))]) (.cond (.s 16) (.seq (.region g208 [(mv 17 5),(mv 4 17)]) .ret) .skip)))) (.region g208 [(zo 18 (.bin (.add) (.s 8) (cj 1))),(mv 8 18)]))))))) (.seq (.region g208 [(zo 4 (.move (cj (-1))))]) .ret))
theorem e208:aI Tryz.prog 208 g208 [] [] []=some (c208,[.slot 4],19):=by kernel_rfl
def plB (num den:Int) (i:Nat):Bool:=decide (prt (2 * i)=num) && (decide (prt (2 * i+1)=den) && true)
def plV (num den:Int):Int:=aZ (plB num den) 28
def Jq:Eng.Spec where
 X:=Int×Int
 args:=fun x=>.cons (.int .i64 x.1) (.cons (.int .i64 x.2) .nil)
 pre:=fun _=>True
 res:=fun x=>.int .i64 (plV x.1 x.2)
 inst:=EV0.two tY tY
theorem le_lo {k:Nat}:(-9223372036854775808:Int)<=(k:Int)+1:=by omega
theorem Ur {k:Nat} (h:k < 1000000):(k:Int)+1<=9223372036854775807:=by omega
theorem Ux {k:Nat} (h:k < 28):28 - (k+1) < 28 - k:=by omega
theorem R2 {a b:Int} {k:Nat} (hf:orB (plB a b) k=false) (hk:k < 28) (hc:plB a b k=true):(k:Int)=plV a b:=(cI hf hc hk).symm
theorem Nd {a b:Int} {k:Nat} (hf:orB (plB a b) k=false) (hc:plB a b k=false):orB (plB a b) (k+1)=false:=by
 simp only [orB]
 rw [hf,hc]
 rfl
set_option maxHeartbeats 8000000 in
theorem Jr:Jq.Ok Tryz.prog 208:=by
 refine Eng.Spec.okR e208 .nil (fun _=>[(244,.p jZ)]) (fun _ _=>aA.p Jm aA.nil) ?_
 rintro ⟨a,b⟩ _
 refine ⟨trivial,?_⟩
 repeat' (first|apply And.intro|exact trivial|exact rfl)
 refine ⟨⟨Nat,fun k=>k<=28/\orB (plB a b) k=false,fun k=>[(8,.int .i64 (k:Int))],fun _=>[],fun k=>28 - k⟩,0,⟨Nat.zero_le _,rfl⟩,?_,?_⟩
 ·repeat' (first|apply And.intro|exact trivial|exact rfl)
 rintro (k:Nat) ⟨(hk:k<=28),(hf:orB (plB a b) k=false)⟩
 by_cases hk2:k < 28
 ·have:k=0\/k=1\/k=2\/k=3\/k=4\/k=5\/k=6\/k=7\/k=8\/k=9\/k=10\/k=11\/k=12\/k=13\/k=14\/k=15\/k=16\/k=17\/k=18\/k=19\/k=20\/k=21\/k=22\/k=23\/k=24\/k=25\/k=26\/k=27:=by omega
  rcases this with rfl|rfl|rfl|rfl|rfl|rfl|rfl|rfl|rfl|rfl|rfl|rfl|rfl|rfl|rfl|rfl|rfl|rfl|rfl|rfl|rfl|rfl|rfl|rfl|rfl|rfl|rfl|rfl
  all_goals repeat' (first|apply And.intro|exact trivial|exact rfl|exact fun (h:decide (((_:Nat):Int) < 28)=false)=>absurd h (by decide)|refine fun (_:decide (((_:Nat):Int) < 28)=true)=>?_)
  all_goals first
   | (refine fun (hc:(decide (_=a) && (decide (_=b) && true))=true)=>?_
      have e:=R2 hf (by decide) hc
      repeat' (first|apply And.intro|exact trivial|exact rfl|exact e))
   | (refine fun (hc:(decide (_=a) && (decide (_=b) && true))=false)=>?_
      have e:=Nd hf hc
      repeat' (first|apply And.intro|exact trivial|exact rfl|exact le_lo|exact Ur (by decide))
      refine Exists.intro _ (And.intro (And.intro ?_ e) ?_)
      repeat' (first|apply And.intro|exact trivial|exact rfl|exact Ux (by decide)|decide))
 ·obtain rfl:k=28:=by omega
  have e:-1=plV a b:=(cA hf).symm
  repeat' (first|apply And.intro|exact trivial|exact rfl|exact e)
  ·exact fun (h:decide ((28:Int) < 28)=true)=>absurd h (by decide)
  refine fun _=>?_
  repeat' (first|apply And.intro|exact trivial|exact rfl|exact e)
def g150:List Nat:=[0,1,2]
def c150:aH :=
 .seq (.region g150 [(zo 1 (.box 51 (.s 0))),(zo 2 (.move cF))]) (.seq (.region g150 [(fa 3 0 1),(ld 4 3),(zo 5 (.bin (.geq) (.s 4) (cj 1))),(mv 6 5),(fg 7 6 true 0 1),(lg 8 6 true 7),(zg 9 6 true (.bin (.leq) (.s 8) (cj 9999))),(zo 10 (.pick (.s 6) (.s 9) cF)),(mv 11 10),(fg 12 11 true 1 1),(lg 13 11 true 12),(zg 14 11 true (.call (.c (.fn 207)) [.s 13])),(zo 15 (.pick (.s 11) (.s 14) cF)),(mv 16 15),(fg 17 16 true 2 1),(lg 18 16 true 17),(fg 19 16 true 3 1),(lg 20 16 true 19),(zg 21 16 true (.call (.c (.fn 208)) [.s 18,.s 20])),(zg 22 16 true (.bin (.geq) (.s 21) (cj 0))),(zo 23 (.pick (.s 16) (.s 22) cF)),(mv 2 23)]) .ret)
theorem e150:aI Tryz.prog 150 g150 [] [] []=some (c150,[.slot 2],24):=by kernel_rfl
def kA (h:Hn):Bool:=((decide (1<=h.n) && decide (h.n<=9999)) && Ms h.l) && decide (0<=plV h.num h.den)
def K5:Eng.Spec where
 X:=Hn
 args:=fun h=>.cons (.agg (hnL h)) .nil
 pre:=fun _=>True
 res:=fun h=>.bool (kA h)
 inst:=EV0.one hnD
theorem xR:K5.Ok Tryz.prog 150:=by
 refine Eng.Spec.okR e150 .nil (fun _=>[(207,.p Us),(208,.p Jq)]) (fun _ _=>aA.p Q0 (aA.p Jr aA.nil)) ?_
 intro (h:Hn) _
 have e:aE (aE (aE (decide (1<=h.n)) (.s 9) cF (decide (h.n<=9999)) false) (.s 14) cF (Ms h.l) false) (.s 22) cF (decide (0<=plV h.num h.den)) false=kA h:=by
  rw [aF,aF,aF]; rfl
 refine ⟨trivial,?_⟩
 repeat' (first|apply And.intro|exact trivial|exact rfl|refine fun (_:bD _ _ _ _)=>?_)
end N1
