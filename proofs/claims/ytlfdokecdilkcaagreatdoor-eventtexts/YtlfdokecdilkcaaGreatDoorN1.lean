/- A part of the proof. -/
import Derived.Test.YtlfdokecdilkcaaGreatDoorEV0
import Derived.Lib.ItoaLen
import Derived.Lib.ItoaMem
open Go Go.Eng Go.Proofs G1 G2 G3 G4 G6 G7 EV0
set_option maxRecDepth 100000
namespace N1
def Vi:List Int:=[0,0,1,9,1,8,1,7,1,6,1,5,2,9,1,4,2,7,1,3,3,8,2,5,3,7,4,9,1,2,5,9,4,7,3,5,5,8,2,3,5,7,3,4,7,9,4,5,5,6,6,7,7,8,8,9]
def prt (i:Nat):Int:=Vi.getD i 0
def O7:List Int->SV
  | []=>.nil
  | x::r=>.cons (.int .i64 x) (O7 r)
def g166:List Nat:=[0]
def c166:aD :=
  .seq (.region g166 [(zo 0 (.alloc 172 (.cons (.int .i64 0) (.cons (.int .i64 0) (.cons (.int .i64 0) (.cons (.int .i64 0) (.cons (.int .i64 0) (.cons (.int .i64 0) (.cons (.int .i64 0) (.cons (.int .i64 0) (.cons (.int .i64 0) (.cons (.int .i64 0) (.cons (.int .i64 0) (.cons (.int .i64 0) (.cons (.int .i64 0) (.cons (.int .i64 0) (.cons (.int .i64 0) (.cons (.int .i64 0) (.cons (.int .i64 0) (.cons (.int .i64 0) (.cons (.int .i64 0) (.cons (.int .i64 0) (.cons (.int .i64 0) (.cons (.int .i64 0) (.cons (.int .i64 0) (.cons (.int .i64 0) (.cons (.int .i64 0) (.cons (.int .i64 0) (.cons (.int .i64 0) (.cons (.int .i64 0) (.cons (.int .i64 0) (.cons (.int .i64 0) (.cons (.int .i64 0) (.cons (.int .i64 0) (.cons (.int .i64 0) (.cons (.int .i64 0) (.cons (.int .i64 0) (.cons (.int .i64 0) (.cons (.int .i64 0) (.cons (.int .i64 0) (.cons (.int .i64 0) (.cons (.int .i64 0) (.cons (.int .i64 0) (.cons (.int .i64 0) (.cons (.int .i64 0) (.cons (.int .i64 0) (.cons (.int .i64 0) (.cons (.int .i64 0) (.cons (.int .i64 0) (.cons (.int .i64 0) (.cons (.int .i64 0) (.cons (.int .i64 0) (.cons (.int .i64 0) (.cons (.int .i64 0) (.cons (.int .i64 0) (.cons (.int .i64 0) (.cons (.int .i64 0) (.cons (.int .i64 0) .nil))))))))))))))))))))))))))))))))))))))))))))))))))))))))))]) (.seq (.region g166 [(zo 1 (.build zPt [(0,1,.c (.int .i64 0)),(1,1,.c (.int .i64 0))])),(zo 2 (.build zPt [(0,1,.c (.int .i64 1)),(1,1,.c (.int .i64 9))])),(zo 3 (.build zPt [(0,1,.c (.int .i64 1)),(1,1,.c (.int .i64 8))])),(zo 4 (.build zPt [(0,1,.c (.int .i64 1)),(1,1,.c (.int .i64 7))])),(zo 5 (.build zPt [(0,1,.c (.int .i64 1)),(1,1,.c (.int .i64 6))])),(zo 6 (.build zPt [(0,1,.c (.int .i64 1)),(1,1,.c (.int .i64 5))])),(zo 7 (.build zPt [(0,1,.c (.int .i64 2)),(1,1,.c (.int .i64 9))])),(zo 8 (.build zPt [(0,1,.c (.int .i64 1)),(1,1,.c (.int .i64 4))])),(zo 9 (.build zPt [(0,1,.c (.int .i64 2)),(1,1,.c (.int .i64 7))])),(zo 10 (.build zPt [(0,1,.c (.int .i64 1)),(1,1,.c (.int .i64 3))])),(zo 11 (.build zPt [(0,1,.c (.int .i64 3)),(1,1,.c (.int .i64 8))])),(zo 12 (.build zPt [(0,1,.c (.int .i64 2)),(1,1,.c (.int .i64 5))])),(zo 13 (.build zPt [(0,1,.c (.int .i64 3)),(1,1,.c (.int .i64 7))])),(zo 14 (.build zPt [(0,1,.c (.int .i64 4)),(1,1,.c (.int .i64 9))])),(zo 15 (.build zPt [(0,1,.c (.int .i64 1)),(1,1,.c (.int .i64 2))])),(zo 16 (.build zPt [(0,1,.c (.int .i64 5)),(1,1,.c (.int .i64 9))])),(zo 17 (.build zPt [(0,1,.c (.int .i64 4)),(1,1,.c (.int .i64 7))])),(zo 18 (.build zPt [(0,1,.c (.int .i64 3)),(1,1,.c (.int .i64 5))])),(zo 19 (.build zPt [(0,1,.c (.int .i64 5)),(1,1,.c (.int .i64 8))])),(zo 20 (.build zPt [(0,1,.c (.int .i64 2)),(1,1,.c (.int .i64 3))])),(zo 21 (.build zPt [(0,1,.c (.int .i64 5)),(1,1,.c (.int .i64 7))])),(zo 22 (.build zPt [(0,1,.c (.int .i64 3)),(1,1,.c (.int .i64 4))])),(zo 23 (.build zPt [(0,1,.c (.int .i64 7)),(1,1,.c (.int .i64 9))])),(zo 24 (.build zPt [(0,1,.c (.int .i64 4)),(1,1,.c (.int .i64 5))])),(zo 25 (.build zPt [(0,1,.c (.int .i64 5)),(1,1,.c (.int .i64 6))])),(zo 26 (.build zPt [(0,1,.c (.int .i64 6)),(1,1,.c (.int .i64 7))])),(zo 27 (.build zPt [(0,1,.c (.int .i64 7)),(1,1,.c (.int .i64 8))])),(zo 28 (.build zPt [(0,1,.c (.int .i64 8)),(1,1,.c (.int .i64 9))])),(zo 29 (.build (.cons (.int .i64 0) (.cons (.int .i64 0) (.cons (.int .i64 0) (.cons (.int .i64 0) (.cons (.int .i64 0) (.cons (.int .i64 0) (.cons (.int .i64 0) (.cons (.int .i64 0) (.cons (.int .i64 0) (.cons (.int .i64 0) (.cons (.int .i64 0) (.cons (.int .i64 0) (.cons (.int .i64 0) (.cons (.int .i64 0) (.cons (.int .i64 0) (.cons (.int .i64 0) (.cons (.int .i64 0) (.cons (.int .i64 0) (.cons (.int .i64 0) (.cons (.int .i64 0) (.cons (.int .i64 0) (.cons (.int .i64 0) (.cons (.int .i64 0) (.cons (.int .i64 0) (.cons (.int .i64 0) (.cons (.int .i64 0) (.cons (.int .i64 0) (.cons (.int .i64 0) (.cons (.int .i64 0) (.cons (.int .i64 0) (.cons (.int .i64 0) (.cons (.int .i64 0) (.cons (.int .i64 0) (.cons (.int .i64 0) (.cons (.int .i64 0) (.cons (.int .i64 0) (.cons (.int .i64 0) (.cons (.int .i64 0) (.cons (.int .i64 0) (.cons (.int .i64 0) (.cons (.int .i64 0) (.cons (.int .i64 0) (.cons (.int .i64 0) (.cons (.int .i64 0) (.cons (.int .i64 0) (.cons (.int .i64 0) (.cons (.int .i64 0) (.cons (.int .i64 0) (.cons (.int .i64 0) (.cons (.int .i64 0) (.cons (.int .i64 0) (.cons (.int .i64 0) (.cons (.int .i64 0) (.cons (.int .i64 0) (.cons (.int .i64 0) (.cons (.int .i64 0) .nil)))))))))))))))))))))))))))))))))))))))))))))))))))))))) [(0,2,.s 1),(2,2,.s 2),(4,2,.s 3),(6,2,.s 4),(8,2,.s 5),(10,2,.s 6),(12,2,.s 7),(14,2,.s 8),(16,2,.s 9),(18,2,.s 10),(20,2,.s 11),(22,2,.s 12),(24,2,.s 13),(26,2,.s 14),(28,2,.s 15),(30,2,.s 16),(32,2,.s 17),(34,2,.s 18),(36,2,.s 19),(38,2,.s 20),(40,2,.s 21),(42,2,.s 22),(44,2,.s 23),(46,2,.s 24),(48,2,.s 25),(50,2,.s 26),(52,2,.s 27),(54,2,.s 28)])),⟨none,none,.store 56 (.s 0) (.s 29),[]⟩]) .ret)
def r166:List aR:=[.cell 0 56 true]
def k166:List (Nat×Nat×aD×Nat):=[]
theorem e166:aK Tryz.prog 166 g166 [] [] k166=some (c166,r166,30):=by kernel_rfl
theorem q166:aF Tryz.prog k166:=aF.nil
def lC:Eng.Spec where
  X:=Unit
  args:=fun _=>.nil
  pre:=fun _=>True
  res:=fun _=>.agg (O7 Vi)
  inst:=fun _=>some ()
theorem J1:lC.Ok Tryz.prog 166:=by
  refine Eng.Spec.okR e166 q166 (fun _=>[]) (fun _ _=>aA.nil) ?_
  rintro ⟨⟩ _
  refine ⟨trivial,?_⟩
  repeat' (first|apply And.intro|exact trivial|exact rfl)
def g133:List Nat:=[0,2]
def c133:aD :=
  .seq (.region g133 [(zo 2 (.move (.c (.bool false))))]) (.seq (.region g133 [(zo 3 (.move (.s 0))),(zo 4 (.bin (.eql) (.s 3) (.c (.str [])))),(zo 5 (.move (.s 4))),(zg 6 5 false (.move (.s 0))),(zg 7 5 false (.lenStr (.s 6))),(zg 8 5 false (.bin (.eql) (.s 7) (.c (.int .i64 1)))),(zg 9 5 false (.move (.s 8))),(zg 10 9 true (.move (.s 0))),(zg 11 9 true (.idxStr (.s 10) (.c (.int .i64 0)))),(zg 12 9 true (.bin (.geq) (.s 11) (.c (.int (.u8) 97)))),(zg 13 5 false (.pick (.s 9) (.s 12) (.c (.bool false)))),(zg 14 5 false (.move (.s 13))),(zg 15 14 true (.move (.s 0))),(zg 16 14 true (.idxStr (.s 15) (.c (.int .i64 0)))),(zg 17 14 true (.bin (.leq) (.s 16) (.c (.int (.u8) 122)))),(zg 18 5 false (.pick (.s 14) (.s 17) (.c (.bool false)))),(zo 19 (.pick (.s 5) (.c (.bool true)) (.s 18))),(zo 2 (.move (.s 19)))]) .ret)
def r133:List aR:=[.slot 2]
def k133:List (Nat×Nat×aD×Nat):=[]
theorem e133:aK Tryz.prog 133 g133 [] [] k133=some (c133,r133,20):=by kernel_rfl
theorem q133:aF Tryz.prog k133:=aF.nil
def b0 (s:B):Int:=((s.getD 0 0).toNat:Int)
def Cs (s:B):Bool:=decide (s=[]) || ((decide ((s.length:Int)=1) && decide (97<=b0 s)) && decide (b0 s<=122))
def Ul:Eng.Spec where
  X:=B
  args:=fun s=>.cons (.str s) .nil
  pre:=fun _=>True
  res:=fun s=>.bool (Cs s)
  inst:=EV0.one yK
theorem Rf:Ul.Ok Tryz.prog 133:=by
  refine Eng.Spec.okR e133 q133 (fun _=>[]) (fun _ _=>aA.nil) ?_
  intro (s:B) _
  have gl:decide ((s.length:Int)=1)=true->0<=(0:Int)/\(0:Int) < (s.length:Int):=fun h=>by
    rw [decide_eq_true_eq] at h; omega
  have gl2:∀ b:Bool,aG (decide ((s.length:Int)=1)) (.s 12) (.c (.bool false)) b false=true->0<=(0:Int)/\(0:Int) < (s.length:Int):=fun b h=>by
    rw [aJ,Bool.and_eq_true] at h; exact gl h.1
  have e:aG (decide (s=[])) (.c (.bool true)) (.s 18) true (aG (aG (decide ((s.length:Int)=1)) (.s 12) (.c (.bool false)) (decide (97<=b0 s)) false) (.s 17) (.c (.bool false)) (decide (b0 s<=122)) false)=Cs s:=by
    rw [aI,aJ,aJ]; rfl
  refine ⟨trivial,?_⟩
  repeat' (first|apply And.intro|exact trivial|exact rfl)
  · exact fun hg=>gl hg.1
  · exact fun hg=>gl2 _ hg.1
def g134:List Nat:=[9,7,6,0,1,16,5,8,4]
def c134:aD :=
  .seq (.region g134 [(zo 4 (.move (.c (.int .i64 0))))]) (.seq (.seq (.region g134 [(zo 7 (.call (.c (.fn 166)) [])),(zo 8 (.move (.c (.int .i64 0))))]) (.block 0 (.loop 0 [9,10,11,6,5,12,13,14,15,16,17,4,18,8] (.seq (.region g134 [(zo 9 (.bin (.lss) (.s 8) (.c (.int .i64 28))))]) (.seq (.cond (.s 9) .skip (.exit 0)) (.seq (.block 1 (.seq (.region g134 [(zo 10 (.move (.s 8))),(zo 11 (.idxVal 28 2 true (.s 7) (.s 8))),(zo 6 (.alloc 171 zPt)),(zo 5 (.move (.s 10))),⟨none,none,.store 2 (.s 6) (.s 11),[]⟩]) (.seq (.region g134 [(zo 12 (.load 2 true (.s 6))),(zo 13 (.move (.s 0))),(zo 14 (.move (.s 1))),(zo 15 (.build zPt [(0,1,.s 13),(1,1,.s 14)])),(zo 16 (.eqS false [(0,1),(1,1)] (.s 12) (.s 15)))]) (.cond (.s 16) (.seq (.region g134 [(zo 17 (.move (.s 5))),(zo 4 (.move (.s 17)))]) .ret) .skip)))) (.region g134 [(zo 18 (.bin (.add) (.s 8) (.c (.int .i64 1)))),(zo 8 (.move (.s 18)))]))))))) (.seq (.region g134 [(zo 4 (.move (.c (.int .i64 (-1)))))]) .ret))
def r134:List aR:=[.slot 4]
def k134:List (Nat×Nat×aD×Nat):=[]
theorem e134:aK Tryz.prog 134 g134 [] [] k134=some (c134,r134,19):=by kernel_rfl
theorem q134:aF Tryz.prog k134:=aF.nil
def plB (num den:Int) (i:Nat):Bool:=decide (prt (2 * i)=num) && (decide (prt (2 * i+1)=den) && true)
def plV (num den:Int):Int:=bS (plB num den) 28
def J8:Eng.Spec where
  X:=Int×Int
  args:=fun x=>.cons (.int .i64 x.1) (.cons (.int .i64 x.2) .nil)
  pre:=fun _=>True
  res:=fun x=>.int .i64 (plV x.1 x.2)
  inst:=EV0.two M4 M4
theorem le_lo {k:Nat}:(-9223372036854775808:Int)<=(k:Int)+1:=by omega
theorem Uk {k:Nat} (h:k < 1000000):(k:Int)+1<=9223372036854775807:=by omega
theorem Up {k:Nat} (h:k < 28):28 - (k+1) < 28 - k:=by omega
theorem R9 {a b:Int} {k:Nat} (hf:orB (plB a b) k=false) (hk:k < 28) (hc:plB a b k=true):(k:Int)=plV a b:=(gJ hf hc hk).symm
theorem Ny {a b:Int} {k:Nat} (hf:orB (plB a b) k=false) (hc:plB a b k=false):orB (plB a b) (k+1)=false:=by
  simp only [orB]
  rw [hf,hc]
  rfl
set_option maxHeartbeats 8000000 in
theorem J9:J8.Ok Tryz.prog 134:=by
  refine Eng.Spec.okR e134 q134 (fun _=>[(166,.p lC)]) (fun _ _=>aA.p J1 aA.nil) ?_
  rintro ⟨a,b⟩ _
  refine ⟨trivial,?_⟩
  repeat' (first|apply And.intro|exact trivial|exact rfl)
  refine ⟨⟨Nat,fun k=>k<=28/\orB (plB a b) k=false,fun k=>[(8,.int .i64 (k:Int))],fun _=>[],fun k=>28 - k⟩,0,⟨Nat.zero_le _,rfl⟩,?_,?_⟩
  · repeat' (first|apply And.intro|exact trivial|exact rfl)
  rintro (k:Nat) ⟨(hk:k<=28),(hf:orB (plB a b) k=false)⟩
  by_cases hk2:k < 28
  · have:k=0\/k=1\/k=2\/k=3\/k=4\/k=5\/k=6\/k=7\/k=8\/k=9\/k=10\/k=11\/k=12\/k=13\/k=14\/k=15\/k=16\/k=17\/k=18\/k=19\/k=20\/k=21\/k=22\/k=23\/k=24\/k=25\/k=26\/k=27:=by omega
    rcases this with rfl|rfl|rfl|rfl|rfl|rfl|rfl|rfl|rfl|rfl|rfl|rfl|rfl|rfl|rfl|rfl|rfl|rfl|rfl|rfl|rfl|rfl|rfl|rfl|rfl|rfl|rfl|rfl
    all_goals repeat' (first|apply And.intro|exact trivial|exact rfl|exact fun (h:decide (((_:Nat):Int) < 28)=false)=>absurd h (by decide)|refine fun (_:decide (((_:Nat):Int) < 28)=true)=>?_)
    all_goals first
      | (refine fun (hc:(decide (_=a) && (decide (_=b) && true))=true)=>?_
         have e:=R9 hf (by decide) hc
         repeat' (first|apply And.intro|exact trivial|exact rfl|exact e))
      | (refine fun (hc:(decide (_=a) && (decide (_=b) && true))=false)=>?_
         have e:=Ny hf hc
         repeat' (first|apply And.intro|exact trivial|exact rfl|exact le_lo|exact Uk (by decide))
         refine Exists.intro _ (And.intro (And.intro ?_ e) ?_)
         repeat' (first|apply And.intro|exact trivial|exact rfl|exact Up (by decide)|decide))
  · obtain rfl:k=28:=by omega
    have e:-1=plV a b:=(dA hf).symm
    repeat' (first|apply And.intro|exact trivial|exact rfl|exact e)
    · exact fun (h:decide ((28:Int) < 28)=true)=>absurd h (by decide)
    refine fun _=>?_
    repeat' (first|apply And.intro|exact trivial|exact rfl|exact e)
def g95:List Nat:=[0,1,2]
def c95:aD :=
  .seq (.region g95 [(zo 1 (.box 25 (.s 0))),(zo 2 (.move (.c (.bool false))))]) (.seq (.region g95 [(zo 3 (.fldA 0 (.s 1))),(zo 4 (.load 1 false (.s 3))),(zo 5 (.bin (.geq) (.s 4) (.c (.int .i64 1)))),(zo 6 (.move (.s 5))),(zg 7 6 true (.fldA 0 (.s 1))),(zg 8 6 true (.load 1 false (.s 7))),(zg 9 6 true (.bin (.leq) (.s 8) (.c (.int .i64 9999)))),(zo 10 (.pick (.s 6) (.s 9) (.c (.bool false)))),(zo 11 (.move (.s 10))),(zg 12 11 true (.fldA 1 (.s 1))),(zg 13 11 true (.load 1 false (.s 12))),(zg 14 11 true (.call (.c (.fn 133)) [.s 13])),(zo 15 (.pick (.s 11) (.s 14) (.c (.bool false)))),(zo 16 (.move (.s 15))),(zg 17 16 true (.fldA 2 (.s 1))),(zg 18 16 true (.load 1 false (.s 17))),(zg 19 16 true (.fldA 3 (.s 1))),(zg 20 16 true (.load 1 false (.s 19))),(zg 21 16 true (.call (.c (.fn 134)) [.s 18,.s 20])),(zg 22 16 true (.bin (.geq) (.s 21) (.c (.int .i64 0)))),(zo 23 (.pick (.s 16) (.s 22) (.c (.bool false)))),(zo 2 (.move (.s 23)))]) .ret)
def r95:List aR:=[.slot 2]
def k95:List (Nat×Nat×aD×Nat):=[]
theorem e95:aK Tryz.prog 95 g95 [] [] k95=some (c95,r95,24):=by kernel_rfl
theorem q95:aF Tryz.prog k95:=aF.nil
def cE (h:Hn):Bool:=((decide (1<=h.n) && decide (h.n<=9999)) && Cs h.l) && decide (0<=plV h.num h.den)
def Hp:Eng.Spec where
  X:=Hn
  args:=fun h=>.cons (.agg (hnL h)) .nil
  pre:=fun _=>True
  res:=fun h=>.bool (cE h)
  inst:=EV0.one hnD
theorem uG:Hp.Ok Tryz.prog 95:=by
  refine Eng.Spec.okR e95 q95 (fun _=>[(133,.p Ul),(134,.p J8)]) (fun _ _=>aA.p Rf (aA.p J9 aA.nil)) ?_
  intro (h:Hn) _
  have e:aG (aG (aG (decide (1<=h.n)) (.s 9) (.c (.bool false)) (decide (h.n<=9999)) false) (.s 14) (.c (.bool false)) (Cs h.l) false) (.s 22) (.c (.bool false)) (decide (0<=plV h.num h.den)) false=cE h:=by
    rw [aJ,aJ,aJ]; rfl
  refine ⟨trivial,?_⟩
  repeat' (first|apply And.intro|exact trivial|exact rfl|refine fun (_:aH _ _ _ _)=>?_)
def g65:List Nat:=[0,7,16,1,4,2,3]
def c65:aD :=
  .seq (.region g65 [(zo 1 (.box 25 (.s 0))),(zo 2 (.move (.c (.str [])))),(zo 3 (.move (.c (.int .i64 0))))]) (.seq (.seq (.region g65 [(zo 5 (.load 4 true (.s 1))),(zo 6 (.call (.c (.fn 95)) [.s 5])),(zo 7 (.not (.s 6)))]) (.cond (.s 7) (.seq (.region g65 [(zo 2 (.move (.c (.str [])))),(zo 3 (.move (.c (.int .i64 1))))]) .ret) .skip)) (.seq (.drawn g65 (.pure 0 (zo 8 (.fldA 0 (.s 1))) (.pure 1 (zo 9 (.load 1 false (.s 8))) (.pure 2 (zo 10 (.call (.c (.fn 27)) [.s 9])) (.pure 3 (zo 11 (.fldA 1 (.s 1))) (.pure 4 (zo 12 (.load 1 false (.s 11))) (.pure 5 (zo 13 (.bin (.add) (.s 10) (.s 12))) (.pure 6 (zo 4 (.move (.s 13))) .done)))))))) (.seq (.seq (.region g65 [(zo 14 (.fldA 3 (.s 1))),(zo 15 (.load 1 false (.s 14))),(zo 16 (.bin (.gtr) (.s 15) (.c (.int .i64 0))))]) (.cond (.s 16) (.seq (.drawn [0,7,16,1,4,2,3,27] (.pure 0 (zo 17 (.move (.s 4))) (.pure 1 (zo 18 (.fldA 2 (.s 1))) (.pure 2 (zo 19 (.load 1 false (.s 18))) (.pure 3 (zo 20 (.call (.c (.fn 27)) [.s 19])) (.pure 4 (zo 21 (.bin (.add) (.c (.str [32])) (.s 20))) (.pure 5 (zo 22 (.bin (.add) (.s 21) (.c (.str [47])))) (.pure 6 (zo 23 (.fldA 3 (.s 1))) (.pure 7 (zo 24 (.load 1 false (.s 23))) (.pure 8 (zo 25 (.call (.c (.fn 27)) [.s 24])) (.pure 9 (zo 26 (.bin (.add) (.s 22) (.s 25))) (.pure 10 (zo 27 (.bin (.add) (.s 17) (.s 26))) .done)))))))))))) (.region g65 [(zo 4 (.move (.s 27)))])) .skip)) (.seq (.region g65 [(zo 28 (.move (.s 4))),(zo 2 (.move (.s 28))),(zo 3 (.move (.c (.int .i64 0))))]) .ret))))
def r65:List aR:=[.slot 2,.slot 3]
def k65:List (Nat×Nat×aD×Nat):=[]
theorem e65:aK Tryz.prog 65 g65 [] [] k65=some (c65,r65,29):=by kernel_rfl
theorem q65:aF Tryz.prog k65:=aF.nil
def dI (h:Hn):B:=if 0 < h.den then (Lib.itoa h.n++h.l)++((([32]++Lib.itoa h.num)++[47])++Lib.itoa h.den) else Lib.itoa h.n++h.l
def S3:Eng.Spec where
  X:=Hn
  args:=fun h=>.cons (.agg (hnL h)) .nil
  pre:=fun h=>okT h.l
  res:=fun h=>.tup (.cons (.str (if cE h=true then dI h else [])) (.cons (.int .i64 (if cE h=true then 0 else 1)) .nil))
  inst:=EV0.one hnD
theorem R8 {a b:Int} {k:Nat} (h:plB a b k=true) (hk:k < 28):(0<=a/\a<=9)/\(0<=b/\b<=9):=by
  unfold plB at h
  simp only [Bool.and_true,Bool.and_eq_true,decide_eq_true_eq] at h
  obtain ⟨rfl,rfl⟩:=h
  have:∀ i,i < 56->0<=prt i/\prt i<=9:=by decide
  exact ⟨this _ (by omega),this _ (by omega)⟩
theorem J5 {a b:Int} (h:0<=plV a b):(0<=a/\a<=9)/\(0<=b/\b<=9):=by
  have e:=kA (f:=plB a b) (n:=28)
  rw [show decide (0<=bS (plB a b) 28)=true from decide_eq_true h] at e
  obtain ⟨k,hk,hc⟩:=bK.1 e.symm
  exact R8 hc hk
theorem uF {h:Hn} (hv:cE h=true):((-9223372036854775808<=h.n/\h.n<=9223372036854775807)/\(-9223372036854775808<=h.num/\h.num<=9223372036854775807)/\(-9223372036854775808<=h.den/\h.den<=9223372036854775807))/\Cs h.l=true:=by
  unfold cE at hv
  simp only [Bool.and_eq_true,decide_eq_true_eq] at hv
  have:=J5 hv.2
  exact ⟨⟨by omega,by omega,by omega⟩,hv.1.2⟩
theorem Lb:S3.Ok Tryz.prog 65:=by
  refine Eng.Spec.okR e65 q65 (fun _=>[(95,.p Hp),(27,.p tA)]) (fun _ _=>aA.p uG (aA.p V2.itoa aA.nil)) ?_
  intro (h:Hn) (h0:okT h.l)
  refine ⟨trivial,?_⟩
  repeat' (first|apply And.intro|exact trivial|exact rfl)
  · refine fun (hc:(!cE h)=true)=>?_
    have hc:cE h=false:=by simpa using hc
    have e1:[]=(if cE h=true then dI h else []):=by rw [hc]; rfl
    have e2:(1:Int)=(if cE h=true then 0 else 1):=by rw [hc]; rfl
    repeat' (first|apply And.intro|exact trivial|exact rfl|exact e1|exact e2)
  · refine fun (hc:(!cE h)=false)=>?_
    have hc:cE h=true:=by simpa using hc
    have hb:=uF hc
    have e2:(0:Int)=(if cE h=true then 0 else 1):=by rw [hc]; rfl
    have l0:=Lib.itoa_length_le h.n hb.1.1.1 hb.1.1.2
    have l1:=Lib.itoa_length_le h.num hb.1.2.1.1 hb.1.2.1.2
    have l2:=Lib.itoa_length_le h.den hb.1.2.2.1 hb.1.2.2.2
    replace h0:h.l.length<=1000000:=h0
    have m0:(Lib.itoa h.n).length+h.l.length<=9223372036854775807:=by omega
    have m1:([32]:B).length+(Lib.itoa h.num).length<=9223372036854775807:=by show 1+_<=_; omega
    have m2:([32]++Lib.itoa h.num).length+([47]:B).length<=9223372036854775807:=by simp; omega
    have m3:(([32]++Lib.itoa h.num)++[47]).length+(Lib.itoa h.den).length<=9223372036854775807:=by simp; omega
    have m4:(Lib.itoa h.n++h.l).length+((([32]++Lib.itoa h.num)++[47])++Lib.itoa h.den).length<=9223372036854775807:=by simp; omega
    repeat' (first|apply And.intro|exact trivial|exact rfl)
    · exact hb.1.1.1
    · exact hb.1.1.2
    · exact m0
    · refine fun (hd:decide (0 < h.den)=true)=>?_
      have e1:(Lib.itoa h.n++h.l)++((([32]++Lib.itoa h.num)++[47])++Lib.itoa h.den)=(if cE h=true then dI h else []):=by rw [if_pos hc]; unfold dI; rw [if_pos (of_decide_eq_true hd)]
      repeat' (first|apply And.intro|exact trivial|exact rfl|exact e1|exact e2|exact hb.1.2.1.1|exact hb.1.2.1.2|exact hb.1.2.2.1|exact hb.1.2.2.2|exact m1|exact m2|exact m3|exact m4)
    · refine fun (hd:decide (0 < h.den)=false)=>?_
      have e1:Lib.itoa h.n++h.l=(if cE h=true then dI h else []):=by rw [if_pos hc]; unfold dI; rw [if_neg (of_decide_eq_false hd)]
      repeat' (first|apply And.intro|exact trivial|exact rfl|exact e1|exact e2)
end N1
