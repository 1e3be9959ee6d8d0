/- A part of the proof. -/
import Derived.Test.YtlfdokecdilkcaaGreatDoorSP
import Derived.Test.YtlfdokecdilkcaaGreatDoorF12
section
open Go Go.Eng Go.Proofs G1 G2 G3 G4 G6 G7 EV0 N1 N2 F1
set_option maxRecDepth 100000
namespace F16
theorem nq {P:Prop} {b:Bool} (e:b=false) (h:b=true):P:=by rw [e] at h; cases h
theorem nq_ {P:Prop} {b:Bool} (e:b=true) (h:b=false):P:=by rw [e] at h; cases h
def isQ (t:B):Bool:=decide (((t.getD 0 0).toNat:Int)=34)
def tq (t:B):B:=if isQ t=true then t.drop 1 else t
def stp (t:B):B:=if isQ t=true then [34] else [32]
def wrd (t:B):B:=(Lib.cut (tq t) (stp t)).1
def rst (t:B):B:=if isQ t=true then Lib.trimPrefix (Lib.cut (tq t) (stp t)).2.1 [32] else (Lib.cut (tq t) (stp t)).2.1
def pcs:Nat->B->List B
 | 0,_=>[]
 | m+1,t=>if t=[] then [] else wrd t::pcs m (rst t)
theorem lW {m:Nat} {t:B}:pcs (m+1) t=if t=[] then [] else wrd t::pcs m (rst t):=rfl
theorem Hk (s p:B):(Lib.trimPrefix s p).length<=s.length:=by
 unfold Lib.trimPrefix
 split
 ·simp
 ·exact Nat.le_refl _
theorem Ih {t s:B} (ht:t≠[]) (hs:s.length=1):(Lib.cut t s).2.1.length < t.length:=by
 have h1:=List.length_pos_iff.2 ht
 unfold Lib.cut
 split
 ·simp only [List.length_drop]; omega
 ·simpa using h1
theorem yB {t:B} (ht:t≠[]):(rst t).length < t.length:=by
 have h1:=List.length_pos_iff.2 ht
 unfold rst tq stp
 cases hq:isQ t with
 | false =>
  simp only [Bool.false_eq_true,if_false]
  exact Ih ht rfl
 | true =>
  simp only [if_true]
  have a:=Hk (Lib.cut (t.drop 1) [34]).2.1 [32]
  have b:=(N2.kP (t.drop 1) [34]).2
  rw [List.length_drop] at b
  omega
theorem E3:∀ {m:Nat} {t:B},(pcs m t).length<=t.length:=by
 intro m
 induction m with
 | zero=>intro t; exact Nat.zero_le _
 | succ m ih =>
  intro t
  rw [lW]
  split
  ·exact Nat.zero_le _
  ·have:=yB (by assumption)
   have:=ih (t:=rst t)
   rw [List.length_cons]
   omega
def pwV (t:B):List B:=pcs (t.length+1) t
def g38:List Nat:=[0,1,2]
def c38:aD :=
 .seq (.region g38 [(zo 1 (.box 9 (.s 0))),(zo 2 (.move (.c (.nilfn))))]) (.seq (.region g38 [(zo 3 (.mkfn 72 [.s 1])),(zo 2 (.move (.s 3)))]) .ret)
def r38:List aR:=[.slot 2]
def k38:List (Nat×Nat×aD×Nat):=[]
theorem e38:aK Tryz.prog 38 g38 [] [] k38=some (c38,r38,4):=by kernel_rfl
theorem q38:aF Tryz.prog k38:=aF.nil
def Vj:Eng.bJ where
 X:=B
 Y:=Unit
 args:=fun t=>.cons (.str t) .nil
 pre:=fun _=>True
 h0:=fun _=>[]
 nx0:=0
 post:=fun _ _=>True
 res:=fun _ _=>.fn 72 (.cons (.own 0 0) .nil)
 h1:=fun t _=>[(0,.cells 9 (.cons (.str t) .nil))]
 nx1:=1
theorem Sd:Vj.Ok Tryz.prog 38:=by
 refine Eng.bJ.okR e38 q38 (fun _=>[]) (fun _ _=>aA.nil) ?_
 rintro (t:B) _
 refine ⟨trivial,?_⟩
 repeat' (first|apply And.intro|exact trivial|exact rfl)
 refine Exists.intro () ?_
 repeat' (first|apply And.intro|exact trivial|exact rfl)
def g72:List Nat:=[8,11,3,22,0,4,28,5,1]
def c72:aD :=
 .block 0 (.loop 0 [7,8,9,10,11,12,13,3,15,16,17,14,18,19,20,4,6,21,22,23,24,5,25,26,27,28,29] (.seq (.seq (.region g72 [(zo 7 (.load 1 false (.s 1))),(zo 8 (.bin (.neq) (.s 7) (.c (.str []))))]) (.cond (.s 8) .skip (.exit 0))) (.block 1 (.seq (.region g72 [(zo 3 (.move (.c (.str [32]))))]) (.seq (.seq (.region g72 [(zo 9 (.load 1 false (.s 1))),(zo 10 (.idxStr (.s 9) (.c (.int .i64 0)))),(zo 11 (.bin (.eql) (.s 10) (.c (.int (.u8) 34))))]) (.cond (.s 11) (.drawn g72 (.pure 0 (zo 12 (.load 1 false (.s 1))) (.pure 1 (zo 13 (.sliceStr (.s 12) (some (.c (.int .i64 1))) none)) (.pure 2 (zo 3 (.move (.c (.str [34])))) (.eff 3 ⟨none,none,.store 1 (.s 1) (.s 13),[]⟩ [] .done .none))))) .skip)) (.seq (.region g72 [(zo 15 (.load 1 false (.s 1))),(zo 16 (.move (.s 3))),(zo 17 (.call (.c (.fn 73)) [.s 15,.s 16])),(zo 14 (.move (.s 17))),(zo 18 (.extract 0 (.s 14))),(zo 19 (.extract 1 (.s 14))),(zo 20 (.extract 2 (.s 14))),(zo 4 (.move (.s 18))),(zo 5 (.move (.s 19))),(zo 6 (.move (.s 20)))]) (.seq (.seq (.region g72 [(zo 21 (.move (.s 3))),(zo 22 (.bin (.eql) (.s 21) (.c (.str [34]))))]) (.cond (.s 22) (.region g72 [(zo 23 (.move (.s 5))),(zo 24 (.call (.c (.fn 74)) [.s 23,.c (.str [32])])),(zo 5 (.move (.s 24)))]) .skip)) (.seq (.seq (.region g72 [(zo 25 (.move (.s 0))),(zo 26 (.move (.s 4))),(zo 27 (.call (.s 25) [.s 26])),(zo 28 (.not (.s 27)))]) (.cond (.s 28) .ret .skip)) (.region g72 [(zo 29 (.move (.s 5))),⟨none,none,.store 1 (.s 1) (.s 29),[]⟩])))))))))
def r72:List aR:=[]
def k72:List (Nat×Nat×aD×Nat):=[]
theorem e72:aK Tryz.prog 72 g72 [] [] k72=some (c72,r72,30):=by kernel_rfl
theorem q72:aF Tryz.prog k72:=aF.nil
def g71:List Nat:=[0,1,6,7,5,2,4]
def c71:aD :=
 .seq (.region g71 [(zo 2 (.box 22 (.s 0))),(zo 4 (.move (.c (.nilsl))))]) (.seq (.seq (.region g71 [(zo 6 (.move (.s 1)))]) (.block 0 (.range 0 (.s 6) 72 (c72) 30 [7] (.region g71 [(zo 5 (.move (.s 7)))]) (.block 1 (.region g71 [(zo 8 (.load 1 false (.s 2))),(zo 9 (.move (.s 5))),(zo 10 (.buildSl 9 1 1 (.cons (.str []) .nil) [(0,1,.s 9)])),(zo 11 (.app 9 1 16 (.s 8) (.s 10))),⟨none,none,.store 1 (.s 2) (.s 11),[]⟩]))))) (.seq (.region g71 [(zo 12 (.load 1 false (.s 2))),(zo 4 (.move (.s 12)))]) .ret))
def r71:List aR:=[.slot 4]
def k71:List (Nat×Nat×aD×Nat):=[(0,72,c72,30)]
theorem e71:aK Tryz.prog 71 g71 [] [] k71=some (c71,r71,13):=by kernel_rfl
theorem q71:aF Tryz.prog k71:=aF.cons (aF.nil) q72 e72
def Tg:Eng.bJ where
 X:=B
 Y:=Unit
 args:=fun _=>.cons .nilsl (.cons (.fn 72 (.cons (.own 0 0) .nil)) .nil)
 pre:=okT
 h0:=fun t=>[(0,.cells 9 (.cons (.str t) .nil))]
 nx0:=1
 post:=fun _ _=>True
 res:=fun t _=>.slice 1 (pwV t).length fun i=>stL ((pwV t).getD i [])
 h1:=fun _ _=>[]
 nx1:=1
theorem Pz:Tg.Ok Tryz.prog 71:=by
 refine Eng.bJ.okR e71 q71 (fun _=>[(73,.p Bu),(74,.p gW)]) (fun _ _=>aA.p V2.cut (aA.p V2.trimPrefix aA.nil)) ?_
 rintro (t0:B) (h0:t0.length<=1000000)
 refine ⟨trivial,?_⟩
 repeat' (first|apply And.intro|exact trivial|exact rfl)
 refine ⟨⟨Nat×B×List B,fun x=>x.2.1.length < x.1/\x.2.1.length<=1000000/\x.2.2++pcs x.1 x.2.1=pwV t0,fun _=>[],fun x=>[(0,.cells 9 (.cons (.str x.2.1) .nil)),(1,.cells 22 (.cons (.lsl 40 1 x.2.2.length) .nil)),(40,.arr 9 1 x.2.2.length fun j=>stL (x.2.2.getD j []))],fun x=>x.1⟩,(t0.length+1,t0,[]),?_,?_,?_⟩
 ·exact ⟨Nat.lt_succ_self _,h0,rfl⟩
 ·repeat' (first|apply And.intro|exact trivial|exact rfl)
 rintro ⟨m,t,ws⟩ ⟨(k1:t.length < m),(k2:t.length<=1000000),(k3:ws++pcs m t=pwV t0)⟩
 obtain ⟨m,rfl⟩:∃ q,m=q+1:=⟨m - 1,by omega⟩
 rw [lW] at k3
 have k4:ws.length<=1000000:=by
  have:(pwV t0).length<=t0.length:=E3
  rw [<- k3,List.length_append] at this
  omega
 repeat' (first|apply And.intro|exact trivial|exact rfl)
 ·refine fun (hc:(!decide (t=[]))=true)=>?_
  have hne:t≠[]:=by simpa using hc
  rw [if_neg hne] at k3
  have hpos:=List.length_pos_iff.2 hne
  have hr:=yB hne
  have hlt:(rst t).length < m:=by omega
  have hle:(rst t).length<=1000000:=by omega
  have k5:(ws++[wrd t])++pcs m (rst t)=pwV t0:=by rw [<- k3,List.append_assoc]; rfl
  have z0:(0:Int) < (t.length:Int):=by omega
  have z1:(1:Int)<=(t.length:Int):=by omega
  have zz:(0:Int)<=0:=Int.le_refl 0
  have z2:(0:Int)<=1:=by decide
  have m1:ws.length+1<=9223372036854775807:=by omega
  have m2:(ws.length+1) * 16<=140737488355328:=by omega
  have e4:ws.length+1=(ws++[wrd t]).length:=by rw [List.length_append]; rfl
  repeat' (first|apply And.intro|exact trivial|exact rfl|exact z0|exact zz)
  ·refine fun (hq:isQ t=true)=>?_
   have e1:tq t=t.drop 1:=by unfold tq; rw [hq]; rfl
   have e2:wrd t=(Lib.cut (t.drop 1) [34]).1:=by unfold wrd tq stp; rw [hq]; rfl
   have e3:rst t=Lib.trimPrefix (Lib.cut (t.drop 1) [34]).2.1 [32]:=by unfold rst tq stp; rw [hq]; rfl
   have c1:(t.drop 1).length<=1000000:=by rw [List.length_drop]; omega
   repeat' (first|apply And.intro|exact trivial|exact rfl|exact z0|exact z1|exact z2|exact c1|exact fun (h:(!true)=true)=>Bool.noConfusion h|(refine fun (_:(!true)=false)=>?_)|exact fun (h:decide (([_]:B)=[_])=true)=>nq rfl h|exact fun (h:decide (([_]:B)=[_])=false)=>nq_ rfl h|refine fun (_:decide (([_]:B)=[_])=true)=>?_|refine fun (_:decide (([_]:B)=[_])=false)=>?_)
   ·exact m1
   ·exact m2
   refine Exists.intro (m,rst t,ws++[wrd t]) (And.intro (And.intro hlt (And.intro hle k5)) ?_)
   repeat' (first|apply And.intro|exact trivial|exact rfl|exact e3.symm|exact e4)
   ·exact fun (j:Nat) (hj:j < ws.length+1)=>EL.aY (EL.xH (g:=stL) (d:=[]) (L:=ws) (q:=wrd t) (N:=ws++[wrd t]) (congrArg stL e2.symm) rfl rfl hj) (fD ..)
   ·exact Nat.lt_succ_self m
  ·refine fun (hq:isQ t=false)=>?_
   have e1:tq t=t:=by unfold tq; rw [hq]; rfl
   have e2:wrd t=(Lib.cut (t) [32]).1:=by unfold wrd tq stp; rw [hq]; rfl
   have e3:rst t=(Lib.cut t [32]).2.1:=by unfold rst tq stp; rw [hq]; rfl
   have c1:(t).length<=1000000:=by exact k2
   repeat' (first|apply And.intro|exact trivial|exact rfl|exact z0|exact z1|exact z2|exact c1|exact fun (h:(!true)=true)=>Bool.noConfusion h|(refine fun (_:(!true)=false)=>?_)|exact fun (h:decide (([_]:B)=[_])=true)=>nq rfl h|exact fun (h:decide (([_]:B)=[_])=false)=>nq_ rfl h|refine fun (_:decide (([_]:B)=[_])=true)=>?_|refine fun (_:decide (([_]:B)=[_])=false)=>?_)
   ·exact m1
   ·exact m2
   refine Exists.intro (m,rst t,ws++[wrd t]) (And.intro (And.intro hlt (And.intro hle k5)) ?_)
   repeat' (first|apply And.intro|exact trivial|exact rfl|exact e3.symm|exact e4)
   ·exact fun (j:Nat) (hj:j < ws.length+1)=>EL.aY (EL.xH (g:=stL) (d:=[]) (L:=ws) (q:=wrd t) (N:=ws++[wrd t]) (congrArg stL e2.symm) rfl rfl hj) (fD ..)
   ·exact Nat.lt_succ_self m
 ·refine fun (hc:(!decide (t=[]))=false)=>?_
  have he:t=[]:=by simpa using hc
  rw [if_pos he,List.append_nil] at k3
  have e1:ws.length=(pwV t0).length:=by rw [k3]
  repeat' (first|apply And.intro|exact trivial|exact rfl)
  refine Exists.intro () ?_
  repeat' (first|apply And.intro|exact trivial|exact rfl|exact e1)
  ·exact Nat.le_of_eq (Nat.zero_add _)
  ·exact fun (j:Nat) (_:j < ws.length)=>EL.aY ((congrArg (fun j=>stL (ws.getD j [])) (Nat.zero_add j)).trans (by rw [k3])) (fD _ _ _ _)
def g37:List Nat:=[0,2]
def c37:aD :=
 .seq (.region g37 [(zo 2 (.move (.c (.nilsl))))]) (.seq (.region g37 [(zo 3 (.move (.s 0))),(zo 4 (.call (.c (.fn 71)) [.c (.nilsl),.s 3])),(zo 2 (.move (.s 4)))]) .ret)
def r37:List aR:=[.slot 2]
def k37:List (Nat×Nat×aD×Nat):=[]
theorem e37:aK Tryz.prog 37 g37 [] [] k37=some (c37,r37,5):=by kernel_rfl
theorem q37:aF Tryz.prog k37:=aF.nil
def Tp:Eng.bJ where
 X:=B
 Y:=Unit
 args:=fun _=>.cons (.fn 72 (.cons (.own 0 0) .nil)) .nil
 pre:=okT
 h0:=fun t=>[(0,.cells 9 (.cons (.str t) .nil))]
 nx0:=1
 post:=fun _ _=>True
 res:=fun t _=>.slice 1 (pwV t).length fun i=>stL ((pwV t).getD i [])
 h1:=fun _ _=>[]
 nx1:=1
 fresh:=false
theorem Qa:Tp.Ok Tryz.prog 37:=by
 refine Eng.bJ.okR e37 q37 (fun _=>[(71,.m Tg)]) (fun _ _=>aA.m Pz aA.nil) ?_
 rintro (t:B) (h0:t.length<=1000000)
 refine ⟨trivial,?_⟩
 repeat' (first|apply And.intro|exact trivial|exact rfl)
 refine Exists.intro t (Exists.intro [0] ?_)
 repeat' (first|exact h0|apply And.intro|exact trivial|exact rfl)
 refine fun (_:Unit) (_:True)=>?_
 repeat' (first|apply And.intro|exact trivial|exact rfl)
 refine Exists.intro () ?_
 repeat' (first|apply And.intro|exact trivial|exact rfl|exact lz fun _=>rfl)
end F16
end
section
open Go Go.Eng Go.Proofs G1 G2 G3 G4 G6 G7 EV0 N1 N2 F1 F16
set_option maxRecDepth 100000
namespace F17
def adv (s:Sq B) (j:Nat):Sq B:=⟨s.n - j,fun i=>s.f (j+i)⟩
def hdW (s:Sq B):B:=if 0 < s.n then s.f 0 else []
theorem xA {s:Sq B} (h:okS s okT):okT (hdW s):=by
 unfold hdW
 split
 ·exact h.2 0 (by assumption)
 ·exact Nat.zero_le _
theorem bF {s:Sq B} {j:Nat} (h:okS s okT):okS (adv s j) okT:=by
 refine ⟨?_,fun i hi=>h.2 _ ?_⟩
 ·have:=h.1
  show s.n - j<=1000000
  omega
 ·have:i < s.n - j:=hi
  omega
def g75:List Nat:=[0,2]
def c75:aD :=
 .seq (.region g75 [(zo 2 (.move (.c (.bool false))))]) (.seq (.region g75 [(zo 3 (.move (.s 0))),(zo 4 (.nilCheck (.s 3))),(zo 5 (.fldA 0 (.s 4))),(zo 6 (.load 1 false (.s 5))),(zo 7 (.lenSl (.s 6))),(zo 8 (.bin (.gtr) (.s 7) (.c (.int .i64 0)))),(zo 2 (.move (.s 8)))]) .ret)
def r75:List aR:=[.slot 2]
def k75:List (Nat×Nat×aD×Nat):=[]
theorem e75:aK Tryz.prog 75 g75 [] [] k75=some (c75,r75,9):=by kernel_rfl
theorem q75:aF Tryz.prog k75:=aF.nil
def Re:Eng.Spec where
 X:=Sq B
 args:=fun s=>.cons (.cptr (.cons (stE s) .nil)) .nil
 pre:=fun _=>True
 res:=fun s=>.bool (decide ((0:Int) < (s.n:Int)))
 inst:=fun
  | .cons (.cptr (.cons a _)) _=>stD a
  | _=>none
theorem Jn:Re.Ok Tryz.prog 75:=by
 refine Eng.Spec.okR e75 q75 (fun _=>[]) (fun _ _=>aA.nil) ?_
 rintro (s:Sq B) _
 refine ⟨trivial,?_⟩
 repeat' (first|apply And.intro|exact trivial|exact rfl)
def g40:List Nat:=[6,0,3,2]
def c40:aD :=
 .seq (.region g40 [(zo 2 (.move (.c (.str []))))]) (.seq (.seq (.region g40 [(zo 4 (.move (.s 0))),(zo 5 (.call (.c (.fn 75)) [.s 4])),(zo 6 (.not (.s 5)))]) (.cond (.s 6) (.seq (.region g40 [(zo 2 (.move (.c (.str []))))]) .ret) .skip)) (.seq (.region g40 [(zo 7 (.move (.s 0))),(zo 8 (.nilCheck (.s 7))),(zo 9 (.fldA 0 (.s 8))),(zo 10 (.load 1 false (.s 9))),(zo 11 (.idxSl 1 (.s 10) (.c (.int .i64 0)))),(zo 12 (.load 1 false (.s 11))),(zo 3 (.move (.s 12)))]) (.seq (.region g40 [(zo 13 (.move (.s 0))),(zo 14 (.move (.s 0))),(zo 15 (.nilCheck (.s 14))),(zo 16 (.fldA 0 (.s 15))),(zo 17 (.load 1 false (.s 16))),(zo 18 (.sliceSl 1 (.s 17) (some (.c (.int .i64 1))) none)),(zo 19 (.nilCheck (.s 13))),(zo 20 (.fldA 0 (.s 19))),⟨none,none,.store 1 (.s 20) (.s 18),[]⟩]) (.seq (.region g40 [(zo 21 (.move (.s 3))),(zo 2 (.move (.s 21)))]) .ret))))
def r40:List aR:=[.slot 2]
def k40:List (Nat×Nat×aD×Nat):=[]
theorem e40:aK Tryz.prog 40 g40 [] [] k40=some (c40,r40,22):=by kernel_rfl
theorem q40:aF Tryz.prog k40:=aF.nil
def Hq:Eng.bJ where
 X:=Sq B
 Y:=Sq B
 args:=fun _=>.cons (.own 0 0) .nil
 pre:=fun s=>okS s okT
 h0:=fun s=>[(0,.cells 69 (.cons (stE s) .nil))]
 nx0:=1
 post:=fun s y=>y=adv s 1
 res:=fun s _=>.str (hdW s)
 h1:=fun _ y=>[(0,.cells 69 (.cons (stE y) .nil))]
 nx1:=1
 fresh:=false
theorem uI:Hq.Ok Tryz.prog 40:=by
 refine Eng.bJ.okR e40 q40 (fun _=>[(75,.p Re)]) (fun _ _=>aA.p Jn aA.nil) ?_
 rintro (s:Sq B) (h0:okS s okT)
 refine ⟨trivial,?_⟩
 repeat' (first|apply And.intro|exact trivial|exact rfl|exact lz fun _=>rfl)
 ·refine fun (hc:(!decide ((0:Int) < (s.n:Int)))=true)=>?_
  have hn:s.n=0:=by simp at hc; omega
  have e:[]=hdW s:=by unfold hdW; rw [if_neg (by omega)]
  have en:s.n=(adv s 1).n:=by show s.n=s.n - 1; omega
  repeat' (first|apply And.intro|exact trivial|exact rfl)
  refine Exists.intro (adv s 1) (And.intro rfl ?_)
  repeat' (first|apply And.intro|exact trivial|exact rfl|exact e|exact en)
  ·exact fun (j:Nat) (hj:j < s.n)=>absurd hj (by omega)
 ·refine fun (hc:(!decide ((0:Int) < (s.n:Int)))=false)=>?_
  have hn:0 < s.n:=by simp at hc; omega
  have e:s.f 0=hdW s:=by unfold hdW; rw [if_pos hn]
  have z0:(0:Int)<=0:=Int.le_refl 0
  have z1:(0:Int) < (s.n:Int):=by omega
  have z2:(1:Int)<=(s.n:Int):=by omega
  have z3:(0:Int)<=1:=by decide
  repeat' (first|apply And.intro|exact trivial|exact rfl|exact z0|exact z1|exact z3|exact z2)
  refine Exists.intro (adv s 1) (And.intro rfl ?_)
  repeat' (first|apply And.intro|exact trivial|exact rfl|exact e|exact lz fun _=>rfl)
def g76:List Nat:=[0,3,2]
def c76:aD :=
 .seq (.region g76 [(zo 2 (.move (.c (.int .i64 0))))]) (.seq (.region g76 [(zo 6 (.move (.s 0))),(zo 7 (.call (.c (.fn 40)) [.s 6])),(zo 8 (.call (.c (.fn 120)) [.s 7])),(zo 5 (.move (.s 8))),(zo 9 (.extract 0 (.s 5))),(zo 10 (.extract 1 (.s 5))),(zo 3 (.move (.s 9))),(zo 4 (.move (.s 10)))]) (.seq (.region g76 [(zo 11 (.move (.s 3))),(zo 2 (.move (.s 11)))]) .ret))
def r76:List aR:=[.slot 2]
def k76:List (Nat×Nat×aD×Nat):=[]
theorem e76:aK Tryz.prog 76 g76 [] [] k76=some (c76,r76,12):=by kernel_rfl
theorem q76:aF Tryz.prog k76:=aF.nil
def Vb:Eng.bJ where
 X:=Sq B
 Y:=Sq B
 args:=fun _=>.cons (.own 0 0) .nil
 pre:=fun s=>okS s okT
 h0:=fun s=>[(0,.cells 69 (.cons (stE s) .nil))]
 nx0:=1
 post:=fun s y=>y=adv s 1
 res:=fun s _=>.int .i64 (aM (hdW s))
 h1:=fun _ y=>[(0,.cells 69 (.cons (stE y) .nil))]
 nx1:=1
 fresh:=false
theorem R3:Vb.Ok Tryz.prog 76:=by
 refine Eng.bJ.okR e76 q76 (fun _=>[(40,.m Hq),(120,.p fF)]) (fun _ _=>aA.m uI (aA.p V2.atoi aA.nil)) ?_
 rintro (s:Sq B) (h0:okS s okT)
 have hw:okT (hdW s):=xA h0

 refine ⟨trivial,?_⟩
 repeat' (first|apply And.intro|exact trivial|exact rfl)
 refine Exists.intro s (Exists.intro [0] ?_)
 refine And.intro h0 ?_
 repeat' (first|apply And.intro|exact trivial|exact rfl|exact lz fun _=>rfl)
 refine fun (y:Sq B) (hy:y=adv s 1)=>?_
 repeat' (first|apply And.intro|exact trivial|exact rfl|exact hw)
 refine Exists.intro y (And.intro hy ?_)
 repeat' (first|apply And.intro|exact trivial|exact rfl|exact lz fun _=>rfl)
def g77:List Nat:=[0,3,2]
def c77:aD :=
 .seq (.region g77 [(zo 2 (.alloc 25 zHn))]) (.seq (.region g77 [(zo 6 (.move (.s 0))),(zo 7 (.call (.c (.fn 40)) [.s 6])),(zo 8 (.call (.c (.fn 121)) [.s 7])),(zo 5 (.move (.s 8))),(zo 9 (.extract 0 (.s 5))),(zo 10 (.extract 1 (.s 5))),(zo 3 (.alloc 25 zHn)),⟨none,none,.store 4 (.s 3) (.s 9),[]⟩,(zo 4 (.move (.s 10)))]) (.seq (.region g77 [(zo 11 (.load 4 true (.s 3))),⟨none,none,.store 4 (.s 2) (.s 11),[]⟩]) .ret))
def r77:List aR:=[.cell 2 4 true]
def k77:List (Nat×Nat×aD×Nat):=[]
theorem e77:aK Tryz.prog 77 g77 [] [] k77=some (c77,r77,12):=by kernel_rfl
theorem q77:aF Tryz.prog k77:=aF.nil
def Vm:Eng.bJ where
 X:=Sq B
 Y:=Sq B
 args:=fun _=>.cons (.own 0 0) .nil
 pre:=fun s=>okS s okT
 h0:=fun s=>[(0,.cells 69 (.cons (stE s) .nil))]
 nx0:=1
 post:=fun s y=>y=adv s 1
 res:=fun s _=>.agg (hnL (cH (hdW s)))
 h1:=fun _ y=>[(0,.cells 69 (.cons (stE y) .nil))]
 nx1:=1
 fresh:=false
theorem Sj:Vm.Ok Tryz.prog 77:=by
 refine Eng.bJ.okR e77 q77 (fun _=>[(40,.m Hq),(121,.p Vg)]) (fun _ _=>aA.m uI (aA.p Sc aA.nil)) ?_
 rintro (s:Sq B) (h0:okS s okT)
 have hw:okT (hdW s):=xA h0

 refine ⟨trivial,?_⟩
 repeat' (first|apply And.intro|exact trivial|exact rfl)
 refine Exists.intro s (Exists.intro [0] ?_)
 refine And.intro h0 ?_
 repeat' (first|apply And.intro|exact trivial|exact rfl|exact lz fun _=>rfl)
 refine fun (y:Sq B) (hy:y=adv s 1)=>?_
 repeat' (first|apply And.intro|exact trivial|exact rfl|exact hw)
 refine Exists.intro y (And.intro hy ?_)
 repeat' (first|apply And.intro|exact trivial|exact rfl|exact lz fun _=>rfl)
def ptP (w:B):Pt:=(aM (Lib.cut w [44]).1,aM (Lib.cut w [44]).2.1)
def g78:List Nat:=[0,3,4,6,2]
def c78:aD :=
 .seq (.region g78 [(zo 2 (.alloc 27 zPt))]) (.seq (.region g78 [(zo 8 (.move (.s 0))),(zo 9 (.call (.c (.fn 40)) [.s 8])),(zo 10 (.call (.c (.fn 73)) [.s 9,.c (.str [44])])),(zo 7 (.move (.s 10))),(zo 11 (.extract 0 (.s 7))),(zo 12 (.extract 1 (.s 7))),(zo 13 (.extract 2 (.s 7))),(zo 3 (.move (.s 11))),(zo 4 (.move (.s 12))),(zo 5 (.move (.s 13)))]) (.seq (.region g78 [(zo 6 (.alloc 27 zPt))]) (.seq (.region g78 [(zo 15 (.move (.s 3))),(zo 16 (.call (.c (.fn 120)) [.s 15])),(zo 14 (.move (.s 16))),(zo 17 (.extract 0 (.s 14))),(zo 18 (.extract 1 (.s 14))),(zo 19 (.fldA 0 (.s 6))),⟨none,none,.store 1 (.s 19) (.s 17),[]⟩]) (.seq (.region g78 [(zo 21 (.move (.s 4))),(zo 22 (.call (.c (.fn 120)) [.s 21])),(zo 20 (.move (.s 22))),(zo 23 (.extract 0 (.s 20))),(zo 24 (.extract 1 (.s 20))),(zo 25 (.fldA 1 (.s 6))),⟨none,none,.store 1 (.s 25) (.s 23),[]⟩]) (.seq (.region g78 [(zo 26 (.load 2 true (.s 6))),⟨none,none,.store 2 (.s 2) (.s 26),[]⟩]) .ret)))))
def r78:List aR:=[.cell 2 2 true]
def k78:List (Nat×Nat×aD×Nat):=[]
theorem e78:aK Tryz.prog 78 g78 [] [] k78=some (c78,r78,27):=by kernel_rfl
theorem q78:aF Tryz.prog k78:=aF.nil
def Vn:Eng.bJ where
 X:=Sq B
 Y:=Sq B
 args:=fun _=>.cons (.own 0 0) .nil
 pre:=fun s=>okS s okT
 h0:=fun s=>[(0,.cells 69 (.cons (stE s) .nil))]
 nx0:=1
 post:=fun s y=>y=adv s 1
 res:=fun s _=>ptE (ptP (hdW s))
 h1:=fun _ y=>[(0,.cells 69 (.cons (stE y) .nil))]
 nx1:=1
 fresh:=false
theorem Sk:Vn.Ok Tryz.prog 78:=by
 refine Eng.bJ.okR e78 q78 (fun _=>[(40,.m Hq),(73,.p Bu),(120,.p fF)]) (fun _ _=>aA.m uI (aA.p V2.cut (aA.p V2.atoi aA.nil))) ?_
 rintro (s:Sq B) (h0:okS s okT)
 have hw:okT (hdW s):=xA h0
 have hc1:(Lib.cut (hdW s) [44]).1.length<=1000000:=by { have:=(kP (hdW s) [44]).1; have:(hdW s).length<=1000000:=hw; omega }; have hc2:(Lib.cut (hdW s) [44]).2.1.length<=1000000:=by { have:=(kP (hdW s) [44]).2; have:(hdW s).length<=1000000:=hw; omega }
 refine ⟨trivial,?_⟩
 repeat' (first|apply And.intro|exact trivial|exact rfl)
 refine Exists.intro s (Exists.intro [0] ?_)
 refine And.intro h0 ?_
 repeat' (first|apply And.intro|exact trivial|exact rfl|exact lz fun _=>rfl)
 refine fun (y:Sq B) (hy:y=adv s 1)=>?_
 repeat' (first|apply And.intro|exact trivial|exact rfl|exact hw|exact hc1|exact hc2)
 refine Exists.intro y (And.intro hy ?_)
 repeat' (first|apply And.intro|exact trivial|exact rfl|exact lz fun _=>rfl)
def g39:List Nat:=[7,9,1,0,16,5,8,4]
def c39:aD :=
 .seq (.region g39 [(zo 4 (.move (.c (.int .i64 0))))]) (.seq (.seq (.region g39 [(zo 6 (.move (.s 0))),(zo 7 (.lenSl (.s 6))),(zo 8 (.move (.c (.int .i64 0))))]) (.block 0 (.loop 0 [9,10,5,11,12,13,14,15,16,17,4,18,8] (.seq (.region g39 [(zo 9 (.bin (.lss) (.s 8) (.s 7)))]) (.seq (.cond (.s 9) .skip (.exit 0)) (.seq (.block 1 (.seq (.region g39 [(zo 10 (.move (.s 8))),(zo 5 (.move (.s 10)))]) (.seq (.region g39 [(zo 11 (.move (.s 1))),(zo 12 (.move (.s 0))),(zo 13 (.move (.s 5))),(zo 14 (.idxSl 1 (.s 12) (.s 13))),(zo 15 (.load 1 false (.s 14))),(zo 16 (.bin (.eql) (.s 11) (.s 15)))]) (.cond (.s 16) (.seq (.region g39 [(zo 17 (.move (.s 5))),(zo 4 (.move (.s 17)))]) .ret) .skip)))) (.region g39 [(zo 18 (.bin (.add) (.s 8) (.c (.int .i64 1)))),(zo 8 (.move (.s 18)))]))))))) (.seq (.region g39 [(zo 4 (.move (.c (.int .i64 (-1)))))]) .ret))
def r39:List aR:=[.slot 4]
def k39:List (Nat×Nat×aD×Nat):=[]
theorem e39:aK Tryz.prog 39 g39 [] [] k39=some (c39,r39,19):=by kernel_rfl
theorem q39:aF Tryz.prog k39:=aF.nil
def ixV (r:Sq B) (v:B):Int:=bS (fun i=>decide (v=r.f i)) r.n
def ixS:Eng.Spec where
 X:=Sq B×B
 args:=fun x=>.cons (stE x.1) (.cons (.str x.2) .nil)
 pre:=fun x=>x.1.n<=1000000
 res:=fun x=>.int .i64 (ixV x.1 x.2)
 inst:=EV0.two stD yK
theorem Ug:ixS.Ok Tryz.prog 39:=by
 refine Eng.Spec.okR e39 q39 (fun _=>[]) (fun _ _=>aA.nil) ?_
 rintro ⟨r,v⟩ (hn:r.n<=1000000)
 refine ⟨trivial,?_⟩
 repeat' (first|apply And.intro|exact trivial|exact rfl|exact lz fun _=>rfl)
 refine ⟨⟨Nat,fun i=>i<=r.n/\orB (fun i=>decide (v=r.f i)) i=false,fun i=>[(8,.int .i64 (i:Int))],fun _=>[],fun i=>r.n - i⟩,0,⟨Nat.zero_le _,rfl⟩,?_,?_⟩
 ·repeat' (first|apply And.intro|exact trivial|exact rfl|exact lz fun _=>rfl)
 rintro (i:Nat) ⟨(hi:i<=r.n),(hf:orB (fun i=>decide (v=r.f i)) i=false)⟩
 repeat' (first|apply And.intro|exact trivial|exact rfl|exact lz fun _=>rfl)
 ·refine fun (h:decide ((i:Int) < (r.n:Int))=true)=>?_
  have hi1:(i:Int) < (r.n:Int):=of_decide_eq_true h
  have hil:i < r.n:=by omega
  have hi0:(0:Int)<=(i:Int):=by omega
  have b1:-9223372036854775808<=(i:Int)+1:=by omega
  have b2:(i:Int)+1<=9223372036854775807:=by omega
  repeat' (first|with_reducible exact hi1|with_reducible exact hi0|apply And.intro|exact trivial|exact rfl)
  ·refine fun (hc:decide (v=r.f i)=true)=>?_
   have e:(i:Int)=ixV r v:=(gJ hf hc hil).symm
   repeat' (first|exact e|apply And.intro|exact trivial|exact rfl)
  ·refine fun (hc:decide (v=r.f i)=false)=>?_
   have hf1:orB (fun i=>decide (v=r.f i)) (i+1)=false:=by
    simp only [orB]
    rw [hf]
    exact hc
   repeat' (first|with_reducible exact b1|with_reducible exact b2|apply And.intro|exact trivial|exact rfl)
   refine Exists.intro (i+1) ?_
   refine And.intro (And.intro hil hf1) ?_
   repeat' (first|apply And.intro|exact trivial|exact rfl|exact lz fun _=>rfl)
   show r.n - (i+1) < r.n - i
   omega
 ·refine fun (h:decide ((i:Int) < (r.n:Int))=false)=>?_
  have hi1:¬ (i:Int) < (r.n:Int):=of_decide_eq_false h
  have e:i=r.n:=by omega
  have ef:-1=ixV r v:=by unfold ixV; rw [<- e,dA hf]
  repeat' (first|exact ef|apply And.intro|exact trivial|exact rfl)
end F17
end
section
open Go Go.Eng Go.Proofs G1 G2 G3 G4 G6 G7 EV0 N1 N2 F1 F7 F9 F16 F17
set_option maxRecDepth 100000
namespace F18
theorem Ky {T:Type} {s t:Sq T} (h1:s.n=t.n) (h2:∀ i,s.f i=t.f i):s=t:=by
 obtain ⟨n,f⟩:=s
 obtain ⟨m,g⟩:=t
 obtain rfl:n=m:=h1
 obtain rfl:f=g:=funext h2
 rfl
theorem bL {s:Sq B} {i j:Nat}:adv (adv s i) j=adv s (i+j):=by
 refine Ky ?_ fun k=>?_
 ·show s.n - i - j=s.n - (i+j)
  omega
 ·show s.f (i+(j+k))=s.f (i+j+k)
  rw [Nat.add_assoc]
theorem adv0 {s:Sq B}:adv s 0=s:=by
 refine Ky rfl fun k=>?_
 show s.f (0+k)=_
 rw [Nat.zero_add]
def w (s:Sq B) (j:Nat):B:=hdW (adv s j)
def j0 (k:Int):Nat:=if k=1\/k=4\/k=13\/k=14 then 3 else if k=6 then 6 else if k=7\/k=10\/k=15 then 4 else 2
def aW (k:Int) (s:Sq B):Ev where
 kind:=k
 day:=aM (w s 0)
 a:=if k=1 then aM (w s 2) else if k=13\/k=14 then aM (w s 1) else 0
 b:=if k=13\/k=14 then aM (w s 2) else 0
 off:=if k=15 then aM (w s 2) else 0
 id:=if k=13\/k=14 then [] else w s 1
 oth:=if k=4\/k=6\/k=7 then w s 2 else []
 txt:=if k=6\/k=7\/k=15 then w s 3 else []
 ids:=⟨if k=10 then s.n - 4 else 0,fun i=>w s (4+i)⟩
 names:=⟨if k=3 then (s.n - 2+2) / 3 else 0,fun i=>⟨w s (2+3 * i),aM (w s (2+3 * i+1)),w s (2+3 * i+2)⟩⟩
 num:=if k=6 then cH (w s 4) else if k=10 then cH (w s 2) else ⟨0,[],0,0⟩
 pt:=if k=6 then ptP (w s 5) else if k=10 then ptP (w s 3) else (0,0)
 path:=⟨if k=3\/k=8\/k=9\/k=10 then 0 else s.n - j0 k,fun i=>ptP (w s (j0 k+i))⟩
 list:=⟨if k=8 then (s.n - 2+1) / 2 else if k=9 then (s.n - 2+2) / 3 else 0,
  fun i=>if k=8 then ⟨w s (2+2 * i),cH (w s (2+2 * i+1)),(0,0)⟩ else ⟨w s (2+3 * i),cH (w s (2+3 * i+1)),ptP (w s (2+3 * i+2))⟩⟩
def ev0 (k:Int):SV:=.agg (.cons (.int .i64 k) (.cons (.int .i64 0) (.cons (.int .i64 0) (.cons (.int .i64 0) (.cons (.int .i64 0) (.cons (.str []) (.cons (.str []) (.cons (.str []) (.cons .nilsl (.cons .nilsl (.cons (.int .i64 0) (.cons (.str []) (.cons (.int .i64 0) (.cons (.int .i64 0) (.cons (.int .i64 0) (.cons (.int .i64 0) (.cons .nilsl (.cons .nilsl .nil))))))))))))))))))
def Bq (e:Ev) (a b c d:SV):SV:=.cons (.int .i64 e.kind) (.cons (.int .i64 e.day) (.cons (.int .i64 e.a) (.cons (.int .i64 e.b) (.cons (.int .i64 e.off)
 (.cons (.str e.id) (.cons (.str e.oth) (.cons (.str e.txt) (.cons a (.cons b (hnC e.num (.cons (.int .i64 e.pt.1) (.cons (.int .i64 e.pt.2) (.cons c (.cons d .nil))))))))))))))
def B6:Eng.bJ where
 X:=Int×Sq B
 Y:=Unit
 args:=fun x=>.cons (.own 0 0) (.cons (ev0 x.1) .nil)
 pre:=fun x=>(0<=x.1/\x.1<=15)/\okS x.2 okT
 h0:=fun x=>[(0,.cells 69 (.cons (stE x.2) .nil))]
 nx0:=1
 post:=fun _ _=>True
 res:=fun x _=>evE (aW x.1 x.2)
 h1:=fun _ _=>[]
 nx1:=1
 fresh:=false
def g41:List Nat:=[1,15,21,26,31,45,53,61,20,70,79,89,103,115,81,129,0,3,4]
def c41:aD :=
 .seq (.region g41 [(zo 3 (.box 31 (.s 1))),(zo 4 (.alloc 31 zEv))]) (.seq (.region g41 [(zo 5 (.move (.s 0))),(zo 6 (.call (.c (.fn 76)) [.s 5])),(zo 7 (.fldA 1 (.s 3))),⟨none,none,.store 1 (.s 7) (.s 6),[]⟩]) (.seq (.seq (.region g41 [(zo 8 (.fldA 0 (.s 3))),(zo 9 (.load 1 false (.s 8))),(zo 10 (.bin (.neq) (.s 9) (.c (.int .i64 13)))),(zo 11 (.move (.s 10))),(zg 12 11 true (.fldA 0 (.s 3))),(zg 13 11 true (.load 1 false (.s 12))),(zg 14 11 true (.bin (.neq) (.s 13) (.c (.int .i64 14)))),(zo 15 (.pick (.s 11) (.s 14) (.c (.bool false))))]) (.join 0 [16,17,18] (.cond (.s 15) (.region g41 [(zo 16 (.move (.s 0))),(zo 17 (.call (.c (.fn 40)) [.s 16])),(zo 18 (.fldA 5 (.s 3))),⟨none,none,.store 1 (.s 18) (.s 17),[]⟩]) .skip))) (.seq (.seq (.region g41 [(zo 19 (.fldA 0 (.s 3))),(zo 20 (.load 1 false (.s 19)))]) (.block 0 (.seq (.region g41 [(zo 22 (.bin (.eql) (.s 20) (.c (.int .i64 1)))),(zo 21 (.move (.s 22)))]) (.join 1 [23,24,25,27,26,28,29,30,32,31,33,34,35,36,37,38,39,40,41,42,43,44,46,45,47,48,49,50,51,52,54,53,55,56,57,58,59,60,62,63,61,64,65,66,67,68,69,71,70,72,73,74,75,76,77] (.cond (.s 21) (.region g41 [(zo 23 (.move (.s 0))),(zo 24 (.call (.c (.fn 76)) [.s 23])),(zo 25 (.fldA 2 (.s 3))),⟨none,none,.store 1 (.s 25) (.s 24),[]⟩]) (.seq (.region g41 [(zo 27 (.bin (.eql) (.s 20) (.c (.int .i64 4)))),(zo 26 (.move (.s 27)))]) (.cond (.s 26) (.region g41 [(zo 28 (.move (.s 0))),(zo 29 (.call (.c (.fn 40)) [.s 28])),(zo 30 (.fldA 6 (.s 3))),⟨none,none,.store 1 (.s 30) (.s 29),[]⟩]) (.seq (.region g41 [(zo 32 (.bin (.eql) (.s 20) (.c (.int .i64 6)))),(zo 31 (.move (.s 32)))]) (.cond (.s 31) (.region g41 [(zo 33 (.move (.s 0))),(zo 34 (.call (.c (.fn 40)) [.s 33])),(zo 35 (.move (.s 0))),(zo 36 (.call (.c (.fn 40)) [.s 35])),(zo 37 (.move (.s 0))),(zo 38 (.call (.c (.fn 77)) [.s 37])),(zo 39 (.move (.s 0))),(zo 40 (.call (.c (.fn 78)) [.s 39])),(zo 41 (.fldA 6 (.s 3))),⟨none,none,.store 1 (.s 41) (.s 34),[]⟩,(zo 42 (.fldA 7 (.s 3))),⟨none,none,.store 1 (.s 42) (.s 36),[]⟩,(zo 43 (.fldA 10 (.s 3))),⟨none,none,.store 4 (.s 43) (.s 38),[]⟩,(zo 44 (.fldA 14 (.s 3))),⟨none,none,.store 2 (.s 44) (.s 40),[]⟩]) (.seq (.region g41 [(zo 46 (.bin (.eql) (.s 20) (.c (.int .i64 7)))),(zo 45 (.move (.s 46)))]) (.cond (.s 45) (.region g41 [(zo 47 (.move (.s 0))),(zo 48 (.call (.c (.fn 40)) [.s 47])),(zo 49 (.move (.s 0))),(zo 50 (.call (.c (.fn 40)) [.s 49])),(zo 51 (.fldA 6 (.s 3))),⟨none,none,.store 1 (.s 51) (.s 48),[]⟩,(zo 52 (.fldA 7 (.s 3))),⟨none,none,.store 1 (.s 52) (.s 50),[]⟩]) (.seq (.region g41 [(zo 54 (.bin (.eql) (.s 20) (.c (.int .i64 10)))),(zo 53 (.move (.s 54)))]) (.cond (.s 53) (.region g41 [(zo 55 (.move (.s 0))),(zo 56 (.call (.c (.fn 77)) [.s 55])),(zo 57 (.move (.s 0))),(zo 58 (.call (.c (.fn 78)) [.s 57])),(zo 59 (.fldA 10 (.s 3))),⟨none,none,.store 4 (.s 59) (.s 56),[]⟩,(zo 60 (.fldA 14 (.s 3))),⟨none,none,.store 2 (.s 60) (.s 58),[]⟩]) (.seq (.seq (.region g41 [(zo 62 (.bin (.eql) (.s 20) (.c (.int .i64 13)))),(zo 61 (.move (.s 62)))]) (.cond (.s 61) .skip (.region g41 [(zo 63 (.bin (.eql) (.s 20) (.c (.int .i64 14)))),(zo 61 (.move (.s 63)))]))) (.cond (.s 61) (.region g41 [(zo 64 (.move (.s 0))),(zo 65 (.call (.c (.fn 76)) [.s 64])),(zo 66 (.move (.s 0))),(zo 67 (.call (.c (.fn 76)) [.s 66])),(zo 68 (.fldA 2 (.s 3))),⟨none,none,.store 1 (.s 68) (.s 65),[]⟩,(zo 69 (.fldA 3 (.s 3))),⟨none,none,.store 1 (.s 69) (.s 67),[]⟩]) (.seq (.region g41 [(zo 71 (.bin (.eql) (.s 20) (.c (.int .i64 15)))),(zo 70 (.move (.s 71)))]) (.cond (.s 70) (.region g41 [(zo 72 (.move (.s 0))),(zo 73 (.call (.c (.fn 76)) [.s 72])),(zo 74 (.move (.s 0))),(zo 75 (.call (.c (.fn 40)) [.s 74])),(zo 76 (.fldA 4 (.s 3))),⟨none,none,.store 1 (.s 76) (.s 73),[]⟩,(zo 77 (.fldA 7 (.s 3))),⟨none,none,.store 1 (.s 77) (.s 75),[]⟩]) .skip))))))))))))))))) (.seq (.block 1 (.loop 2 [78,79,80,81,90,89,91,92,93,94,95,96,97,98,99,100,101,102,104,103,105,106,107,108,109,110,111,112,113,114,116,115,117,118,119,120,121,122,123,124,125,126,127,128,130,129,131,132,133,134,135,136,137,82,83,84,85,86,87,88] (.seq (.seq (.region g41 [(zo 78 (.move (.s 0))),(zo 79 (.call (.c (.fn 75)) [.s 78]))]) (.cond (.s 79) .skip (.exit 1))) (.block 2 (.seq (.region g41 [(zo 80 (.fldA 0 (.s 3))),(zo 81 (.load 1 false (.s 80)))]) (.block 3 (.seq (.region g41 [(zo 90 (.bin (.eql) (.s 81) (.c (.int .i64 3)))),(zo 89 (.move (.s 90)))]) (.cond (.s 89) (.drawn g41 (.pure 0 (zo 91 (.fldA 9 (.s 3))) (.pure 1 (zo 92 (.load 1 false (.s 91))) (.pure 2 (zo 93 (.move (.s 0))) (.pure 4 (zo 95 (.move (.s 0))) (.pure 6 (zo 97 (.move (.s 0))) (.eff 3 (zo 94 (.call (.c (.fn 40)) [.s 93])) [(zo 92 (.load 1 false (.s 91)))] (.eff 5 (zo 96 (.call (.c (.fn 76)) [.s 95])) [(zo 92 (.load 1 false (.s 91)))] (.eff 7 (zo 98 (.call (.c (.fn 40)) [.s 97])) [(zo 92 (.load 1 false (.s 91)))] (.pure 8 (zo 99 (.build (.cons (.str []) (.cons (.int .i64 0) (.cons (.str []) .nil))) [(0,1,.s 94),(1,1,.s 96),(2,1,.s 98)])) (.pure 9 (zo 100 (.buildSl 45 3 1 (.cons (.str []) (.cons (.int .i64 0) (.cons (.str []) .nil))) [(0,3,.s 99)])) (.eff 10 (zo 101 (.app 45 3 40 (.s 92) (.s 100))) [] (.pure 11 (zo 102 (.fldA 9 (.s 3))) (.eff 12 ⟨none,none,.store 1 (.s 102) (.s 101),[]⟩ [] .done .none)) .none))) .none) .none) .none))))))) (.seq (.region g41 [(zo 104 (.bin (.eql) (.s 81) (.c (.int .i64 8)))),(zo 103 (.move (.s 104)))]) (.cond (.s 103) (.drawn g41 (.pure 0 (zo 105 (.fldA 17 (.s 3))) (.pure 1 (zo 106 (.load 1 false (.s 105))) (.pure 2 (zo 107 (.move (.s 0))) (.pure 4 (zo 109 (.move (.s 0))) (.eff 3 (zo 108 (.call (.c (.fn 40)) [.s 107])) [(zo 106 (.load 1 false (.s 105)))] (.eff 5 (zo 110 (.call (.c (.fn 77)) [.s 109])) [(zo 106 (.load 1 false (.s 105)))] (.pure 6 (zo 111 (.build zEn [(0,1,.s 108),(1,4,.s 110)])) (.pure 7 (zo 112 (.buildSl 47 7 1 zEn [(0,7,.s 111)])) (.eff 8 (zo 113 (.app 47 7 72 (.s 106) (.s 112))) [] (.pure 9 (zo 114 (.fldA 17 (.s 3))) (.eff 10 ⟨none,none,.store 1 (.s 114) (.s 113),[]⟩ [] .done .none)) .none))) .none) .none)))))) (.seq (.region g41 [(zo 116 (.bin (.eql) (.s 81) (.c (.int .i64 9)))),(zo 115 (.move (.s 116)))]) (.cond (.s 115) (.drawn g41 (.pure 0 (zo 117 (.fldA 17 (.s 3))) (.pure 1 (zo 118 (.load 1 false (.s 117))) (.pure 2 (zo 119 (.move (.s 0))) (.pure 4 (zo 121 (.move (.s 0))) (.pure 6 (zo 123 (.move (.s 0))) (.eff 3 (zo 120 (.call (.c (.fn 40)) [.s 119])) [(zo 118 (.load 1 false (.s 117)))] (.eff 5 (zo 122 (.call (.c (.fn 77)) [.s 121])) [(zo 118 (.load 1 false (.s 117)))] (.eff 7 (zo 124 (.call (.c (.fn 78)) [.s 123])) [(zo 118 (.load 1 false (.s 117)))] (.pure 8 (zo 125 (.build zEn [(0,1,.s 120),(1,4,.s 122),(5,2,.s 124)])) (.pure 9 (zo 126 (.buildSl 47 7 1 zEn [(0,7,.s 125)])) (.eff 10 (zo 127 (.app 47 7 72 (.s 118) (.s 126))) [] (.pure 11 (zo 128 (.fldA 17 (.s 3))) (.eff 12 ⟨none,none,.store 1 (.s 128) (.s 127),[]⟩ [] .done .none)) .none))) .none) .none) .none))))))) (.seq (.region g41 [(zo 130 (.bin (.eql) (.s 81) (.c (.int .i64 10)))),(zo 129 (.move (.s 130)))]) (.cond (.s 129) (.drawn g41 (.pure 0 (zo 131 (.fldA 8 (.s 3))) (.pure 1 (zo 132 (.load 1 false (.s 131))) (.pure 2 (zo 133 (.move (.s 0))) (.eff 3 (zo 134 (.call (.c (.fn 40)) [.s 133])) [(zo 132 (.load 1 false (.s 131)))] (.pure 4 (zo 135 (.buildSl 9 1 1 (.cons (.str []) .nil) [(0,1,.s 134)])) (.eff 5 (zo 136 (.app 9 1 16 (.s 132) (.s 135))) [] (.pure 6 (zo 137 (.fldA 8 (.s 3))) (.eff 7 ⟨none,none,.store 1 (.s 137) (.s 136),[]⟩ [] .done .none)) .none)) .none))))) (.drawn g41 (.pure 0 (zo 82 (.fldA 16 (.s 3))) (.pure 1 (zo 83 (.load 1 false (.s 82))) (.pure 2 (zo 84 (.move (.s 0))) (.eff 3 (zo 85 (.call (.c (.fn 78)) [.s 84])) [(zo 83 (.load 1 false (.s 82)))] (.pure 4 (zo 86 (.buildSl 27 2 1 zPt [(0,2,.s 85)])) (.eff 5 (zo 87 (.app 27 2 16 (.s 83) (.s 86))) [] (.pure 6 (zo 88 (.fldA 16 (.s 3))) (.eff 7 ⟨none,none,.store 1 (.s 88) (.s 87),[]⟩ [] .done .none)) .none)) .none))))))))))))))))))) (.seq (.region g41 [(zo 138 (.load 18 true (.s 3))),⟨none,none,.store 18 (.s 4) (.s 138),[]⟩]) .ret)))))
def r41:List aR:=[.cell 4 18 true]
def k41:List (Nat×Nat×aD×Nat):=[]
theorem e41:aK Tryz.prog 41 g41 [0,1] [94,96,98,108,110,120,122,124,134,85] k41=some (c41,r41,139):=by kernel_rfl
theorem q41:aF Tryz.prog k41:=aF.nil
def tab41:List (Nat×cK):=[(40,.m Hq),(75,.p Re),(76,.m Vb),(77,.m Vm),(78,.m Vn)]
theorem K5:aA Tryz.prog tab41:=aA.m uI (aA.p Jn (aA.m R3 (aA.m Sj (aA.m Sk aA.nil))))
end F18
end
