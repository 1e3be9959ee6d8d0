/- A part of the proof. -/
import Derived.Test.YtlfdokecdilkcaaGreatDoorSP
section
open Go Go.Eng Go.Proofs G1 G2 G3 G4 G6 G7 EV0 N1 N2 F1 F2
set_option maxRecDepth 100000
namespace F3
def g92:List Nat:=[0,2]
def c92:aD :=
 .seq (.region g92 [(zo 2 (.move (.c (.bool false))))]) (.seq (.region g92 [(zo 3 (.move (.s 0))),(zo 4 (.call (.c (.fn 130)) [.s 3])),(zo 5 (.move (.s 4))),(zg 6 5 true (.move (.s 0))),(zg 7 5 true (.call (.c (.fn 131)) [.s 6,.c (.fn 132)])),(zg 8 5 true (.not (.s 7))),(zo 9 (.pick (.s 5) (.s 8) (.c (.bool false)))),(zo 2 (.move (.s 9)))]) .ret)
def r92:List aR:=[.slot 2]
def k92:List (Nat×Nat×aD×Nat):=[]
theorem e92:aK Tryz.prog 92 g92 [] [] k92=some (c92,r92,10):=by kernel_rfl
theorem q92:aF Tryz.prog k92:=aF.nil
def jS (r:Sq B):Bool:=jZ (fun i=>kS (r.f i)) r.n && !orB (fun i=>nS (r.f i)) r.n
def Cg:Eng.Spec where
 X:=Sq B
 args:=fun r=>.cons (stE r) .nil
 pre:=fun r=>okS r okT
 res:=fun r=>.bool (jS r)
 inst:=EV0.one stD
theorem lR:Cg.Ok Tryz.prog 92:=by
 refine Eng.Spec.okR e92 q92 (fun _=>[(130,.p dSS),(131,.p U7)]) (fun _ _=>aA.p Tu (aA.p Rz aA.nil)) ?_
 rintro (r:Sq B) ⟨(hn:r.n<=1000000),hel⟩
 have e:aG (jZ (fun i=>kS (r.f i)) r.n) (.s 8) (.c (.bool false)) (!orB (fun i=>nS (r.f i)) r.n) false=jS r:=by rw [aJ]; rfl
 refine ⟨trivial,?_⟩
 repeat' (first|apply And.intro|exact trivial|exact rfl|exact lz fun _=>rfl|exact hn|exact hel|(refine fun (_:aH _ _ _ _)=>?_)|exact e)
def g84:List Nat:=[0,1,4]
def c84:aD :=
 .seq (.region g84 [(zo 4 (.move (.c (.bool false))))]) (.seq (.region g84 [(zo 5 (.move (.s 0))),(zo 6 (.call (.c (.fn 47)) [.s 5,.c (.int .i64 0),.c (.int .i64 63)])),(zo 7 (.move (.s 6))),(zg 8 7 true (.move (.s 1))),(zg 9 7 true (.call (.c (.fn 47)) [.s 8,.c (.int .i64 0),.c (.int .i64 63)])),(zo 10 (.pick (.s 7) (.s 9) (.c (.bool false)))),(zo 11 (.move (.s 10))),(zg 12 11 true (.move (.s 0))),(zg 13 11 true (.move (.s 1))),(zg 14 11 true (.bin (.neq) (.s 12) (.s 13))),(zo 15 (.pick (.s 11) (.s 14) (.c (.bool false)))),(zo 4 (.move (.s 15)))]) .ret)
def r84:List aR:=[.slot 4]
def k84:List (Nat×Nat×aD×Nat):=[]
theorem e84:aK Tryz.prog 84 g84 [] [] k84=some (c84,r84,16):=by kernel_rfl
theorem q84:aF Tryz.prog k84:=aF.nil
def H8 (a b:Int):Bool:=(cJ a 0 63 && cJ b 0 63) && !decide (a=b)
def Th:Eng.Spec where
 X:=Int×Int
 args:=fun x=>.cons (.int .i64 x.1) (.cons (.int .i64 x.2) .nil)
 pre:=fun _=>True
 res:=fun x=>.bool (H8 x.1 x.2)
 inst:=EV0.two M4 M4
theorem P3:Th.Ok Tryz.prog 84:=by
 refine Eng.Spec.okR e84 q84 (fun _=>[(47,.p yQ)]) (fun _ _=>aA.p mB aA.nil) ?_
 rintro ⟨a,b⟩ _
 have e:aG (aG (cJ a 0 63) (.s 9) (.c (.bool false)) (cJ b 0 63) false) (.s 14) (.c (.bool false)) (!decide (a=b)) false=H8 a b:=by rw [aJ,aJ]; rfl
 refine ⟨trivial,?_⟩
 repeat' (first|apply And.intro|exact trivial|exact rfl|(refine fun (_:aH _ _ _ _)=>?_)|exact e)
def g128:List Nat:=[0,2]
def c128:aD :=
 .seq (.region g128 [(zo 2 (.move (.c (.bool false))))]) (.seq (.region g128 [(zo 3 (.move (.s 0))),(zo 4 (.lenStr (.s 3))),(zo 5 (.bin (.leq) (.s 4) (.c (.int .i64 60)))),(zo 6 (.move (.s 5))),(zg 7 6 true (.move (.s 0))),(zg 8 6 true (.call (.c (.fn 163)) [.s 7,.c (.str [32])])),(zg 9 6 true (.call (.c (.fn 131)) [.s 8,.c (.fn 164)])),(zg 10 6 true (.not (.s 9))),(zo 11 (.pick (.s 6) (.s 10) (.c (.bool false)))),(zo 2 (.move (.s 11)))]) .ret)
def r128:List aR:=[.slot 2]
def k128:List (Nat×Nat×aD×Nat):=[]
theorem e128:aK Tryz.prog 128 g128 [] [] k128=some (c128,r128,12):=by kernel_rfl
theorem q128:aF Tryz.prog k128:=aF.nil
def wsV (s:B):Sq B:=⟨(Lib.split s [32]).length,fun i=>(Lib.split s [32]).getD i []⟩
def Ck (s:B):Bool:=decide ((s.length:Int)<=60) && !orB (fun i=>oX ((wsV s).f i)) (wsV s).n
def Ue:Eng.Spec where
 X:=B
 args:=fun x=>.cons (.str x) .nil
 pre:=okT
 res:=fun x=>.bool (Ck x)
 inst:=EV0.one yK
theorem Ra:Ue.Ok Tryz.prog 128:=by
 refine Eng.Spec.okR e128 q128 (fun _=>[(163,.p tZ),(131,.p U9)]) (fun _ _=>aA.p V2.split (aA.p R2 aA.nil)) ?_
 rintro (s:B) (h0:s.length<=1000000)
 have e:aG (decide ((s.length:Int)<=60)) (.s 10) (.c (.bool false)) (!orB (fun i=>oX ((wsV s).f i)) (wsV s).n) false=Ck s:=by rw [aJ]; rfl
 refine ⟨trivial,?_⟩
 have hw:((s.length:Int)<=60)->(wsV s).n<=1000000/\∀ i,i < (wsV s).n->okT ((wsV s).f i):=fun hl=>by
  have h1:=SP.Of 32 s
  unfold wsV
  rw [SP.uA]
  refine ⟨by show (SP.spl 32 s).length<=1000000; omega,fun i hi=>?_⟩
  replace hi:i < (SP.spl 32 s).length:=hi
  show ((SP.spl 32 s).getD i []).length<=1000000
  rw [List.getD_eq_getElem?_getD,List.getElem?_eq_getElem hi]
  have:=h1.2 _ (List.getElem_mem hi)
  simp only [Option.getD_some]
  omega
 refine And.intro (fun _=>And.intro h0 ?_) ?_
 ·repeat' (first|apply And.intro|exact trivial|exact rfl)
 refine And.intro (fun (hg:decide ((s.length:Int)<=60)=true)=>And.intro (hw (of_decide_eq_true hg)) ?_) ?_
 all_goals repeat' (first|apply And.intro|exact trivial|exact rfl|exact lz fun _=>rfl|exact e)
def g88:List Nat:=[6,8,5,4,3,27,7,0,2]
def c88:aD :=
 .seq (.region g88 [(zo 2 (.move (.c (.bool false))))]) (.seq (.seq (.region g88 [(zo 5 (.move (.s 0))),(zo 6 (.lenSl (.s 5))),(zo 7 (.move (.c (.int .i64 0))))]) (.block 0 (.loop 0 [8,9,10,11,4,3,12,13,14,15,16,17,18,19,20,21,22,23,24,25,26,27,2,28,7] (.seq (.region g88 [(zo 8 (.bin (.lss) (.s 7) (.s 6)))]) (.seq (.cond (.s 8) .skip (.exit 0)) (.seq (.block 1 (.seq (.region g88 [(zo 9 (.move (.s 7))),(zo 10 (.idxSl 2 (.s 5) (.s 7))),(zo 11 (.load 2 true (.s 10))),(zo 4 (.alloc 27 zPt)),(zo 3 (.move (.s 9))),⟨none,none,.store 2 (.s 4) (.s 11),[]⟩]) (.seq (.drawn g88 (.pure 0 (zo 12 (.load 2 true (.s 4))) (.pure 1 (zo 13 (.call (.c (.fn 23)) [.s 12])) (.pure 2 (zo 14 (.not (.s 13))) (.pure 3 (zo 15 (.move (.s 14))) (.pure 4 (zg 16 15 false (.move (.s 3))) (.pure 5 (zg 17 15 false (.bin (.gtr) (.s 16) (.c (.int .i64 0)))) (.pure 6 (zg 18 15 false (.move (.s 17))) (.pure 7 (zg 19 18 true (.load 2 true (.s 4))) (.pure 8 (zg 20 18 true (.move (.s 0))) (.pure 9 (zg 21 18 true (.move (.s 3))) (.pure 10 (zg 22 18 true (.bin (.sub) (.s 21) (.c (.int .i64 1)))) (.pure 11 (zg 23 18 true (.idxSl 2 (.s 20) (.s 22))) (.pure 12 (zg 24 18 true (.load 2 true (.s 23))) (.pure 13 (zg 25 18 true (.eqS false [(0,1),(1,1)] (.s 19) (.s 24))) (.pure 14 (zg 26 15 false (.pick (.s 18) (.s 25) (.c (.bool false)))) (.pure 15 (zo 27 (.pick (.s 15) (.c (.bool true)) (.s 26))) .done))))))))))))))))) (.cond (.s 27) (.seq (.region g88 [(zo 2 (.move (.c (.bool false))))]) .ret) .skip)))) (.region g88 [(zo 28 (.bin (.add) (.s 7) (.c (.int .i64 1)))),(zo 7 (.move (.s 28)))]))))))) (.seq (.region g88 [(zo 29 (.move (.s 0))),(zo 30 (.lenSl (.s 29))),(zo 31 (.bin (.geq) (.s 30) (.c (.int .i64 2)))),(zo 32 (.move (.s 31))),(zg 33 32 true (.move (.s 0))),(zg 34 32 true (.lenSl (.s 33))),(zg 35 32 true (.bin (.leq) (.s 34) (.c (.int .i64 40)))),(zo 36 (.pick (.s 32) (.s 35) (.c (.bool false)))),(zo 2 (.move (.s 36)))]) .ret))
def r88:List aR:=[.slot 2]
def k88:List (Nat×Nat×aD×Nat):=[]
theorem e88:aK Tryz.prog 88 g88 [] [] k88=some (c88,r88,37):=by kernel_rfl
theorem q88:aF Tryz.prog k88:=aF.nil
def uL (r:Pts) (i:Nat):Bool:=!onB (r.p i) || (decide ((0:Int) < (i:Int)) && (decide ((r.p i).1=(r.p ((i:Int) - 1).toNat).1) && (decide ((r.p i).2=(r.p ((i:Int) - 1).toNat).2) && true)))
def tE (r:Pts):Bool:=!orB (uL r) r.n && (decide ((r.n:Int)>=2) && decide ((r.n:Int)<=40))
def Um:Eng.Spec where
 X:=Pts
 args:=fun r=>.cons (rgE r) .nil
 pre:=fun r=>r.n<=1000000
 res:=fun r=>.bool (tE r)
 inst:=EV0.one tT
theorem tF:Um.Ok Tryz.prog 88:=by
 refine Eng.Spec.okR e88 q88 (fun _=>[(23,.p On)]) (fun _ _=>aA.p uX aA.nil) ?_
 rintro (r:Pts) (hn:r.n<=1000000)
 refine ⟨trivial,?_⟩
 repeat' (first|apply And.intro|exact trivial|exact rfl)
 refine ⟨⟨Nat,fun i=>i<=r.n/\orB (uL r) i=false,fun i=>[(7,.int .i64 (i:Int))],fun _=>[],fun i=>r.n - i⟩,0,⟨Nat.zero_le _,rfl⟩,?_,?_⟩
 ·repeat' (first|apply And.intro|exact trivial|exact rfl|exact lz fun _=>rfl)
 rintro (i:Nat) ⟨(hi:i<=r.n),(hf:orB (uL r) i=false)⟩
 repeat' (first|apply And.intro|exact trivial|exact rfl|exact lz fun _=>rfl)
 ·refine fun (h:decide ((i:Int) < (r.n:Int))=true)=>?_
  have hi1:(i:Int) < (r.n:Int):=of_decide_eq_true h
  have hil:i < r.n:=by omega
  have hi0:(0:Int)<=(i:Int):=by omega
  have b1:-9223372036854775808<=(i:Int)+1:=by omega
  have b2:(i:Int)+1<=9223372036854775807:=by omega
  repeat' (first|with_reducible exact hi1|with_reducible exact hi0|apply And.intro|exact trivial|exact rfl)
  ·exact fun hg=>by constructor <;> omega
  ·exact fun hg=>by have:=of_decide_eq_true hg.1; constructor <;> omega
  ·refine fun (hc:aG (!onB (r.p i)) (.c (.bool true)) (.s 26) true (aG (decide ((0:Int) < (i:Int))) (.s 25) (.c (.bool false)) (decide ((r.p i).1=(r.p ((i:Int) - 1).toNat).1) && (decide ((r.p i).2=(r.p ((i:Int) - 1).toNat).2) && true)) false)=true)=>?_
   rw [aI,aJ] at hc
   have e:false=tE r:=by
    unfold tE
    rw [bK.2 ⟨i,hil,hc⟩]
    rfl
   repeat' (first|exact e|apply And.intro|exact trivial|exact rfl)
  ·refine fun (hc:aG (!onB (r.p i)) (.c (.bool true)) (.s 26) true (aG (decide ((0:Int) < (i:Int))) (.s 25) (.c (.bool false)) (decide ((r.p i).1=(r.p ((i:Int) - 1).toNat).1) && (decide ((r.p i).2=(r.p ((i:Int) - 1).toNat).2) && true)) false)=false)=>?_
   rw [aI,aJ] at hc
   have hf1:orB (uL r) (i+1)=false:=by
    simp only [orB]
    rw [hf]
    exact hc
   repeat' (first|with_reducible exact b1|with_reducible exact b2|apply And.intro|exact trivial|exact rfl)
   refine Exists.intro (i+1) ?_
   refine And.intro (And.intro hil hf1) ?_
   repeat' (first|apply And.intro|exact trivial|exact rfl|exact lz fun _=>rfl)
   show r.n - (i+1) < r.n - i
   omega
 ·refine fun (h:decide ((i:Int) < (r.n:Int))=false)=>?_
  have hi1:¬ (i:Int) < (r.n:Int):=of_decide_eq_false h
  obtain rfl:i=r.n:=by omega
  have e:aG (decide ((2:Int)<=(r.n:Int))) (.s 35) (.c (.bool false)) (decide ((r.n:Int)<=40)) false=tE r:=by rw [aJ]; unfold tE; rw [hf]; rfl
  repeat' (first|exact e|apply And.intro|exact trivial|exact rfl)
end F3
end
section
open Go Go.Eng Go.Proofs G1 G2 G3 G4 G6 G7 EV0 N1 N2 F1 F2 F3
set_option maxRecDepth 100000
namespace F4
def g90:List Nat:=[7,9,6,27,5,8,0,3,2]
def c90:aD :=
 .seq (.region g90 [(zo 2 (.move (.c (.bool false))))]) (.seq (.region g90 [(zo 3 (.move (.c (.nilsl))))]) (.seq (.seq (.region g90 [(zo 6 (.move (.s 0))),(zo 7 (.lenSl (.s 6))),(zo 8 (.move (.c (.int .i64 0))))]) (.block 0 (.loop 0 [9,10,11,5,12,13,14,15,16,17,18,19,20,21,22,23,24,25,26,27,2,28,29,30,31,32,3,33,8] (.seq (.region g90 [(zo 9 (.bin (.lss) (.s 8) (.s 7)))]) (.seq (.cond (.s 9) .skip (.exit 0)) (.seq (.block 1 (.seq (.region g90 [(zo 10 (.idxSl 3 (.s 6) (.s 8))),(zo 11 (.load 3 true (.s 10))),(zo 5 (.alloc 45 (.cons (.str []) (.cons (.int .i64 0) (.cons (.str []) .nil))))),⟨none,none,.store 3 (.s 5) (.s 11),[]⟩]) (.seq (.seq (.region g90 [(zo 12 (.fldA 0 (.s 5))),(zo 13 (.load 1 false (.s 12))),(zo 14 (.call (.c (.fn 82)) [.s 13])),(zo 15 (.not (.s 14))),(zo 16 (.move (.s 15))),(zg 17 16 false (.fldA 1 (.s 5))),(zg 18 16 false (.load 1 false (.s 17))),(zg 19 16 false (.call (.c (.fn 47)) [.s 18,.c (.int .i64 0),.c (.int .i64 7)])),(zg 20 16 false (.not (.s 19))),(zo 21 (.pick (.s 16) (.c (.bool true)) (.s 20))),(zo 22 (.move (.s 21))),(zg 23 22 false (.fldA 2 (.s 5))),(zg 24 22 false (.load 1 false (.s 23))),(zg 25 22 false (.call (.c (.fn 128)) [.s 24])),(zg 26 22 false (.not (.s 25))),(zo 27 (.pick (.s 22) (.c (.bool true)) (.s 26)))]) (.cond (.s 27) (.seq (.region g90 [(zo 2 (.move (.c (.bool false))))]) .ret) .skip)) (.seq (.region g90 [(zo 28 (.fldA 2 (.s 5))),⟨none,none,.store 1 (.s 28) (.c (.str [])),[]⟩]) (.region g90 [(zo 29 (.move (.s 3))),(zo 30 (.load 3 true (.s 5))),(zo 31 (.buildSl 45 3 1 (.cons (.str []) (.cons (.int .i64 0) (.cons (.str []) .nil))) [(0,3,.s 30)])),(zo 32 (.app 45 3 40 (.s 29) (.s 31))),(zo 3 (.move (.s 32)))]))))) (.region g90 [(zo 33 (.bin (.add) (.s 8) (.c (.int .i64 1)))),(zo 8 (.move (.s 33)))]))))))) (.seq (.region g90 [(zo 34 (.move (.s 0))),(zo 35 (.lenSl (.s 34))),(zo 36 (.call (.c (.fn 47)) [.s 35,.c (.int .i64 1),.c (.int .i64 8)])),(zo 37 (.move (.s 36))),(zg 38 37 true (.move (.s 3))),(zg 39 37 true (.call (.c (.fn 129)) [.s 38])),(zo 40 (.pick (.s 37) (.s 39) (.c (.bool false)))),(zo 2 (.move (.s 40)))]) .ret)))
def r90:List aR:=[.slot 2]
def k90:List (Nat×Nat×aD×Nat):=[]
theorem e90:aK Tryz.prog 90 g90 [] [] k90=some (c90,r90,41):=by kernel_rfl
theorem q90:aF Tryz.prog k90:=aF.nil
def nt (x:Nm):Nm:=⟨x.lang,x.script,[]⟩
def nbad (x:Nm):Bool:=(!L10.dF x.lang || !cJ x.script 0 7) || !Ck x.text
def pY (r:Sq Nm):Bool:=!orB (fun i=>nbad (r.f i)) r.n && (cJ (r.n:Int) 1 8 && jZ (fun i=>kN (nt (r.f i))) r.n)
def U3:Eng.Spec where
 X:=Sq Nm
 args:=fun r=>.cons (nmE r) .nil
 pre:=fun r=>okS r okN
 res:=fun r=>.bool (pY r)
 inst:=EV0.one nmD
theorem Rp:U3.Ok Tryz.prog 90:=by
 refine Eng.Spec.okR e90 q90 (fun _=>[(82,.p L10.Ey),(47,.p yQ),(128,.p Ue),(129,.p dNS)]) (fun _ _=>aA.p L10.xN (aA.p mB (aA.p Ra (aA.p Tt aA.nil)))) ?_
 rintro (r:Sq Nm) ⟨(hn:r.n<=1000000),hel⟩
 refine ⟨trivial,?_⟩
 repeat' (first|apply And.intro|exact trivial|exact rfl)
 refine ⟨⟨Nat,fun i=>i<=r.n/\orB (fun i=>nbad (r.f i)) i=false,fun i=>[(8,.int .i64 (i:Int)),(3,.lsl 20 3 i)],fun i=>[(20,.arr 45 3 i fun j=>nmL (nt (r.f j)))],fun i=>r.n - i⟩,0,⟨Nat.zero_le _,rfl⟩,?_,?_⟩
 ·repeat' (first|apply And.intro|exact trivial|exact rfl|exact lz fun _=>rfl)
 rintro (i:Nat) ⟨(hi:i<=r.n),(hf:orB (fun i=>nbad (r.f i)) i=false)⟩
 repeat' (first|apply And.intro|exact trivial|exact rfl|exact lz fun _=>rfl)
 ·refine fun (h:decide ((i:Int) < (r.n:Int))=true)=>?_
  have hi1:(i:Int) < (r.n:Int):=of_decide_eq_true h
  have hil:i < r.n:=by omega
  have hi0:(0:Int)<=(i:Int):=by omega
  have hok1:=(hel i hil).1
  have hok2:=(hel i hil).2
  have b1:-9223372036854775808<=(i:Int)+1:=by omega
  have b2:(i:Int)+1<=9223372036854775807:=by omega
  repeat' (first|with_reducible exact hi1|with_reducible exact hi0|apply And.intro|exact trivial|exact rfl|exact hok1|(refine fun (_:aH _ _ _ _)=>?_)|exact hok2)
  ·refine fun (hc:aG (aG (!L10.dF (r.f i).lang) (.c (.bool true)) (.s 20) true (!cJ (r.f i).script 0 7)) (.c (.bool true)) (.s 26) true (!Ck (r.f i).text)=true)=>?_
   rw [aI,aI] at hc
   have e:false=pY r:=by
    unfold pY
    rw [bK.2 ⟨i,hil,hc⟩]
    rfl
   repeat' (first|exact e|apply And.intro|exact trivial|exact rfl)
  ·refine fun (hc:aG (aG (!L10.dF (r.f i).lang) (.c (.bool true)) (.s 20) true (!cJ (r.f i).script 0 7)) (.c (.bool true)) (.s 26) true (!Ck (r.f i).text)=false)=>?_
   rw [aI,aI] at hc
   have hf1:orB (fun i=>nbad (r.f i)) (i+1)=false:=by
    simp only [orB]
    rw [hf]
    exact hc
   have m1:i+1<=9223372036854775807:=by omega
   have m2:(i+1) * 40<=140737488355328:=by omega
   repeat' (first|with_reducible exact b1|with_reducible exact b2|apply And.intro|exact trivial|exact rfl|exact m1|exact m2)
   refine Exists.intro (i+1) ?_
   refine And.intro (And.intro hil hf1) ?_
   repeat' (first|apply And.intro|exact trivial|exact rfl|exact lz fun _=>rfl|exact fun (j:Nat) (hj:j < i+1)=>EL.aY (EL.lE (g:=nmL) (f:=fun j=>nt (r.f j)) rfl hj) (yO ..))
   show r.n - (i+1) < r.n - i
   omega
 ·refine fun (h:decide ((i:Int) < (r.n:Int))=false)=>?_
  have hi1:¬ (i:Int) < (r.n:Int):=of_decide_eq_false h
  obtain rfl:i=r.n:=by omega
  have e:aG (cJ (r.n:Int) 1 8) (.s 39) (.c (.bool false)) (jZ (fun i=>kN (nt (r.f i))) r.n) false=pY r:=by
   rw [aJ]
   unfold pY
   rw [hf]
   rfl
  repeat' (first|exact e|apply And.intro|exact trivial|exact rfl|exact lz fun _=>rfl|exact hn|(refine fun (_:aH _ _ _ _)=>?_))
  ·exact Nat.le_of_eq (Nat.zero_add _)
  ·exact fun (j:Nat) (hj:j < r.n)=>EL.aY (congrArg (fun j=>nmL (nt (r.f j))) (Nat.zero_add j)) (yO _ _ _ _)
end F4
end
section
open Go Go.Eng Go.Proofs G1 G2 G3 G4 G6 G7 EV0 N1 N2 F1 F2 F3 F4
set_option maxRecDepth 100000
namespace F5
def g99:List Nat:=[0,9,11,8,17,7,10,1,5,4]
def c99:aD :=
 .seq (.region g99 [(zo 4 (.move (.c (.bool false))))]) (.seq (.region g99 [(zo 5 (.move (.c (.nilsl))))]) (.seq (.seq (.region g99 [(zo 8 (.move (.s 0))),(zo 9 (.lenSl (.s 8))),(zo 10 (.move (.c (.int .i64 0))))]) (.block 0 (.loop 0 [11,12,13,7,14,15,16,17,4,18,19,20,21,22,23,24,25,26,27,1,5,28,10] (.seq (.region g99 [(zo 11 (.bin (.lss) (.s 10) (.s 9)))]) (.seq (.cond (.s 11) .skip (.exit 0)) (.seq (.block 1 (.seq (.region g99 [(zo 12 (.idxSl 7 (.s 8) (.s 10))),(zo 13 (.load 7 true (.s 12))),(zo 7 (.alloc 47 zEn)),⟨none,none,.store 7 (.s 7) (.s 13),[]⟩]) (.seq (.seq (.region g99 [(zo 14 (.fldA 1 (.s 7))),(zo 15 (.load 4 true (.s 14))),(zo 16 (.call (.c (.fn 95)) [.s 15])),(zo 17 (.not (.s 16)))]) (.cond (.s 17) (.seq (.region g99 [(zo 4 (.move (.c (.bool false))))]) .ret) .skip)) (.seq (.drawn [0,9,11,8,17,7,10,1,5,4,22,27] (.pure 0 (zo 18 (.move (.s 1))) (.pure 1 (zo 19 (.fldA 0 (.s 7))) (.pure 2 (zo 20 (.load 1 false (.s 19))) (.pure 3 (zo 21 (.buildSl 9 1 1 (.cons (.str []) .nil) [(0,1,.s 20)])) (.pure 5 (zo 23 (.move (.s 5))) (.pure 6 (zo 24 (.fldA 1 (.s 7))) (.pure 7 (zo 25 (.load 4 true (.s 24))) (.pure 8 (zo 26 (.buildSl 25 4 1 zHn [(0,4,.s 25)])) (.eff 4 (zo 22 (.app 9 1 16 (.s 18) (.s 21))) [(zo 25 (.load 4 true (.s 24)))] (.eff 9 (zo 27 (.app 25 4 40 (.s 23) (.s 26))) [] .done .none) .none)))))))))) (.region g99 [(zo 1 (.move (.s 22))),(zo 5 (.move (.s 27)))]))))) (.region g99 [(zo 28 (.bin (.add) (.s 10) (.c (.int .i64 1)))),(zo 10 (.move (.s 28)))]))))))) (.seq (.region g99 [(zo 29 (.move (.s 1))),(zo 30 (.call (.c (.fn 92)) [.s 29])),(zo 31 (.move (.s 30))),(zg 32 31 true (.move (.s 5))),(zg 33 31 true (.call (.c (.fn 137)) [.s 32])),(zo 34 (.pick (.s 31) (.s 33) (.c (.bool false)))),(zo 4 (.move (.s 34)))]) .ret)))
def r99:List aR:=[.slot 4]
def k99:List (Nat×Nat×aD×Nat):=[]
theorem e99:aK Tryz.prog 99 g99 [] [] k99=some (c99,r99,35):=by kernel_rfl
theorem q99:aF Tryz.prog k99:=aF.nil
def mF (l:Sq En) (more:List B) (j:Nat):B:=if j < more.length then more.getD j [] else (l.f (j - more.length)).id
def iP (l:Sq En) (more:List B):Bool:=!orB (fun i=>!cE (l.f i).num) l.n && (jS ⟨more.length+l.n,mF l more⟩ && jZ (fun i=>kH (l.f i).num) l.n)
def Un:Eng.bJ where
 X:=Sq En×List B
 Y:=Unit
 args:=fun x=>.cons (enE x.1) (.cons (.lsl 0 1 x.2.length) .nil)
 pre:=fun x=>(x.1.n<=900000/\∀ i,i < x.1.n->okE (x.1.f i))/\x.2.length<=1000/\∀ j,j < x.2.length->okT (x.2.getD j [])
 h0:=fun x=>[(0,.arr 9 1 x.2.length fun j=>stL (x.2.getD j []))]
 nx0:=1
 post:=fun _ _=>True
 res:=fun x _=>.bool (iP x.1 x.2)
 h1:=fun _ _=>[]
 nx1:=1
theorem xR {f:Nat->Bool} {n:Nat} (h:orB f n=false) (hc:f n=false):orB f (n+1)=false:=by
 simp only [orB]
 rw [h,hc]
 rfl
theorem eK {f g:Nat->Bool}:∀ {n:Nat},(∀ i,i < n->f i=g i)->orB f n=orB g n:=by
 intro n
 induction n with
 | zero=>intro _; rfl
 | succ n ih=>intro h; simp only [orB]; rw [ih fun i hi=>h i (by omega),h n (by omega)]
theorem nK {f g:Nat->aP} {n:Nat} (h:∀ i,i < n->f i=g i):jZ f n=jZ g n:=by
 unfold jZ
 rw [eK fun i hi=>eK fun j hj=>by rw [h i hi,h j (by omega)]]
theorem iN {f g:Nat->B} {n:Nat} (h:∀ i,i < n->f i=g i):jS ⟨n,f⟩=jS ⟨n,g⟩:=by
 unfold jS
 dsimp only
 rw [nK (g:=fun i=>kS (g i)) fun i hi=>by rw [h i hi],eK (g:=fun i=>nS (g i)) fun i hi=>by rw [h i hi]]
theorem Pd {l:Sq En} {more:List B} {j:Nat} (h:j < more.length):mF l more j=more.getD j []:=if_pos h
theorem Jr {l:Sq En} {more:List B} {i:Nat}:mF l more (more.length+i)=(l.f i).id:=by
 unfold mF
 rw [if_neg (by omega),show more.length+i - more.length=i by omega]
theorem Py {l:Sq En} {more:List B} {e:Nat->SV} (he:e 0=stL (l.f 0).id) {j:Nat} (hj:j < more.length+1):gD more.length (fun j=>stL (more.getD j [])) e j=stL (mF l more j):=by
 unfold gD
 by_cases h:j < more.length
 ·rw [show Nat.blt j more.length=true from Nat.ble_eq_true_of_le h,cond_true,Pd h]
 ·have:Nat.blt j more.length=false:=by
   cases hb:Nat.blt j more.length with
   | false=>rfl
   | true=>exact absurd (Nat.le_of_ble_eq_true hb) h
  rw [this,cond_false,show j - more.length=0 by omega,he,show j=more.length+0 by omega,Jr]
set_option maxHeartbeats 16000000 in
theorem Ri:Un.Ok Tryz.prog 99:=by
 refine Eng.bJ.okR e99 q99 (fun _=>[(95,.p Hp),(92,.p Cg),(137,.p dHS)]) (fun _ _=>aA.p uG (aA.p lR (aA.p Ox aA.nil))) ?_
 rintro ⟨l,more⟩ ⟨⟨(hn:l.n<=900000),(hel:∀ i,i < l.n->okE (l.f i))⟩,(hm:more.length<=1000),hmo⟩
 refine ⟨trivial,?_⟩
 repeat' (first|apply And.intro|exact trivial|exact rfl)
 refine ⟨⟨Option Nat,fun x=>match x with
   | none=>True
   | some i=>1<=i/\i<=l.n/\orB (fun i=>!cE (l.f i).num) i=false,
  fun x=>match x with
   | none=>[(10,.int .i64 0),(1,.lsl 0 1 more.length),(5,.lsl 21 4 0)]
   | some i=>[(10,.int .i64 (i:Int)),(1,.lsl 20 1 (more.length+i)),(5,.lsl 21 4 i)],
  fun x=>match x with
   | none=>[(21,.arr 25 4 0 fun j=>hnL (l.f j).num)]
   | some i=>[(20,.arr 9 1 (more.length+i) fun j=>stL (mF l more j)),(21,.arr 25 4 i fun j=>hnL (l.f j).num)],fun x=>match x with
   | none=>l.n+1
   | some i=>l.n - i⟩,none,trivial,?_,?_⟩
 ·repeat' (first|apply And.intro|exact trivial|exact rfl|exact lz fun _=>rfl)
 intro (x:Option Nat) hx
 cases x with
 | none =>
  repeat' (first|apply And.intro|exact trivial|exact rfl|exact lz fun _=>rfl)
  ·refine fun (h:decide ((0:Int) < (l.n:Int))=true)=>?_
   have hi1:(0:Int) < (l.n:Int):=of_decide_eq_true h
   have hil:0 < l.n:=by omega
   have hi0:(0:Int)<=(0:Int):=by omega
   have b1:-9223372036854775808<=(0:Int)+1:=by omega
   have b2:(0:Int)+1<=9223372036854775807:=by omega
   repeat' (first|with_reducible exact hi1|with_reducible exact hi0|apply And.intro|exact trivial|exact rfl)
   ·refine fun (hc:(!cE (l.f 0).num)=true)=>?_
    have e:false=iP l more:=by
     unfold iP
     rw [bK.2 ⟨0,hil,hc⟩]
     rfl
    repeat' (first|exact e|apply And.intro|exact trivial|exact rfl|refine Exists.intro () ?_)
   ·refine fun (hc:(!cE (l.f 0).num)=false)=>?_
    have hf1:orB (fun i=>!cE (l.f i).num) (0+1)=false:=xR rfl hc
    have m1:more.length+1<=9223372036854775807:=by omega
    have m2:(more.length+1) * 16<=140737488355328:=by omega
    have m3:0+1<=9223372036854775807:=by omega
    have m4:(0+1) * 40<=140737488355328:=by omega
    repeat' (first|with_reducible exact b1|with_reducible exact b2|apply And.intro|exact trivial|exact rfl)
    ·exact m1
    ·exact m2
    ·exact m3
    ·exact m4
    refine Exists.intro (some (0+1)) (And.intro (And.intro (Nat.succ_le_succ (Nat.zero_le _)) (And.intro hil hf1)) ?_)
    repeat' (first|apply And.intro|exact trivial|exact rfl|exact lz fun _=>rfl)
    ·exact fun (j:Nat) (hj:j < 0+1)=>EL.aY (EL.lE (g:=hnL) (f:=fun j=>(l.f j).num) rfl hj) (jX ..)
    ·exact fun (j:Nat) (hj:j < more.length+1)=>EL.aY (Py (l:=l) rfl hj) (fD ..)
    ·show l.n - (0+1) < l.n+1
     omega
  ·refine fun (h:decide ((0:Int) < (l.n:Int))=false)=>?_
   have hi1:¬ (0:Int) < (l.n:Int):=of_decide_eq_false h
   have hil:0=l.n:=by omega
   have e:aG (jS ⟨more.length,fun j=>more.getD j []⟩) (.s 33) (.c (.bool false)) (jZ (fun j=>kH (l.f j).num) 0) false=iP l more:=by
    rw [aJ]
    unfold iP
    rw [<- hil,iN (g:=mF l more) fun j hj=>(Pd hj).symm]
    rfl
   repeat' (first|apply And.intro|exact trivial|exact rfl|(refine fun (_:aH _ _ _ _)=>?_))
   ·show more.length<=1000000
    omega
   ·exact hmo
   ·exact Nat.le_of_eq (Nat.zero_add _)
   ·exact fun (j:Nat) (_:j < more.length)=>EL.aY (congrArg (fun j=>stL (more.getD j [])) (Nat.zero_add j)) (fD _ _ _ _)
   ·exact Nat.zero_le _
   ·exact Nat.le_refl _
   ·exact fun (j:Nat) (h:j < 0)=>absurd h (Nat.not_lt_zero j)
   refine Exists.intro () ?_
   repeat' (first|apply And.intro|exact trivial|exact rfl|exact e)
 | some i =>
  obtain ⟨(hi0':1<=i),(hi:i<=l.n),(hf:orB (fun i=>!cE (l.f i).num) i=false)⟩:=hx
  repeat' (first|apply And.intro|exact trivial|exact rfl|exact lz fun _=>rfl)
  ·refine fun (h:decide ((i:Int) < (l.n:Int))=true)=>?_
   have hi1:(i:Int) < (l.n:Int):=of_decide_eq_true h
   have hil:i < l.n:=by omega
   have hi0:(0:Int)<=(i:Int):=by omega
   have b1:-9223372036854775808<=(i:Int)+1:=by omega
   have b2:(i:Int)+1<=9223372036854775807:=by omega
   repeat' (first|with_reducible exact hi1|with_reducible exact hi0|apply And.intro|exact trivial|exact rfl)
   ·refine fun (hc:(!cE (l.f i).num)=true)=>?_
    have e:false=iP l more:=by
     unfold iP
     rw [bK.2 ⟨i,hil,hc⟩]
     rfl
    repeat' (first|exact e|apply And.intro|exact trivial|exact rfl|refine Exists.intro () ?_)
   ·refine fun (hc:(!cE (l.f i).num)=false)=>?_
    have hf1:orB (fun i=>!cE (l.f i).num) (i+1)=false:=xR hf hc
    have m1:(more.length+i)+1<=9223372036854775807:=by omega
    have m2:((more.length+i)+1) * 16<=140737488355328:=by omega
    have m3:i+1<=9223372036854775807:=by omega
    have m4:(i+1) * 40<=140737488355328:=by omega
    repeat' (first|with_reducible exact b1|with_reducible exact b2|apply And.intro|exact trivial|exact rfl)
    ·exact m1
    ·exact m2
    ·exact m3
    ·exact m4
    refine Exists.intro (some (i+1)) (And.intro (And.intro (Nat.succ_le_succ (Nat.zero_le _)) (And.intro hil hf1)) ?_)
    repeat' (first|apply And.intro|exact trivial|exact rfl|exact lz fun _=>rfl)
    ·exact fun (j:Nat) (hj:j < i+1)=>EL.aY (EL.lE (g:=hnL) (f:=fun j=>(l.f j).num) rfl hj) (jX ..)
    ·exact fun (j:Nat) (hj:j < more.length+i+1)=>EL.aY (EL.lE (g:=stL) (f:=fun j=>mF l more j) (congrArg stL Jr.symm) hj) (fD ..)
    ·show l.n - (i+1) < l.n - i
     omega
  ·refine fun (h:decide ((i:Int) < (l.n:Int))=false)=>?_
   have hi1:¬ (i:Int) < (l.n:Int):=of_decide_eq_false h
   have hil:i=l.n:=by omega
   have hmo2:∀ j,j < more.length+i->okT (mF l more j):=fun j hj=>by
    unfold mF
    split
    ·exact hmo j (by assumption)
    ·exact (hel (j - more.length) (by omega)).1
   have e:aG (jS ⟨more.length+i,mF l more⟩) (.s 33) (.c (.bool false)) (jZ (fun j=>kH (l.f j).num) i) false=iP l more:=by
    rw [aJ]
    unfold iP
    rw [<- hil,hf]
    rfl
   repeat' (first|apply And.intro|exact trivial|exact rfl|(refine fun (_:aH _ _ _ _)=>?_))
   ·show more.length+i<=1000000
    omega
   ·exact hmo2
   ·exact Nat.le_of_eq (Nat.zero_add _)
   ·exact fun (j:Nat) (_:j < more.length+i)=>EL.aY (congrArg (fun j=>stL (mF l more j)) (Nat.zero_add j)) (fD _ _ _ _)
   ·show i<=1000000
    omega
   ·exact Nat.le_of_eq (Nat.zero_add _)
   ·exact fun (j:Nat) (_:j < i)=>EL.aY (congrArg (fun j=>hnL (l.f j).num) (Nat.zero_add j)) (jX _ _ _ _)
   refine Exists.intro () ?_
   repeat' (first|apply And.intro|exact trivial|exact rfl|exact e)
end F5
end
section
open Go Go.Eng Go.Proofs G1 G2 G3 G4 G6 G7 EV0 N1 N2 F1 F2 F3 F4 F5
set_option maxRecDepth 100000
namespace F6
def g139:List Nat:=[0,1,2,3]
def c139:aD :=
 .seq (.region g139 [(zo 2 (.box 47 (.s 0))),(zo 3 (.move (.c (.bool false))))]) (.seq (.region g139 [(zo 4 (.fldA 5 (.s 2))),(zo 5 (.load 2 true (.s 4))),(zo 6 (.call (.c (.fn 23)) [.s 5])),(zo 7 (.not (.s 6))),(zo 8 (.move (.s 7))),(zg 9 8 false (.load 1 false (.s 1))),(zg 10 8 false (.move (.s 9))),(zg 11 10 true (.fldA 5 (.s 2))),(zg 12 10 true (.load 2 true (.s 11))),(zg 13 10 true (.build zPt [])),(zg 14 10 true (.eqS true [(0,1),(1,1)] (.s 12) (.s 13))),(zg 15 8 false (.pick (.s 10) (.s 14) (.c (.bool false)))),(zo 16 (.pick (.s 8) (.c (.bool true)) (.s 15))),(zo 3 (.move (.s 16)))]) .ret)
def r139:List aR:=[.slot 3]
def k139:List (Nat×Nat×aD×Nat):=[]
theorem e139:aK Tryz.prog 139 g139 [] [] k139=some (c139,r139,17):=by kernel_rfl
theorem q139:aF Tryz.prog k139:=aF.nil
def pbad (z:Bool) (x:En):Bool:=!onB x.pt || (z && !(decide (x.pt.1=0) && (decide (x.pt.2=0) && true)))
def plc0:Eng.Spec where
 X:=En×Bool
 args:=fun x=>.cons (.agg (enL x.1)) (.cons (.cptr (.cons (.bool x.2) .nil)) .nil)
 pre:=fun _=>True
 res:=fun x=>.bool (pbad x.2 x.1)
 inst:=fun
  | .cons (.agg c) (.cons (.cptr (.cons (.bool z) _)) _)=>some (⟨gV (bI c 0),hnA c 1,(eZ (bI c 5),eZ (bI c 6))⟩,z)
  | _=>none
theorem N0:plc0.Ok Tryz.prog 139:=by
 refine Eng.Spec.okR e139 q139 (fun _=>[(23,.p On)]) (fun _ _=>aA.p uX aA.nil) ?_
 rintro ⟨x,z⟩ _
 have e:aG (!onB x.pt) (.c (.bool true)) (.s 15) true (aG z (.s 14) (.c (.bool false)) (!(decide (x.pt.1=0) && (decide (x.pt.2=0) && true))) false)=pbad z x:=by rw [aI,aJ]; rfl
 refine ⟨trivial,?_⟩
 repeat' (first|apply And.intro|exact trivial|exact rfl|(refine fun (_:aH _ _ _ _)=>?_)|exact e)
def g168:List Nat:=[7,9,1,0,16,5,8,4]
def c168:aD :=
 .seq (.region g168 [(zo 4 (.move (.c (.int .i64 0))))]) (.seq (.seq (.region g168 [(zo 6 (.move (.s 0))),(zo 7 (.lenSl (.s 6))),(zo 8 (.move (.c (.int .i64 0))))]) (.block 0 (.loop 0 [9,10,5,11,12,13,14,15,16,17,4,18,8] (.seq (.region g168 [(zo 9 (.bin (.lss) (.s 8) (.s 7)))]) (.seq (.cond (.s 9) .skip (.exit 0)) (.seq (.block 1 (.seq (.region g168 [(zo 10 (.move (.s 8))),(zo 5 (.move (.s 10)))]) (.seq (.region g168 [(zo 11 (.move (.s 1))),(zo 12 (.move (.s 0))),(zo 13 (.move (.s 5))),(zo 14 (.idxSl 7 (.s 12) (.s 13))),(zo 15 (.load 7 true (.s 14))),(zo 16 (.call (.s 11) [.s 15]))]) (.cond (.s 16) (.seq (.region g168 [(zo 17 (.move (.s 5))),(zo 4 (.move (.s 17)))]) .ret) .skip)))) (.region g168 [(zo 18 (.bin (.add) (.s 8) (.c (.int .i64 1)))),(zo 8 (.move (.s 18)))]))))))) (.seq (.region g168 [(zo 4 (.move (.c (.int .i64 (-1)))))]) .ret))
def r168:List aR:=[.slot 4]
def k168:List (Nat×Nat×aD×Nat):=[]
theorem e168:aK Tryz.prog 168 g168 [] [] k168=some (c168,r168,19):=by kernel_rfl
theorem q168:aF Tryz.prog k168:=aF.nil
def g138:List Nat:=[0,1,4]
def c138:aD :=
 .seq (.region g138 [(zo 4 (.move (.c (.bool false))))]) (.seq (.region g138 [(zo 5 (.move (.s 0))),(zo 6 (.move (.s 1))),(zo 7 (.call (.c (.fn 168)) [.s 5,.s 6])),(zo 8 (.bin (.geq) (.s 7) (.c (.int .i64 0)))),(zo 4 (.move (.s 8)))]) .ret)
def r138:List aR:=[.slot 4]
def k138:List (Nat×Nat×aD×Nat):=[]
theorem e138:aK Tryz.prog 138 g138 [] [] k138=some (c138,r138,9):=by kernel_rfl
theorem q138:aF Tryz.prog k138:=aF.nil
def N4:Eng.Spec where
 X:=Sq En×Bool
 args:=fun x=>.cons (enE x.1) (.cons (.fn 139 (.cons (.cptr (.cons (.bool x.2) .nil)) .nil)) .nil)
 pre:=fun x=>okS x.1 okE
 res:=fun x=>.int .i64 (bS (fun i=>pbad x.2 (x.1.f i)) x.1.n)
 inst:=fun
  | .cons a (.cons (.fn _ (.cons (.cptr (.cons c _)) _)) .nil)=>match enD a,Ow c with
   | some r,some c=>some (r,c)
   | _,_=>none
  | _=>none
theorem N5:N4.Ok Tryz.prog 168:=by
 refine Eng.Spec.okR e168 q168 (fun _=>[(139,.p plc0)]) (fun _ _=>aA.p N0 aA.nil) ?_
 rintro ⟨r,c⟩ ⟨(hn:r.n<=1000000),(hel:∀ i,i < r.n->okE (r.f i))⟩
 refine ⟨trivial,?_⟩
 repeat' (first|apply And.intro|exact trivial|exact rfl|exact lz fun _=>rfl)
 refine ⟨⟨Nat,fun i=>i<=r.n/\orB (fun i=>pbad c (r.f i)) i=false,fun i=>[(8,.int .i64 (i:Int))],fun _=>[],fun i=>r.n - i⟩,0,⟨Nat.zero_le _,rfl⟩,?_,?_⟩
 ·repeat' (first|apply And.intro|exact trivial|exact rfl|exact lz fun _=>rfl)
 rintro (i:Nat) ⟨(hi:i<=r.n),(hf:orB (fun i=>pbad c (r.f i)) i=false)⟩
 repeat' (first|apply And.intro|exact trivial|exact rfl|exact lz fun _=>rfl)
 ·refine fun (h:decide ((i:Int) < (r.n:Int))=true)=>?_
  have hi1:(i:Int) < (r.n:Int):=of_decide_eq_true h
  have hil:i < r.n:=by omega
  have hi0:(0:Int)<=(i:Int):=by omega
  have hok:=hel i hil
  have b1:-9223372036854775808<=(i:Int)+1:=by omega
  have b2:(i:Int)+1<=9223372036854775807:=by omega
  repeat' (first|with_reducible exact hi1|with_reducible exact hi0|apply And.intro|exact trivial|exact rfl|exact hok)
  ·refine fun (hc:pbad c (r.f i)=true)=>?_
   have e:(i:Int)=bS (fun i=>pbad c (r.f i)) r.n:=(gJ hf hc hil).symm
   repeat' (first|exact e|apply And.intro|exact trivial|exact rfl)
  ·refine fun (hc:pbad c (r.f i)=false)=>?_
   have hf1:orB (fun i=>pbad c (r.f i)) (i+1)=false:=by
    simp only [orB]
    rw [hf]
    exact hc
   repeat' (first|with_reducible exact b1|with_reducible exact b2|apply And.intro|exact trivial|exact rfl)
   refine Exists.intro (i+1) ?_
   refine And.intro (And.intro hil hf1) ?_
   repeat' (first|apply And.intro|exact trivial|exact rfl|exact lz fun _=>rfl)
   show r.n - (i+1) < r.n - i
   omega
 ·refine fun (h:decide ((i:Int) < (r.n:Int))=false)=>?_
  have hi1:¬ (i:Int) < (r.n:Int):=of_decide_eq_false h
  have e:i=r.n:=by omega
  have ef:-1=bS (fun i=>pbad c (r.f i)) r.n:=by rw [<- e,dA hf]
  repeat' (first|exact ef|apply And.intro|exact trivial|exact rfl)
def N6:Eng.Spec where
 X:=Sq En×Bool
 args:=N4.args
 pre:=fun x=>okS x.1 okE
 res:=fun x=>.bool (orB (fun i=>pbad x.2 (x.1.f i)) x.1.n)
 inst:=N4.inst
theorem De:N6.Ok Tryz.prog 138:=by
 refine Eng.Spec.okR e138 q138 (fun _=>[(168,.p N4)]) (fun _ _=>aA.p N5 aA.nil) ?_
 rintro ⟨r,c⟩ ⟨(hn:r.n<=1000000),(hel:∀ i,i < r.n->okE (r.f i))⟩
 have e:=kA (f:=fun i=>pbad c (r.f i)) (n:=r.n)
 refine ⟨trivial,?_⟩
 repeat' (first|exact hn|exact hel|exact e|apply And.intro|exact trivial|exact rfl|exact lz fun _=>rfl)
def g100:List Nat:=[1,0,3,4]
def c100:aD :=
 .seq (.region g100 [(zo 3 (.box 4 (.s 1))),(zo 4 (.move (.c (.bool false))))]) (.seq (.region g100 [(zo 5 (.move (.s 0))),(zo 6 (.mkfn 139 [.s 3])),(zo 7 (.call (.c (.fn 138)) [.s 5,.s 6])),(zo 8 (.not (.s 7))),(zo 4 (.move (.s 8)))]) .ret)
def r100:List aR:=[.slot 4]
def k100:List (Nat×Nat×aD×Nat):=[]
theorem e100:aK Tryz.prog 100 g100 [] [] k100=some (c100,r100,9):=by kernel_rfl
theorem q100:aF Tryz.prog k100:=aF.nil
def uS (l:Sq En) (z:Bool):Bool:=!orB (fun i=>pbad z (l.f i)) l.n
def Sa:Eng.Spec where
 X:=Sq En×Bool
 args:=fun x=>.cons (enE x.1) (.cons (.bool x.2) .nil)
 pre:=fun x=>okS x.1 okE
 res:=fun x=>.bool (uS x.1 x.2)
 inst:=EV0.two enD Ow
theorem J6:Sa.Ok Tryz.prog 100:=by
 refine Eng.Spec.okR e100 q100 (fun _=>[(138,.p N6)]) (fun _ _=>aA.p De aA.nil) ?_
 rintro ⟨r,c⟩ ⟨(hn:r.n<=1000000),(hel:∀ i,i < r.n->okE (r.f i))⟩
 refine ⟨trivial,?_⟩
 repeat' (first|apply And.intro|exact trivial|exact rfl|exact hn|exact hel|exact lz fun _=>rfl)
end F6
end
