/- A part of the proof. -/
import Derived.Test.YtlfdokecdilkcaaGreatDoorF6
open Go Go.Eng Go.Proofs G1 G2 G3 G4 G6 G7 EV0 N1 N2 F1 F2 F3 F4 F5 F6
set_option maxRecDepth 100000
namespace F7
def ev1:SV->Option Ev
 | .cons a _=>evD a
 | _=>none
def rG:List B->SV
 | []=>.nil
 | x::r=>.cons (stL x) (rG r)
def bQ (l:List B):Sq B:=⟨(rG l).len,fun i=>gV (bI (bI (rG l) i) 0)⟩
theorem tG:∀ l:List B,(rG l).len=l.length:=by
 intro l
 induction l with
 | nil=>rfl
 | cons a l ih=>simp only [rG,SV.len,ih,List.length_cons]
theorem Nd:∀ (l:List B) (i:Nat),i < l.length->gV (bI (bI (rG l) i) 0)=l.getD i []:=by
 intro l
 induction l with
 | nil=>intro i h; simp at h
 | cons a l ih =>
  intro i h
  cases i with
  | zero=>rfl
  | succ i=>exact ih i (by simpa using h)
theorem pV {l:List B} (hl:l.length<=1000) (h:∀ x∈l,okT x):okS (bQ l) okT:=by
 refine ⟨?_,fun i hi=>?_⟩
 ·show (rG l).len<=1000000
  rw [tG]; omega
 ·replace hi:i < (rG l).len:=hi
  rw [tG] at hi
  show okT (gV (bI (bI (rG l) i) 0))
  rw [Nd l i hi,List.getD_eq_getElem?_getD,List.getElem?_eq_getElem hi]
  exact h _ (List.getElem_mem hi)
def nd0 (e:Ev):Bool:=L10.dF e.id
def nd1 (e:Ev):Bool:=(nd0 e && cJ e.a 1 3) && Ba e.path
def nd2 (e:Ev):Bool:=nd0 e && tE e.path
def nd3 (e:Ev):Bool:=nd0 e && pY e.names
def nd4 (e:Ev):Bool:=jS (bQ [e.id,e.oth])
def nd5 (e:Ev):Bool:=nd0 e && Ba e.path
def nd6 (e:Ev):Bool:=(jS (bQ [e.id,e.oth,e.txt]) && cE e.num) && onB e.pt
def nd7 (e:Ev):Bool:=jS (bQ [e.id,e.oth]) && Fl e.txt 24
def nd13 (e:Ev):Bool:=H8 e.a e.b
def nd15 (e:Ev):Bool:=(nd0 e && cJ e.off 0 63) && Lf e.txt
def g81:List Nat:=[0,1,2]
def c81:aD :=
 .seq (.region g81 [(zo 1 (.box 31 (.s 0))),(zo 2 (.move (.c (.bool false))))]) (.seq (.region g81 [(zo 3 (.fldA 5 (.s 1))),(zo 4 (.load 1 false (.s 3))),(zo 5 (.call (.c (.fn 82)) [.s 4])),(zo 2 (.move (.s 5)))]) .ret)
def r81:List aR:=[.slot 2]
def k81:List (Nat×Nat×aD×Nat):=[]
theorem e81:aK Tryz.prog 81 g81 [] [] k81=some (c81,r81,6):=by kernel_rfl
theorem q81:aF Tryz.prog k81:=aF.nil
def n0S:Eng.Spec where
 X:=Ev
 args:=fun e=>.cons (evE e) .nil
 pre:=okV
 res:=fun e=>.bool (nd0 e)
 inst:=ev1
theorem tK:n0S.Ok Tryz.prog 81:=by
 refine Eng.Spec.okR e81 q81 (fun _=>[(82,.p L10.Ey)]) (fun _ _=>aA.p L10.xN aA.nil) ?_
 rintro (e:Ev) (h:okV e)
 have h1:=h.id
 have h2:=h.oth
 have h3:=h.txt
 have h4:=h.path
 have h5:=h.names
 have h6:(e.path.n:Int)<=9223372036854775806:=by omega
 refine ⟨trivial,?_⟩
 repeat' (first|exact h5|apply And.intro|exact trivial|exact rfl|(refine fun (_:aH _ _ _ _)=>?_)|exact lz fun _=>rfl|exact h1|exact h4|exact h3)
def g83:List Nat:=[0,1,2]
def c83:aD :=
 .seq (.region g83 [(zo 1 (.box 31 (.s 0))),(zo 2 (.move (.c (.bool false))))]) (.seq (.region g83 [(zo 3 (.fldA 2 (.s 1))),(zo 4 (.load 1 false (.s 3))),(zo 5 (.fldA 3 (.s 1))),(zo 6 (.load 1 false (.s 5))),(zo 7 (.call (.c (.fn 84)) [.s 4,.s 6])),(zo 2 (.move (.s 7)))]) .ret)
def r83:List aR:=[.slot 2]
def k83:List (Nat×Nat×aD×Nat):=[]
theorem e83:aK Tryz.prog 83 g83 [] [] k83=some (c83,r83,8):=by kernel_rfl
theorem q83:aF Tryz.prog k83:=aF.nil
def Ur:Eng.Spec where
 X:=Ev
 args:=fun e=>.cons (evE e) .nil
 pre:=okV
 res:=fun e=>.bool (nd13 e)
 inst:=ev1
theorem Rn:Ur.Ok Tryz.prog 83:=by
 refine Eng.Spec.okR e83 q83 (fun _=>[(84,.p Th)]) (fun _ _=>aA.p P3 aA.nil) ?_
 rintro (e:Ev) (h:okV e)
 have h1:=h.id
 have h2:=h.oth
 have h3:=h.txt
 have h4:=h.path
 have h5:=h.names
 have h6:(e.path.n:Int)<=9223372036854775806:=by omega
 refine ⟨trivial,?_⟩
 repeat' (first|exact h5|apply And.intro|exact trivial|exact rfl|(refine fun (_:aH _ _ _ _)=>?_)|exact lz fun _=>rfl|exact h1|exact h4|exact h3)
def g85:List Nat:=[0,1,2,3]
def c85:aD :=
 .seq (.region g85 [(zo 2 (.box 31 (.s 0))),(zo 3 (.move (.c (.bool false))))]) (.seq (.region g85 [(zo 4 (.load 1 false (.s 1))),(zo 5 (.load 18 true (.s 2))),(zo 6 (.call (.s 4) [.s 5])),(zo 7 (.move (.s 6))),(zg 8 7 true (.fldA 2 (.s 2))),(zg 9 7 true (.load 1 false (.s 8))),(zg 10 7 true (.call (.c (.fn 47)) [.s 9,.c (.int .i64 1),.c (.int .i64 3)])),(zo 11 (.pick (.s 7) (.s 10) (.c (.bool false)))),(zo 12 (.move (.s 11))),(zg 13 12 true (.fldA 16 (.s 2))),(zg 14 12 true (.load 1 false (.s 13))),(zg 15 12 true (.call (.c (.fn 86)) [.s 14])),(zo 16 (.pick (.s 12) (.s 15) (.c (.bool false)))),(zo 3 (.move (.s 16)))]) .ret)
def r85:List aR:=[.slot 3]
def k85:List (Nat×Nat×aD×Nat):=[]
theorem e85:aK Tryz.prog 85 g85 [] [] k85=some (c85,r85,17):=by kernel_rfl
theorem q85:aF Tryz.prog k85:=aF.nil
def n1S:Eng.Spec where
 X:=Ev
 args:=fun e=>.cons (evE e) (.cons (.cptr (.cons (.fn 81 .nil) .nil)) .nil)
 pre:=okV
 res:=fun e=>.bool (nd1 e)
 inst:=ev1
theorem Ut:n1S.Ok Tryz.prog 85:=by
 refine Eng.Spec.okR e85 q85 (fun _=>[(81,.p n0S),(47,.p yQ),(86,.p Valid)]) (fun _ _=>aA.p tK (aA.p mB (aA.p yU aA.nil))) ?_
 rintro (e:Ev) (h:okV e)
 have h1:=h.id
 have h2:=h.oth
 have h3:=h.txt
 have h4:=h.path
 have h5:=h.names
 have h6:(e.path.n:Int)<=9223372036854775806:=by omega
 refine ⟨trivial,?_⟩
 repeat' (first|exact h|exact h6|exact h5|apply And.intro|exact trivial|exact rfl|(refine fun (_:aH _ _ _ _)=>?_)|exact lz fun _=>rfl|exact h1|exact h4|exact h3)
def g87:List Nat:=[0,1,2,3]
def c87:aD :=
 .seq (.region g87 [(zo 2 (.box 31 (.s 0))),(zo 3 (.move (.c (.bool false))))]) (.seq (.region g87 [(zo 4 (.load 1 false (.s 1))),(zo 5 (.load 18 true (.s 2))),(zo 6 (.call (.s 4) [.s 5])),(zo 7 (.move (.s 6))),(zg 8 7 true (.fldA 16 (.s 2))),(zg 9 7 true (.load 1 false (.s 8))),(zg 10 7 true (.call (.c (.fn 88)) [.s 9])),(zo 11 (.pick (.s 7) (.s 10) (.c (.bool false)))),(zo 3 (.move (.s 11)))]) .ret)
def r87:List aR:=[.slot 3]
def k87:List (Nat×Nat×aD×Nat):=[]
theorem e87:aK Tryz.prog 87 g87 [] [] k87=some (c87,r87,12):=by kernel_rfl
theorem q87:aF Tryz.prog k87:=aF.nil
def n2S:Eng.Spec where
 X:=Ev
 args:=fun e=>.cons (evE e) (.cons (.cptr (.cons (.fn 81 .nil) .nil)) .nil)
 pre:=okV
 res:=fun e=>.bool (nd2 e)
 inst:=ev1
theorem Uu:n2S.Ok Tryz.prog 87:=by
 refine Eng.Spec.okR e87 q87 (fun _=>[(81,.p n0S),(88,.p Um)]) (fun _ _=>aA.p tK (aA.p tF aA.nil)) ?_
 rintro (e:Ev) (h:okV e)
 have h1:=h.id
 have h2:=h.oth
 have h3:=h.txt
 have h4:=h.path
 have h5:=h.names
 have h6:(e.path.n:Int)<=9223372036854775806:=by omega
 refine ⟨trivial,?_⟩
 repeat' (first|exact h|exact h6|exact h5|apply And.intro|exact trivial|exact rfl|(refine fun (_:aH _ _ _ _)=>?_)|exact lz fun _=>rfl|exact h1|exact h4|exact h3)
def g89:List Nat:=[0,1,2,3]
def c89:aD :=
 .seq (.region g89 [(zo 2 (.box 31 (.s 0))),(zo 3 (.move (.c (.bool false))))]) (.seq (.region g89 [(zo 4 (.load 1 false (.s 1))),(zo 5 (.load 18 true (.s 2))),(zo 6 (.call (.s 4) [.s 5])),(zo 7 (.move (.s 6))),(zg 8 7 true (.fldA 9 (.s 2))),(zg 9 7 true (.load 1 false (.s 8))),(zg 10 7 true (.call (.c (.fn 90)) [.s 9])),(zo 11 (.pick (.s 7) (.s 10) (.c (.bool false)))),(zo 3 (.move (.s 11)))]) .ret)
def r89:List aR:=[.slot 3]
def k89:List (Nat×Nat×aD×Nat):=[]
theorem e89:aK Tryz.prog 89 g89 [] [] k89=some (c89,r89,12):=by kernel_rfl
theorem q89:aF Tryz.prog k89:=aF.nil
def n3S:Eng.Spec where
 X:=Ev
 args:=fun e=>.cons (evE e) (.cons (.cptr (.cons (.fn 81 .nil) .nil)) .nil)
 pre:=okV
 res:=fun e=>.bool (nd3 e)
 inst:=ev1
theorem Uv:n3S.Ok Tryz.prog 89:=by
 refine Eng.Spec.okR e89 q89 (fun _=>[(81,.p n0S),(90,.p U3)]) (fun _ _=>aA.p tK (aA.p Rp aA.nil)) ?_
 rintro (e:Ev) (h:okV e)
 have h1:=h.id
 have h2:=h.oth
 have h3:=h.txt
 have h4:=h.path
 have h5:=h.names
 have h6:(e.path.n:Int)<=9223372036854775806:=by omega
 refine ⟨trivial,?_⟩
 repeat' (first|exact h|exact h6|exact h5|apply And.intro|exact trivial|exact rfl|(refine fun (_:aH _ _ _ _)=>?_)|exact lz fun _=>rfl|exact h1|exact h4|exact h3)
def g91:List Nat:=[0,1,2]
def c91:aD :=
 .seq (.region g91 [(zo 1 (.box 31 (.s 0))),(zo 2 (.move (.c (.bool false))))]) (.seq (.region g91 [(zo 3 (.fldA 5 (.s 1))),(zo 4 (.load 1 false (.s 3))),(zo 5 (.fldA 6 (.s 1))),(zo 6 (.load 1 false (.s 5))),(zo 7 (.buildSl 9 1 2 (.cons (.str []) .nil) [(0,1,.s 4),(1,1,.s 6)])),(zo 8 (.call (.c (.fn 92)) [.s 7])),(zo 2 (.move (.s 8)))]) .ret)
def r91:List aR:=[.slot 2]
def k91:List (Nat×Nat×aD×Nat):=[]
theorem e91:aK Tryz.prog 91 g91 [] [] k91=some (c91,r91,9):=by kernel_rfl
theorem q91:aF Tryz.prog k91:=aF.nil
def n4S:Eng.Spec where
 X:=Ev
 args:=fun e=>.cons (evE e) .nil
 pre:=okV
 res:=fun e=>.bool (nd4 e)
 inst:=ev1
theorem Uw:n4S.Ok Tryz.prog 91:=by
 refine Eng.Spec.okR e91 q91 (fun _=>[(92,.p Cg)]) (fun _ _=>aA.p lR aA.nil) ?_
 rintro (e:Ev) (h:okV e)
 have h1:=h.id
 have h2:=h.oth
 have h3:=h.txt
 have h4:=h.path
 have h5:=h.names
 have h6:(e.path.n:Int)<=9223372036854775806:=by omega
 refine ⟨trivial,?_⟩
 repeat' (first|exact pV (l:=[e.id,e.oth]) (by simp) (by simp [h1,h2])|exact pV (l:=[e.id,e.oth,e.txt]) (by simp) (by simp [h1,h2,h3])|exact h5|apply And.intro|exact trivial|exact rfl|(refine fun (_:aH _ _ _ _)=>?_)|exact lz fun _=>rfl|exact h1|exact h4|exact h3)
def g93:List Nat:=[0,1,2,3]
def c93:aD :=
 .seq (.region g93 [(zo 2 (.box 31 (.s 0))),(zo 3 (.move (.c (.bool false))))]) (.seq (.region g93 [(zo 4 (.load 1 false (.s 1))),(zo 5 (.load 18 true (.s 2))),(zo 6 (.call (.s 4) [.s 5])),(zo 7 (.move (.s 6))),(zg 8 7 true (.fldA 16 (.s 2))),(zg 9 7 true (.load 1 false (.s 8))),(zg 10 7 true (.call (.c (.fn 86)) [.s 9])),(zo 11 (.pick (.s 7) (.s 10) (.c (.bool false)))),(zo 3 (.move (.s 11)))]) .ret)
def r93:List aR:=[.slot 3]
def k93:List (Nat×Nat×aD×Nat):=[]
theorem e93:aK Tryz.prog 93 g93 [] [] k93=some (c93,r93,12):=by kernel_rfl
theorem q93:aF Tryz.prog k93:=aF.nil
def n5S:Eng.Spec where
 X:=Ev
 args:=fun e=>.cons (evE e) (.cons (.cptr (.cons (.fn 81 .nil) .nil)) .nil)
 pre:=okV
 res:=fun e=>.bool (nd5 e)
 inst:=ev1
theorem Ux:n5S.Ok Tryz.prog 93:=by
 refine Eng.Spec.okR e93 q93 (fun _=>[(81,.p n0S),(86,.p Valid)]) (fun _ _=>aA.p tK (aA.p yU aA.nil)) ?_
 rintro (e:Ev) (h:okV e)
 have h1:=h.id
 have h2:=h.oth
 have h3:=h.txt
 have h4:=h.path
 have h5:=h.names
 have h6:(e.path.n:Int)<=9223372036854775806:=by omega
 refine ⟨trivial,?_⟩
 repeat' (first|exact h|exact h6|exact h5|apply And.intro|exact trivial|exact rfl|(refine fun (_:aH _ _ _ _)=>?_)|exact lz fun _=>rfl|exact h1|exact h4|exact h3)
def g94:List Nat:=[0,1,2]
def c94:aD :=
 .seq (.region g94 [(zo 1 (.box 31 (.s 0))),(zo 2 (.move (.c (.bool false))))]) (.seq (.region g94 [(zo 3 (.fldA 5 (.s 1))),(zo 4 (.load 1 false (.s 3))),(zo 5 (.fldA 6 (.s 1))),(zo 6 (.load 1 false (.s 5))),(zo 7 (.fldA 7 (.s 1))),(zo 8 (.load 1 false (.s 7))),(zo 9 (.buildSl 9 1 3 (.cons (.str []) .nil) [(0,1,.s 4),(1,1,.s 6),(2,1,.s 8)])),(zo 10 (.call (.c (.fn 92)) [.s 9])),(zo 11 (.move (.s 10))),(zg 12 11 true (.fldA 10 (.s 1))),(zg 13 11 true (.load 4 true (.s 12))),(zg 14 11 true (.call (.c (.fn 95)) [.s 13])),(zo 15 (.pick (.s 11) (.s 14) (.c (.bool false)))),(zo 16 (.move (.s 15))),(zg 17 16 true (.fldA 14 (.s 1))),(zg 18 16 true (.load 2 true (.s 17))),(zg 19 16 true (.call (.c (.fn 23)) [.s 18])),(zo 20 (.pick (.s 16) (.s 19) (.c (.bool false)))),(zo 2 (.move (.s 20)))]) .ret)
def r94:List aR:=[.slot 2]
def k94:List (Nat×Nat×aD×Nat):=[]
theorem e94:aK Tryz.prog 94 g94 [] [] k94=some (c94,r94,21):=by kernel_rfl
theorem q94:aF Tryz.prog k94:=aF.nil
def n6S:Eng.Spec where
 X:=Ev
 args:=fun e=>.cons (evE e) .nil
 pre:=okV
 res:=fun e=>.bool (nd6 e)
 inst:=ev1
theorem Uy:n6S.Ok Tryz.prog 94:=by
 refine Eng.Spec.okR e94 q94 (fun _=>[(92,.p Cg),(95,.p Hp),(23,.p On)]) (fun _ _=>aA.p lR (aA.p uG (aA.p uX aA.nil))) ?_
 rintro (e:Ev) (h:okV e)
 have h1:=h.id
 have h2:=h.oth
 have h3:=h.txt
 have h4:=h.path
 have h5:=h.names
 have h6:(e.path.n:Int)<=9223372036854775806:=by omega
 refine ⟨trivial,?_⟩
 repeat' (first|exact pV (l:=[e.id,e.oth]) (by simp) (by simp [h1,h2])|exact pV (l:=[e.id,e.oth,e.txt]) (by simp) (by simp [h1,h2,h3])|exact h5|apply And.intro|exact trivial|exact rfl|(refine fun (_:aH _ _ _ _)=>?_)|exact lz fun _=>rfl|exact h1|exact h4|exact h3)
def g96:List Nat:=[0,1,2]
def c96:aD :=
 .seq (.region g96 [(zo 1 (.box 31 (.s 0))),(zo 2 (.move (.c (.bool false))))]) (.seq (.region g96 [(zo 3 (.fldA 5 (.s 1))),(zo 4 (.load 1 false (.s 3))),(zo 5 (.fldA 6 (.s 1))),(zo 6 (.load 1 false (.s 5))),(zo 7 (.buildSl 9 1 2 (.cons (.str []) .nil) [(0,1,.s 4),(1,1,.s 6)])),(zo 8 (.call (.c (.fn 92)) [.s 7])),(zo 9 (.move (.s 8))),(zg 10 9 true (.fldA 7 (.s 1))),(zg 11 9 true (.load 1 false (.s 10))),(zg 12 9 true (.call (.c (.fn 97)) [.s 11,.c (.int .i64 24)])),(zo 13 (.pick (.s 9) (.s 12) (.c (.bool false)))),(zo 2 (.move (.s 13)))]) .ret)
def r96:List aR:=[.slot 2]
def k96:List (Nat×Nat×aD×Nat):=[]
theorem e96:aK Tryz.prog 96 g96 [] [] k96=some (c96,r96,14):=by kernel_rfl
theorem q96:aF Tryz.prog k96:=aF.nil
def n7S:Eng.Spec where
 X:=Ev
 args:=fun e=>.cons (evE e) .nil
 pre:=okV
 res:=fun e=>.bool (nd7 e)
 inst:=ev1
theorem Uz:n7S.Ok Tryz.prog 96:=by
 refine Eng.Spec.okR e96 q96 (fun _=>[(92,.p Cg),(97,.p Qi)]) (fun _ _=>aA.p lR (aA.p Ij aA.nil)) ?_
 rintro (e:Ev) (h:okV e)
 have h1:=h.id
 have h2:=h.oth
 have h3:=h.txt
 have h4:=h.path
 have h5:=h.names
 have h6:(e.path.n:Int)<=9223372036854775806:=by omega
 refine ⟨trivial,?_⟩
 repeat' (first|exact pV (l:=[e.id,e.oth]) (by simp) (by simp [h1,h2])|exact pV (l:=[e.id,e.oth,e.txt]) (by simp) (by simp [h1,h2,h3])|exact h5|apply And.intro|exact trivial|exact rfl|(refine fun (_:aH _ _ _ _)=>?_)|exact lz fun _=>rfl|exact h1|exact h4|exact h3)
def g103:List Nat:=[0,1,2,3]
def c103:aD :=
 .seq (.region g103 [(zo 2 (.box 31 (.s 0))),(zo 3 (.move (.c (.bool false))))]) (.seq (.region g103 [(zo 4 (.load 1 false (.s 1))),(zo 5 (.load 18 true (.s 2))),(zo 6 (.call (.s 4) [.s 5])),(zo 7 (.move (.s 6))),(zg 8 7 true (.fldA 4 (.s 2))),(zg 9 7 true (.load 1 false (.s 8))),(zg 10 7 true (.call (.c (.fn 47)) [.s 9,.c (.int .i64 0),.c (.int .i64 63)])),(zo 11 (.pick (.s 7) (.s 10) (.c (.bool false)))),(zo 12 (.move (.s 11))),(zg 13 12 true (.fldA 7 (.s 2))),(zg 14 12 true (.load 1 false (.s 13))),(zg 15 12 true (.call (.c (.fn 104)) [.s 14])),(zo 16 (.pick (.s 12) (.s 15) (.c (.bool false)))),(zo 3 (.move (.s 16)))]) .ret)
def r103:List aR:=[.slot 3]
def k103:List (Nat×Nat×aD×Nat):=[]
theorem e103:aK Tryz.prog 103 g103 [] [] k103=some (c103,r103,17):=by kernel_rfl
theorem q103:aF Tryz.prog k103:=aF.nil
def Us:Eng.Spec where
 X:=Ev
 args:=fun e=>.cons (evE e) (.cons (.cptr (.cons (.fn 81 .nil) .nil)) .nil)
 pre:=okV
 res:=fun e=>.bool (nd15 e)
 inst:=ev1
theorem Ro:Us.Ok Tryz.prog 103:=by
 refine Eng.Spec.okR e103 q103 (fun _=>[(81,.p n0S),(47,.p yQ),(104,.p V7)]) (fun _ _=>aA.p tK (aA.p mB (aA.p S5 aA.nil))) ?_
 rintro (e:Ev) (h:okV e)
 have h1:=h.id
 have h2:=h.oth
 have h3:=h.txt
 have h4:=h.path
 have h5:=h.names
 have h6:(e.path.n:Int)<=9223372036854775806:=by omega
 refine ⟨trivial,?_⟩
 repeat' (first|exact h|exact h6|exact h5|apply And.intro|exact trivial|exact rfl|(refine fun (_:aH _ _ _ _)=>?_)|exact lz fun _=>rfl|exact h1|exact h4|exact h3)
end F7
