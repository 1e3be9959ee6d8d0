/- A part of the proof. -/
import Derived.Test.YtijddkljgihcnaaGreatDoorF5
open Go Go.Eng Go.Proofs G1 G2 G3 G4 G6 G7 EV0 N1 F1 F2 F3 F4 F5
set_option maxRecDepth 100000
namespace F6
def g213:List Nat:=[0,1,2,3]
def c213:aH :=
 .seq (.region g213 [(zo 2 (.box 195 (.s 0))),(zo 3 (.move cF))]) (.seq (.region g213 [(fa 4 5 2),(zo 5 (.load 2 true (.s 4))),(zo 6 (.call (.c (.fn 151)) [.s 5])),(zo 7 (.not (.s 6))),(mv 8 7),(lg 9 8 false 1),(mg 10 8 false 9),(fg 11 10 true 5 2),(zg 12 10 true (.load 2 true (.s 11))),(zg 13 10 true (.build zPt [])),(zg 14 10 true (.eqS true [(0,1),(1,1)] (.s 12) (.s 13))),(zg 15 8 false (.pick (.s 10) (.s 14) cF)),(zo 16 (.pick (.s 8) cT (.s 15))),(mv 3 16)]) .ret)
theorem e213:aI Tryz.prog 213 g213 [] [] []=some (c213,[.slot 3],17):=by kernel_rfl
def pbad (z:Bool) (x:En):Bool:=!onB x.pt || (z && !(decide (x.pt.1=0) && (decide (x.pt.2=0) && true)))
def plc0:Eng.Spec where
 X:=En×Bool
 args:=fun x=>.cons (.agg (enL x.1)) (.cons (.cptr (.cons (.bool x.2) .nil)) .nil)
 pre:=fun _=>True
 res:=fun x=>.bool (pbad x.2 x.1)
 inst:=fun
  | .cons (.agg c) (.cons (.cptr (.cons (.bool z) _)) _)=>some (⟨bH (aJ c 0),hnA c 1,(aP (aJ c 5),aP (aJ c 6))⟩,z)
  | _=>none
theorem Ng:plc0.Ok Tryz.prog 213:=by
 refine Eng.Spec.okR e213 .nil (fun _=>[(151,.p On)]) (fun _ _=>aA.p rR aA.nil) ?_
 rintro ⟨x,z⟩ _
 have e:aE (!onB x.pt) cT (.s 15) true (aE z (.s 14) cF (!(decide (x.pt.1=0) && (decide (x.pt.2=0) && true))) false)=pbad z x:=by rw [aD,aF]; rfl
 refine ⟨trivial,?_⟩
 repeat' (first|apply And.intro|exact trivial|exact rfl|refine gd ?_|exact e)
def g246:List Nat:=[7,9,1,0,16,5,8,4]
def c246:aH :=
 .seq (.region g246 [(zo 4 (.move (cj 0)))]) (.seq (.seq (.region g246 [(mv 6 0),(zo 7 (.lenSl (.s 6))),(zo 8 (.move (cj 0)))]) (.block 0 (.loop 0 [9,10,5,11,12,13,14,15,16,17,4,18,8] (.seq (.region g246 [(zo 9 (.bin (.lss) (.s 8) (.s 7)))]) (.seq (.cond (.s 9) .skip (.exit 0)) (.seq (.block 1 (.seq (.region g246 [(mv 10 8),(mv 5 10)]) (.seq (.region g246 [(mv 11 1),(mv 12 0),(mv 13 5),(zo 14 (.idxSl 7 (.s 12) (.s 13))),(zo 15 (.load 7 true (.s 14))),(zo 16 (.call (.s 11) [.s 15]))]) (.cond (.s 16) (.seq (.region g246 [(mv 17 5),(mv 4 17)]) .ret) .skip)))) (.region g246 [(zo 18 (.bin (.add) (.s 8) (cj 1))),(mv 8 18)]))))))) (.seq (.region g246 [(zo 4 (.move (cj (-1))))]) .ret))
theorem e246:aI Tryz.prog 246 g246 [] [] []=some (c246,[.slot 4],19):=by kernel_rfl
def g212:List Nat:=[0,1,4]
def c212:aH :=
 .seq (.region g212 [(zo 4 (.move cF))]) (.seq (.region g212 [(mv 5 0),(mv 6 1),(zo 7 (.call (.c (.fn 246)) [.s 5,.s 6])),(zo 8 (.bin (.geq) (.s 7) (cj 0))),(mv 4 8)]) .ret)
theorem e212:aI Tryz.prog 212 g212 [] [] []=some (c212,[.slot 4],9):=by kernel_rfl
def Nh:Eng.Spec where
 X:=Sq En×Bool
 args:=fun x=>.cons (enE x.1) (.cons (.fn 213 (.cons (.cptr (.cons (.bool x.2) .nil)) .nil)) .nil)
 pre:=fun x=>okS x.1 okE
 res:=fun x=>.int .i64 (aZ (fun i=>pbad x.2 (x.1.f i)) x.1.n)
 inst:=fun
  | .cons a (.cons (.fn _ (.cons (.cptr (.cons c _)) _)) .nil)=>match enD a,N4 c with
   | some r,some c=>some (r,c)
   | _,_=>none
  | _=>none
theorem Ni:Nh.Ok Tryz.prog 246:=by
 refine Eng.Spec.okR e246 .nil (fun _=>[(213,.p plc0)]) (fun _ _=>aA.p Ng aA.nil) ?_
 rintro ⟨r,c⟩ ⟨(hn:r.n<=1000000),(hel:∀ i,i < r.n->okE (r.f i))⟩
 refine ⟨trivial,?_⟩
 repeat' (first|apply And.intro|exact trivial|exact rfl|exact lz fun _=>rfl)
 refine ⟨⟨Nat,fun i=>i<=r.n/\orB (fun i=>pbad c (r.f i)) i=false,fun i=>[(8,.int .i64 (i:Int))],fun _=>[],fun i=>r.n - i⟩,0,⟨Nat.zero_le _,rfl⟩,?_,?_⟩
 ·repeat' (first|apply And.intro|exact trivial|exact rfl|exact lz fun _=>rfl)
 rintro (i:Nat) ⟨(hi:i<=r.n),(hf:orB (fun i=>pbad c (r.f i)) i=false)⟩
 repeat' (first|apply And.intro|exact trivial|exact rfl|exact lz fun _=>rfl)
 ·refine fun (h:decide ((i:Int) < (r.n:Int))=true)=>?_
  have hi1:(i:Int) < (r.n:Int):=of_decide_eq_true h
  have hil:i < r.n:=by omega
  have hi0:(0:Int)<=(i:Int):=by omega
  have hok:=hel i hil
  have b1:-9223372036854775808<=(i:Int)+1:=by omega
  have b2:(i:Int)+1<=9223372036854775807:=by omega
  repeat' (first|with_reducible exact hi1|with_reducible exact hi0|apply And.intro|exact trivial|exact rfl|exact hok)
  ·refine fun (hc:pbad c (r.f i)=true)=>?_
   have e:(i:Int)=aZ (fun i=>pbad c (r.f i)) r.n:=(cI hf hc hil).symm
   repeat' (first|exact e|apply And.intro|exact trivial|exact rfl)
  ·refine fun (hc:pbad c (r.f i)=false)=>?_
   have hf1:orB (fun i=>pbad c (r.f i)) (i+1)=false:=by
    simp only [orB]
    rw [hf]
    exact hc
   repeat' (first|with_reducible exact b1|with_reducible exact b2|apply And.intro|exact trivial|exact rfl)
   refine Exists.intro (i+1) ?_
   refine And.intro (And.intro hil hf1) ?_
   repeat' (first|apply And.intro|exact trivial|exact rfl|exact lz fun _=>rfl)
   show r.n - (i+1) < r.n - i
   omega
 ·refine fun (h:decide ((i:Int) < (r.n:Int))=false)=>?_
  have hi1:¬ (i:Int) < (r.n:Int):=of_decide_eq_false h
  have e:i=r.n:=by omega
  have ef:-1=aZ (fun i=>pbad c (r.f i)) r.n:=by rw [<- e,cA hf]
  repeat' (first|exact ef|apply And.intro|exact trivial|exact rfl)
def Vo:Eng.Spec where
 X:=Sq En×Bool
 args:=Nh.args
 pre:=fun x=>okS x.1 okE
 res:=fun x=>.bool (orB (fun i=>pbad x.2 (x.1.f i)) x.1.n)
 inst:=Nh.inst
theorem R4:Vo.Ok Tryz.prog 212:=by
 refine Eng.Spec.okR e212 .nil (fun _=>[(246,.p Nh)]) (fun _ _=>aA.p Ni aA.nil) ?_
 rintro ⟨r,c⟩ ⟨(hn:r.n<=1000000),(hel:∀ i,i < r.n->okE (r.f i))⟩
 have e:=kV (f:=fun i=>pbad c (r.f i)) (n:=r.n)
 refine ⟨trivial,?_⟩
 repeat' (first|exact hn|exact hel|exact e|apply And.intro|exact trivial|exact rfl|exact lz fun _=>rfl)
def g156:List Nat:=[1,0,3,4]
def c156:aH :=
 .seq (.region g156 [(zo 3 (.box 4 (.s 1))),(zo 4 (.move cF))]) (.seq (.region g156 [(mv 5 0),(zo 6 (.mkfn 213 [.s 3])),(zo 7 (.call (.c (.fn 212)) [.s 5,.s 6])),(zo 8 (.not (.s 7))),(mv 4 8)]) .ret)
theorem e156:aI Tryz.prog 156 g156 [] [] []=some (c156,[.slot 4],9):=by kernel_rfl
def Nf (l:Sq En) (z:Bool):Bool:=!orB (fun i=>pbad z (l.f i)) l.n
def R3:Eng.Spec where
 X:=Sq En×Bool
 args:=fun x=>.cons (enE x.1) (.cons (.bool x.2) .nil)
 pre:=fun x=>okS x.1 okE
 res:=fun x=>.bool (Nf x.1 x.2)
 inst:=EV0.two enD N4
theorem Jp:R3.Ok Tryz.prog 156:=by
 refine Eng.Spec.okR e156 .nil (fun _=>[(212,.p Vo)]) (fun _ _=>aA.p R4 aA.nil) ?_
 rintro ⟨r,c⟩ ⟨(hn:r.n<=1000000),(hel:∀ i,i < r.n->okE (r.f i))⟩
 refine ⟨trivial,?_⟩
 repeat' (first|apply And.intro|exact trivial|exact rfl|exact hn|exact hel|exact lz fun _=>rfl)
end F6
