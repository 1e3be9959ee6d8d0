/- A part of the proof. -/
import Derived.Test.YtlfdokecdilkcaaGreatDoorF7
open Go Go.Eng Go.Proofs G1 G2 G3 G4 G6 G7 EV0 N1 N2 F1 F2 F3 F4 F5 F6 F7
set_option maxRecDepth 100000
namespace F8
def nd8 (e:Ev):Bool:=((nd0 e && cJ (e.list.n:Int) 1 40) && iP e.list []) && uS e.list true
def nd9 (e:Ev):Bool:=(cJ (e.list.n:Int) 2 8 && iP e.list [e.id]) && uS e.list false
def jnF (e:Ev) (j:Nat):B:=if j < 1 then e.id else e.ids.f (j - 1)
def nd10 (e:Ev):Bool:=((cJ (e.ids.n:Int) 2 8 && jS ⟨1+e.ids.n,jnF e⟩) && cE e.num) && onB e.pt
def Pc:Eng.Spec where
 X:=Sq En
 args:=fun l=>.cons (enE l) (.cons .nilsl .nil)
 pre:=fun l=>l.n<=900000/\∀ i,i < l.n->okE (l.f i)
 res:=fun l=>.bool (iP l [])
 inst:=fun
  | .cons a _=>enD a
  | _=>none
set_option maxHeartbeats 16000000 in
theorem Ng:Pc.Ok Tryz.prog 99:=by
 refine Eng.Spec.okR e99 q99 (fun _=>[(95,.p Hp),(92,.p Cg),(137,.p dHS)]) (fun _ _=>aA.p uG (aA.p lR (aA.p Ox aA.nil))) ?_
 rintro (l:Sq En) ⟨(hn:l.n<=900000),(hel:∀ i,i < l.n->okE (l.f i))⟩
 refine ⟨trivial,?_⟩
 repeat' (first|apply And.intro|exact trivial|exact rfl)
 refine ⟨⟨Nat,fun i=>i<=l.n/\orB (fun i=>!cE (l.f i).num) i=false,fun i=>[(10,.int .i64 (i:Int)),(1,.lsl 20 1 i),(5,.lsl 21 4 i)],
  fun i=>[(20,.arr 9 1 i fun j=>stL (l.f j).id),(21,.arr 25 4 i fun j=>hnL (l.f j).num)],fun i=>l.n - i⟩,0,⟨Nat.zero_le _,rfl⟩,?_,?_⟩
 ·repeat' (first|apply And.intro|exact trivial|exact rfl|exact lz fun _=>rfl)
 rintro (i:Nat) ⟨(hi:i<=l.n),(hf:orB (fun i=>!cE (l.f i).num) i=false)⟩
 repeat' (first|apply And.intro|exact trivial|exact rfl|exact lz fun _=>rfl)
 ·refine fun (h:decide ((i:Int) < (l.n:Int))=true)=>?_
  have hi1:(i:Int) < (l.n:Int):=of_decide_eq_true h
  have hil:i < l.n:=by omega
  have hi0:(0:Int)<=(i:Int):=by omega
  have b1:-9223372036854775808<=(i:Int)+1:=by omega
  have b2:(i:Int)+1<=9223372036854775807:=by omega
  repeat' (first|with_reducible exact hi1|with_reducible exact hi0|apply And.intro|exact trivial|exact rfl)
  ·refine fun (hc:(!cE (l.f i).num)=true)=>?_
   have e:false=iP l []:=by
    unfold iP
    rw [bK.2 ⟨i,hil,hc⟩]
    rfl
   repeat' (first|exact e|apply And.intro|exact trivial|exact rfl)
  ·refine fun (hc:(!cE (l.f i).num)=false)=>?_
   have hf1:orB (fun i=>!cE (l.f i).num) (i+1)=false:=xR hf hc
   have m3:i+1<=9223372036854775807:=by omega
   have m2:(i+1) * 16<=140737488355328:=by omega
   have m4:(i+1) * 40<=140737488355328:=by omega
   repeat' (first|with_reducible exact b1|with_reducible exact b2|apply And.intro|exact trivial|exact rfl)
   ·exact m3
   ·exact m2
   ·exact m3
   ·exact m4
   refine Exists.intro (i+1) (And.intro (And.intro hil hf1) ?_)
   repeat' (first|apply And.intro|exact trivial|exact rfl|exact lz fun _=>rfl)
   ·exact fun (j:Nat) (hj:j < i+1)=>EL.aY (EL.lE (g:=hnL) (f:=fun j=>(l.f j).num) rfl hj) (jX ..)
   ·exact fun (j:Nat) (hj:j < i+1)=>EL.aY (EL.lE (g:=stL) (f:=fun j=>(l.f j).id) rfl hj) (fD ..)
   ·show l.n - (i+1) < l.n - i
    omega
 ·refine fun (h:decide ((i:Int) < (l.n:Int))=false)=>?_
  have hi1:¬ (i:Int) < (l.n:Int):=of_decide_eq_false h
  have hil:i=l.n:=by omega
  have e:aG (jS ⟨i,fun j=>(l.f j).id⟩) (.s 33) (.c (.bool false)) (jZ (fun j=>kH (l.f j).num) i) false=iP l []:=by
   rw [aJ]
   unfold iP
   rw [<- hil,hf,iN (g:=mF l []) fun j hj=>by unfold mF; rw [if_neg (by simp)]; simp]
   simp
  repeat' (first|apply And.intro|exact trivial|exact rfl|(refine fun (_:aH _ _ _ _)=>?_))
  ·show i<=1000000
   omega
  ·exact fun (j:Nat) (hj:j < i)=>(hel j (by omega)).1
  ·exact Nat.le_of_eq (Nat.zero_add _)
  ·exact fun (j:Nat) (_:j < i)=>EL.aY (congrArg (fun j=>stL (l.f j).id) (Nat.zero_add j)) (fD _ _ _ _)
  ·show i<=1000000
   omega
  ·exact Nat.le_of_eq (Nat.zero_add _)
  ·exact fun (j:Nat) (_:j < i)=>EL.aY (congrArg (fun j=>hnL (l.f j).num) (Nat.zero_add j)) (jX _ _ _ _)
  exact e
def g98:List Nat:=[0,1,2,3]
def c98:aD :=
 .seq (.region g98 [(zo 2 (.box 31 (.s 0))),(zo 3 (.move (.c (.bool false))))]) (.seq (.region g98 [(zo 4 (.load 1 false (.s 1))),(zo 5 (.load 18 true (.s 2))),(zo 6 (.call (.s 4) [.s 5])),(zo 7 (.move (.s 6))),(zg 8 7 true (.fldA 17 (.s 2))),(zg 9 7 true (.load 1 false (.s 8))),(zg 10 7 true (.lenSl (.s 9))),(zg 11 7 true (.call (.c (.fn 47)) [.s 10,.c (.int .i64 1),.c (.int .i64 40)])),(zo 12 (.pick (.s 7) (.s 11) (.c (.bool false)))),(zo 13 (.move (.s 12))),(zg 14 13 true (.fldA 17 (.s 2))),(zg 15 13 true (.load 1 false (.s 14))),(zg 16 13 true (.call (.c (.fn 99)) [.s 15,.c (.nilsl)])),(zo 17 (.pick (.s 13) (.s 16) (.c (.bool false)))),(zo 18 (.move (.s 17))),(zg 19 18 true (.fldA 17 (.s 2))),(zg 20 18 true (.load 1 false (.s 19))),(zg 21 18 true (.call (.c (.fn 100)) [.s 20,.c (.bool true)])),(zo 22 (.pick (.s 18) (.s 21) (.c (.bool false)))),(zo 3 (.move (.s 22)))]) .ret)
def r98:List aR:=[.slot 3]
def k98:List (Nat×Nat×aD×Nat):=[]
theorem e98:aK Tryz.prog 98 g98 [] [] k98=some (c98,r98,23):=by kernel_rfl
theorem q98:aF Tryz.prog k98:=aF.nil
def n8S:Eng.Spec where
 X:=Ev
 args:=fun e=>.cons (evE e) (.cons (.cptr (.cons (.fn 81 .nil) .nil)) .nil)
 pre:=okV
 res:=fun e=>.bool (nd8 e)
 inst:=ev1
theorem U1:n8S.Ok Tryz.prog 98:=by
 refine Eng.Spec.okR e98 q98 (fun _=>[(81,.p n0S),(47,.p yQ),(99,.p Pc),(100,.p Sa)]) (fun _ _=>aA.p tK (aA.p mB (aA.p Ng (aA.p J6 aA.nil)))) ?_
 rintro (e:Ev) (h:okV e)
 have hl:=h.list
 have hl1:=hl.1
 have hl2:e.list.n<=1000000:=by omega
 have hl3:=hl.2
 refine ⟨trivial,?_⟩
 repeat' (first|exact h|apply And.intro|exact trivial|exact rfl|exact lz fun _=>rfl|(refine fun (_:aH _ _ _ _)=>?_)|exact hl1|exact hl2|exact hl3)
theorem tf {b:Bool} {P:Prop} (h:b=true) (h':b=!true):P:=by rw [h] at h'; cases h'
theorem ft {b:Bool} {P:Prop} (h:b=!true) (h':b=true):P:=by rw [h] at h'; cases h'
def g101:List Nat:=[0,1,2]
def c101:aD :=
 .seq (.region g101 [(zo 1 (.box 31 (.s 0))),(zo 2 (.move (.c (.bool false))))]) (.seq (.region g101 [(zo 3 (.fldA 17 (.s 1))),(zo 4 (.load 1 false (.s 3))),(zo 5 (.lenSl (.s 4))),(zo 6 (.call (.c (.fn 47)) [.s 5,.c (.int .i64 2),.c (.int .i64 8)])),(zo 7 (.move (.s 6))),(zg 8 7 true (.fldA 17 (.s 1))),(zg 9 7 true (.load 1 false (.s 8))),(zg 10 7 true (.fldA 5 (.s 1))),(zg 11 7 true (.load 1 false (.s 10))),(zg 12 7 true (.buildSl 9 1 1 (.cons (.str []) .nil) [(0,1,.s 11)])),(zg 13 7 true (.call (.c (.fn 99)) [.s 9,.s 12])),(zo 14 (.pick (.s 7) (.s 13) (.c (.bool false)))),(zo 15 (.move (.s 14))),(zg 16 15 true (.fldA 17 (.s 1))),(zg 17 15 true (.load 1 false (.s 16))),(zg 18 15 true (.call (.c (.fn 100)) [.s 17,.c (.bool false)])),(zo 19 (.pick (.s 15) (.s 18) (.c (.bool false)))),(zo 2 (.move (.s 19)))]) .ret)
def r101:List aR:=[.slot 2]
def k101:List (Nat×Nat×aD×Nat):=[]
theorem e101:aK Tryz.prog 101 g101 [] [] k101=some (c101,r101,20):=by kernel_rfl
theorem q101:aF Tryz.prog k101:=aF.nil
def n9S:Eng.Spec where
 X:=Ev
 args:=fun e=>.cons (evE e) .nil
 pre:=okV
 res:=fun e=>.bool (nd9 e)
 inst:=ev1
theorem lit1 {x:B} {j:Nat} (h:j < 1):bI (.cons (stL x) .nil) j=stL (([x]:List B).getD j []):=by
 rw [show j=0 by omega]
 rfl
theorem U2:n9S.Ok Tryz.prog 101:=by
 refine Eng.Spec.okR e101 q101 (fun _=>[(47,.p yQ),(99,.m Un),(100,.p Sa),(2097152,.own)]) (fun _ _=>aA.p mB (aA.m Ri (aA.p J6 (aA.o aA.nil)))) ?_
 rintro (e:Ev) (h:okV e)
 have hl:=h.list
 have hl1:=hl.1
 have hl2:e.list.n<=1000000:=by omega
 have hl3:=hl.2
 have hid:=h.id
 have hmo:∀ j,j < [e.id].length->okT ([e.id].getD j []):=fun j hj=>by
  have:j=0:=by simpa using hj
  subst this
  exact hid
 refine ⟨trivial,?_⟩
 repeat' (first|exact h|apply And.intro|exact trivial|exact rfl|exact lz fun _=>rfl)
 ·refine fun (hc:cJ (e.list.n:Int) 2 8=true)=>?_
  repeat' (first|apply And.intro|exact trivial|exact rfl|exact lz fun _=>rfl|exact fun (h:cJ (e.list.n:Int) 2 8=!true)=>tf hc h|refine fun (_:cJ (e.list.n:Int) 2 8=true)=>?_)
  refine Exists.intro (e.list,[e.id]) (Exists.intro [1] ?_)
  have hpre:(e.list.n<=900000/\∀ i,i < e.list.n->okE (e.list.f i))/\([e.id]:List B).length<=1000/\∀ j,j < [e.id].length->okT ([e.id].getD j []):=⟨hl,by simp,hmo⟩
  refine And.intro hpre ?_
  have e1:((cJ (e.list.n:Int) 2 8 && iP e.list [e.id]) && uS e.list false)=nd9 e:=rfl
  repeat' (first|apply And.intro|exact trivial|exact rfl|exact lz fun _=>rfl|(refine fun (_:aH _ _ _ _)=>?_))
  ·exact fun (j:Nat) (hj:j < 1)=>EL.aY (lit1 hj) (fD _ _ _ _)
  refine fun (_:Unit) (_:True)=>?_
  repeat' (first|apply And.intro|exact trivial|exact rfl|exact lz fun _=>rfl|(refine fun (_:aH _ _ _ _)=>?_)|exact hl2|exact hl3)
 ·refine fun (hc:cJ (e.list.n:Int) 2 8=!true)=>?_
  have hc':cJ (e.list.n:Int) 2 8=false:=hc
  have e1:false=nd9 e:=by unfold nd9; rw [hc']; rfl
  repeat' (first|apply And.intro|exact trivial|exact rfl|exact lz fun _=>rfl|exact fun (h:cJ (e.list.n:Int) 2 8=true)=>ft hc h|refine fun (_:cJ (e.list.n:Int) 2 8=!true)=>?_)
  ·exact hc'
  ·exact fun (h:false=true)=>Bool.noConfusion h
  ·exact e1
def g102:List Nat:=[0,1,2]
def c102:aD :=
 .seq (.region g102 [(zo 1 (.box 31 (.s 0))),(zo 2 (.move (.c (.bool false))))]) (.seq (.region g102 [(zo 3 (.fldA 8 (.s 1))),(zo 4 (.load 1 false (.s 3))),(zo 5 (.lenSl (.s 4))),(zo 6 (.call (.c (.fn 47)) [.s 5,.c (.int .i64 2),.c (.int .i64 8)])),(zo 7 (.move (.s 6))),(zg 8 7 true (.fldA 5 (.s 1))),(zg 9 7 true (.load 1 false (.s 8))),(zg 10 7 true (.buildSl 9 1 1 (.cons (.str []) .nil) [(0,1,.s 9)])),(zg 11 7 true (.fldA 8 (.s 1))),(zg 12 7 true (.load 1 false (.s 11))),(zg 13 7 true (.app 9 1 16 (.s 10) (.s 12))),(zg 14 7 true (.call (.c (.fn 92)) [.s 13])),(zo 15 (.pick (.s 7) (.s 14) (.c (.bool false)))),(zo 16 (.move (.s 15))),(zg 17 16 true (.fldA 10 (.s 1))),(zg 18 16 true (.load 4 true (.s 17))),(zg 19 16 true (.call (.c (.fn 95)) [.s 18])),(zo 20 (.pick (.s 16) (.s 19) (.c (.bool false)))),(zo 21 (.move (.s 20))),(zg 22 21 true (.fldA 14 (.s 1))),(zg 23 21 true (.load 2 true (.s 22))),(zg 24 21 true (.call (.c (.fn 23)) [.s 23])),(zo 25 (.pick (.s 21) (.s 24) (.c (.bool false)))),(zo 2 (.move (.s 25)))]) .ret)
def r102:List aR:=[.slot 2]
def k102:List (Nat×Nat×aD×Nat):=[]
theorem e102:aK Tryz.prog 102 g102 [] [] k102=some (c102,r102,26):=by kernel_rfl
theorem q102:aF Tryz.prog k102:=aF.nil
def Uq:Eng.Spec where
 X:=Ev
 args:=fun e=>.cons (evE e) .nil
 pre:=okV
 res:=fun e=>.bool (nd10 e)
 inst:=ev1
theorem Rm:Uq.Ok Tryz.prog 102:=by
 refine Eng.Spec.okR e102 q102 (fun _=>[(47,.p yQ),(92,.p Cg),(95,.p Hp),(23,.p On),(2097152,.own)]) (fun _ _=>aA.p mB (aA.p lR (aA.p uG (aA.p uX (aA.o aA.nil))))) ?_
 rintro (e:Ev) (h:okV e)
 have hl:=h.ids
 have hid:=h.id
 have hf:∀ j,j < 1+e.ids.n->gV (bI (gD 1 (bI (.cons (stL e.id) .nil)) (fun i=>stL (e.ids.f i)) j) 0)=jnF e j:=fun j hj=>by
  unfold gD jnF
  by_cases h:j < 1
  ·rw [show Nat.blt j 1=true from Nat.ble_eq_true_of_le h,cond_true,if_pos h,show j=0 by omega]
   rfl
  ·have:Nat.blt j 1=false:=by
    cases hb:Nat.blt j 1 with
    | false=>rfl
    | true=>exact absurd (Nat.le_of_ble_eq_true hb) h
   rw [this,cond_false,if_neg h]
   rfl
 have hfo:∀ j,j < 1+e.ids.n->okT (gV (bI (gD 1 (bI (.cons (stL e.id) .nil)) (fun i=>stL (e.ids.f i)) j) 0)):=fun j hj=>by
  rw [hf j hj]
  unfold jnF
  split
  ·exact hid
  ·exact hl.2 _ (by omega)
 have es:∀ j,j < 1+e.ids.n->gD 1 (bI (.cons (stL e.id) .nil)) (fun i=>stL (e.ids.f i)) (0+j)=stL (gV (bI (gD 1 (bI (.cons (stL e.id) .nil)) (fun i=>stL (e.ids.f i)) j) 0)):=fun j hj=>by
  rw [hf j hj,Nat.zero_add]
  unfold gD jnF
  by_cases h:j < 1
  ·rw [show Nat.blt j 1=true from Nat.ble_eq_true_of_le h,cond_true,if_pos h,show j=0 by omega]
   rfl
  ·have:Nat.blt j 1=false:=by
    cases hb:Nat.blt j 1 with
    | false=>rfl
    | true=>exact absurd (Nat.le_of_ble_eq_true hb) h
   rw [this,cond_false,if_neg h]
 have e0:jS ⟨1+e.ids.n,fun j=>gV (bI (gD 1 (bI (.cons (stL e.id) .nil)) (fun i=>stL (e.ids.f i)) j) 0)⟩=jS ⟨1+e.ids.n,jnF e⟩:=iN hf
 refine ⟨trivial,?_⟩
 repeat' (first|exact h|apply And.intro|exact trivial|exact rfl|exact lz fun _=>rfl)
 ·refine fun (hc:cJ (e.ids.n:Int) 2 8=true)=>?_
  have hw:e.ids.n<=8:=by
   unfold cJ at hc
   simp only [Bool.and_eq_true,decide_eq_true_eq] at hc
   omega
  have e1:(((cJ (e.ids.n:Int) 2 8 && jS ⟨1+e.ids.n,fun j=>gV (bI (gD 1 (bI (.cons (stL e.id) .nil)) (fun i=>stL (e.ids.f i)) j) 0)⟩) && cE e.num) && onB e.pt)=nd10 e:=by
   rw [e0]; rfl
  repeat' (first|apply And.intro|exact trivial|exact rfl|exact lz fun _=>rfl|exact fun (h:cJ (e.ids.n:Int) 2 8=!true)=>tf hc h|refine fun (_:cJ (e.ids.n:Int) 2 8=true)=>?_|(refine fun (_:aH _ _ _ _)=>?_))
  ·exact fun (j:Nat) (_:j < e.ids.n)=>rfl
  ·show 1+e.ids.n<=9223372036854775807
   omega
  ·show (1+e.ids.n) * 16<=140737488355328
   omega
  ·show 1+e.ids.n<=1000000
   omega
  ·exact hfo
  ·exact Nat.le_of_eq (Nat.zero_add _)
  ·exact fun (j:Nat) (hj:j < 1+e.ids.n)=>EL.aY (es j hj) (fD _ _ _ _)
  exact e1
 ·refine fun (hc:cJ (e.ids.n:Int) 2 8=!true)=>?_
  have hc':cJ (e.ids.n:Int) 2 8=false:=hc
  have e1:false=nd10 e:=by unfold nd10; rw [hc']; rfl
  repeat' (first|apply And.intro|exact trivial|exact rfl|exact lz fun _=>rfl|exact fun (h:cJ (e.ids.n:Int) 2 8=true)=>ft hc h|refine fun (_:cJ (e.ids.n:Int) 2 8=!true)=>?_)
  ·exact hc'
  all_goals first|exact fun (h:false=true)=>Bool.noConfusion h|exact e1|skip
end F8
