/- A part of the proof. -/
import Derived.Test.YtijddkljgihcnaaGreatDoorF7
open Go Go.Eng Go.Proofs G1 G2 G3 G4 G6 G7 EV0 N1 F1 F2 F3 F4 F5 F6 F7
set_option maxRecDepth 100000
namespace F8
def nd8 (e:Ev):Bool:=((nd0 e && bI (e.list.n:Int) 1 40) && lA e.list []) && Nf e.list true
def nd9 (e:Ev):Bool:=(bI (e.list.n:Int) 2 8 && lA e.list [e.id]) && Nf e.list false
def jnF (e:Ev) (j:Nat):B:=if j < 1 then e.id else e.ids.f (j - 1)
def nd10 (e:Ev):Bool:=((bI (e.ids.n:Int) 2 8 && mA ⟨1+e.ids.n,jnF e⟩) && kA e.num) && onB e.pt
def Oo:Eng.Spec where
 X:=Sq En
 args:=fun l=>.cons (enE l) (.cons .nilsl .nil)
 pre:=fun l=>l.n<=900000/\∀ i,i < l.n->okE (l.f i)
 res:=fun l=>.bool (lA l [])
 inst:=fun
  | .cons a _=>enD a
  | _=>none
set_option maxHeartbeats 16000000 in
theorem Mu:Oo.Ok Tryz.prog 155:=by
 refine Eng.Spec.okR e155 .nil (fun _=>[(150,.p K5),(147,.p Bw),(211,.p dHS)]) (fun _ _=>aA.p xR (aA.p pL (aA.p N5 aA.nil))) ?_
 rintro (l:Sq En) ⟨(hn:l.n<=900000),(hel:∀ i,i < l.n->okE (l.f i))⟩
 refine ⟨trivial,?_⟩
 repeat' (first|apply And.intro|exact trivial|exact rfl)
 refine ⟨⟨Nat,fun i=>i<=l.n/\orB (fun i=>!kA (l.f i).num) i=false,fun i=>[(10,.int .i64 (i:Int)),(1,.lsl 20 1 i),(5,.lsl 21 4 i)],
  fun i=>[(20,.arr 9 1 i fun j=>stL (l.f j).id),(21,.arr 51 4 i fun j=>hnL (l.f j).num)],fun i=>l.n - i⟩,0,⟨Nat.zero_le _,rfl⟩,?_,?_⟩
 ·repeat' (first|apply And.intro|exact trivial|exact rfl|exact lz fun _=>rfl)
 rintro (i:Nat) ⟨(hi:i<=l.n),(hf:orB (fun i=>!kA (l.f i).num) i=false)⟩
 repeat' (first|apply And.intro|exact trivial|exact rfl|exact lz fun _=>rfl)
 ·refine fun (h:decide ((i:Int) < (l.n:Int))=true)=>?_
  have hi1:(i:Int) < (l.n:Int):=of_decide_eq_true h
  have hil:i < l.n:=by omega
  have hi0:(0:Int)<=(i:Int):=by omega
  have b1:-9223372036854775808<=(i:Int)+1:=by omega
  have b2:(i:Int)+1<=9223372036854775807:=by omega
  repeat' (first|with_reducible exact hi1|with_reducible exact hi0|apply And.intro|exact trivial|exact rfl)
  ·refine fun (hc:(!kA (l.f i).num)=true)=>?_
   have e:false=lA l []:=by
    unfold lA
    rw [aO.2 ⟨i,hil,hc⟩]
    rfl
   repeat' (first|exact e|apply And.intro|exact trivial|exact rfl)
  ·refine fun (hc:(!kA (l.f i).num)=false)=>?_
   have hf1:orB (fun i=>!kA (l.f i).num) (i+1)=false:=wU hf hc
   have m3:i+1<=9223372036854775807:=by omega
   have m2:(i+1) * 16<=140737488355328:=by omega
   have m4:(i+1) * 40<=140737488355328:=by omega
   repeat' (first|with_reducible exact b1|with_reducible exact b2|apply And.intro|exact trivial|exact rfl)
   ·exact m3
   ·exact m2
   ·exact m3
   ·exact m4
   refine Exists.intro (i+1) (And.intro (And.intro hil hf1) ?_)
   repeat' (first|apply And.intro|exact trivial|exact rfl|exact lz fun _=>rfl)
   ·exact fun (j:Nat) (hj:j < i+1)=>EL.aV (EL.uH (g:=hnL) (f:=fun j=>(l.f j).num) rfl hj) (jC ..)
   ·exact fun (j:Nat) (hj:j < i+1)=>EL.aV (EL.uH (g:=stL) (f:=fun j=>(l.f j).id) rfl hj) (bX ..)
   ·show l.n - (i+1) < l.n - i
    omega
 ·refine fun (h:decide ((i:Int) < (l.n:Int))=false)=>?_
  have hi1:¬ (i:Int) < (l.n:Int):=of_decide_eq_false h
  have hil:i=l.n:=by omega
  have e:aE (mA ⟨i,fun j=>(l.f j).id⟩) (.s 33) cF (jE (fun j=>kH (l.f j).num) i) false=lA l []:=by
   rw [aF]
   unfold lA
   rw [<- hil,hf,nC (g:=mF l []) fun j hj=>by unfold mF; rw [if_neg (by simp)]; simp]
   simp
  repeat' (first|apply And.intro|exact trivial|exact rfl|refine gd ?_)
  ·show i<=1000000
   omega
  ·exact fun (j:Nat) (hj:j < i)=>(hel j (by omega)).1
  ·exact Nat.le_of_eq (Nat.zero_add _)
  ·exact fun (j:Nat) (_:j < i)=>EL.aV (congrArg (fun j=>stL (l.f j).id) (Nat.zero_add j)) (bX _ _ _ _)
  ·show i<=1000000
   omega
  ·exact Nat.le_of_eq (Nat.zero_add _)
  ·exact fun (j:Nat) (_:j < i)=>EL.aV (congrArg (fun j=>hnL (l.f j).num) (Nat.zero_add j)) (jC _ _ _ _)
  exact e
def g154:List Nat:=[0,1,2,3]
def c154:aH :=
 .seq (.region g154 [(zo 2 (.box 93 (.s 0))),(zo 3 (.move cF))]) (.seq (.region g154 [(ld 4 1),(zo 5 (.load 18 true (.s 2))),(zo 6 (.call (.s 4) [.s 5])),(mv 7 6),(fg 8 7 true 17 2),(lg 9 7 true 8),(zg 10 7 true (.lenSl (.s 9))),(zg 11 7 true (.call (.c (.fn 96)) [.s 10,cj 1,cj 40])),(zo 12 (.pick (.s 7) (.s 11) cF)),(mv 13 12),(fg 14 13 true 17 2),(lg 15 13 true 14),(zg 16 13 true (.call (.c (.fn 155)) [.s 15,.c (.nilsl)])),(zo 17 (.pick (.s 13) (.s 16) cF)),(mv 18 17),(fg 19 18 true 17 2),(lg 20 18 true 19),(zg 21 18 true (.call (.c (.fn 156)) [.s 20,cT])),(zo 22 (.pick (.s 18) (.s 21) cF)),(mv 3 22)]) .ret)
theorem e154:aI Tryz.prog 154 g154 [] [] []=some (c154,[.slot 3],23):=by kernel_rfl
def n8S:Eng.Spec where
 X:=Ev
 args:=fun e=>.cons (evE e) (.cons (.cptr (.cons (.fn 136 .nil) .nil)) .nil)
 pre:=okV
 res:=fun e=>.bool (nd8 e)
 inst:=ev1
theorem Va:n8S.Ok Tryz.prog 154:=by
 refine Eng.Spec.okR e154 .nil (fun _=>[(136,.p n0S),(96,.p xT),(155,.p Oo),(156,.p R3)]) (fun _ _=>aA.p sX (aA.p lM (aA.p Mu (aA.p Jp aA.nil)))) ?_
 rintro (e:Ev) (h:okV e)
 have hl:=h.list
 have hl1:=hl.1
 have hl2:e.list.n<=1000000:=by omega
 have hl3:=hl.2
 refine ⟨trivial,?_⟩
 repeat' (first|exact h|apply And.intro|exact trivial|exact rfl|exact lz fun _=>rfl|refine gd ?_|exact hl1|exact hl2|exact hl3)
theorem tf {b:Bool} {P:Prop} (h:b=true) (h':b=!true):P:=by rw [h] at h'; cases h'
theorem ft {b:Bool} {P:Prop} (h:b=!true) (h':b=true):P:=by rw [h] at h'; cases h'
def g157:List Nat:=[0,1,2]
def c157:aH :=
 .seq (.region g157 [(zo 1 (.box 93 (.s 0))),(zo 2 (.move cF))]) (.seq (.region g157 [(fa 3 17 1),(ld 4 3),(zo 5 (.lenSl (.s 4))),(zo 6 (.call (.c (.fn 96)) [.s 5,cj 2,cj 8])),(mv 7 6),(fg 8 7 true 17 1),(lg 9 7 true 8),(fg 10 7 true 5 1),(lg 11 7 true 10),(zg 12 7 true (.buildSl 9 1 1 (.cons (.str []) .nil) [(0,1,.s 11)])),(zg 13 7 true (.call (.c (.fn 155)) [.s 9,.s 12])),(zo 14 (.pick (.s 7) (.s 13) cF)),(mv 15 14),(fg 16 15 true 17 1),(lg 17 15 true 16),(zg 18 15 true (.call (.c (.fn 156)) [.s 17,cF])),(zo 19 (.pick (.s 15) (.s 18) cF)),(mv 2 19)]) .ret)
theorem e157:aI Tryz.prog 157 g157 [] [] []=some (c157,[.slot 2],20):=by kernel_rfl
def n9S:Eng.Spec where
 X:=Ev
 args:=fun e=>.cons (evE e) .nil
 pre:=okV
 res:=fun e=>.bool (nd9 e)
 inst:=ev1
theorem lit1 {x:B} {j:Nat} (h:j < 1):aJ (.cons (stL x) .nil) j=stL (([x]:List B).getD j []):=by
 rw [show j=0 by omega]
 rfl
theorem Vb:n9S.Ok Tryz.prog 157:=by
 refine Eng.Spec.okR e157 .nil (fun _=>[(96,.p xT),(155,.m Uv),(156,.p R3),(2097152,.own)]) (fun _ _=>aA.p lM (aA.m Q6 (aA.p Jp (aA.o aA.nil)))) ?_
 rintro (e:Ev) (h:okV e)
 have hl:=h.list
 have hl1:=hl.1
 have hl2:e.list.n<=1000000:=by omega
 have hl3:=hl.2
 have hid:=h.id
 have hmo:∀ j,j < [e.id].length->okT ([e.id].getD j []):=fun j hj=>by
  have:j=0:=by simpa using hj
  subst this
  exact hid
 refine ⟨trivial,?_⟩
 repeat' (first|exact h|apply And.intro|exact trivial|exact rfl|exact lz fun _=>rfl)
 ·refine fun (hc:bI (e.list.n:Int) 2 8=true)=>?_
  repeat' (first|apply And.intro|exact trivial|exact rfl|exact lz fun _=>rfl|exact fun (h:bI (e.list.n:Int) 2 8=!true)=>tf hc h|refine fun (_:bI (e.list.n:Int) 2 8=true)=>?_)
  refine Exists.intro (e.list,[e.id]) (Exists.intro [1] ?_)
  have hpre:(e.list.n<=900000/\∀ i,i < e.list.n->okE (e.list.f i))/\([e.id]:List B).length<=1000/\∀ j,j < [e.id].length->okT ([e.id].getD j []):=⟨hl,by simp,hmo⟩
  refine And.intro hpre ?_
  have e1:((bI (e.list.n:Int) 2 8 && lA e.list [e.id]) && Nf e.list false)=nd9 e:=rfl
  repeat' (first|apply And.intro|exact trivial|exact rfl|exact lz fun _=>rfl|refine gd ?_)
  ·exact fun (j:Nat) (hj:j < 1)=>EL.aV (lit1 hj) (bX _ _ _ _)
  refine fun (_:Unit) (_:True)=>?_
  repeat' (first|apply And.intro|exact trivial|exact rfl|exact lz fun _=>rfl|refine gd ?_|exact hl2|exact hl3)
 ·refine fun (hc:bI (e.list.n:Int) 2 8=!true)=>?_
  have hc':bI (e.list.n:Int) 2 8=false:=hc
  have e1:false=nd9 e:=by unfold nd9; rw [hc']; rfl
  repeat' (first|apply And.intro|exact trivial|exact rfl|exact lz fun _=>rfl|exact fun (h:bI (e.list.n:Int) 2 8=true)=>ft hc h|refine fun (_:bI (e.list.n:Int) 2 8=!true)=>?_)
  ·exact hc'
  ·exact fun (h:false=true)=>Bool.noConfusion h
  ·exact e1
def g158:List Nat:=[0,1,2]
def c158:aH :=
 .seq (.region g158 [(zo 1 (.box 93 (.s 0))),(zo 2 (.move cF))]) (.seq (.region g158 [(fa 3 8 1),(ld 4 3),(zo 5 (.lenSl (.s 4))),(zo 6 (.call (.c (.fn 96)) [.s 5,cj 2,cj 8])),(mv 7 6),(fg 8 7 true 5 1),(lg 9 7 true 8),(zg 10 7 true (.buildSl 9 1 1 (.cons (.str []) .nil) [(0,1,.s 9)])),(fg 11 7 true 8 1),(lg 12 7 true 11),(zg 13 7 true (.app 9 1 16 (.s 10) (.s 12))),(zg 14 7 true (.call (.c (.fn 147)) [.s 13])),(zo 15 (.pick (.s 7) (.s 14) cF)),(mv 16 15),(fg 17 16 true 10 1),(zg 18 16 true (.load 4 true (.s 17))),(zg 19 16 true (.call (.c (.fn 150)) [.s 18])),(zo 20 (.pick (.s 16) (.s 19) cF)),(mv 21 20),(fg 22 21 true 14 1),(zg 23 21 true (.load 2 true (.s 22))),(zg 24 21 true (.call (.c (.fn 151)) [.s 23])),(zo 25 (.pick (.s 21) (.s 24) cF)),(mv 2 25)]) .ret)
theorem e158:aI Tryz.prog 158 g158 [] [] []=some (c158,[.slot 2],26):=by kernel_rfl
def Uz:Eng.Spec where
 X:=Ev
 args:=fun e=>.cons (evE e) .nil
 pre:=okV
 res:=fun e=>.bool (nd10 e)
 inst:=ev1
theorem Rb:Uz.Ok Tryz.prog 158:=by
 refine Eng.Spec.okR e158 .nil (fun _=>[(96,.p xT),(147,.p Bw),(150,.p K5),(151,.p On),(2097152,.own)]) (fun _ _=>aA.p lM (aA.p pL (aA.p xR (aA.p rR (aA.o aA.nil))))) ?_
 rintro (e:Ev) (h:okV e)
 have hl:=h.ids
 have hid:=h.id
 have hf:∀ j,j < 1+e.ids.n->bH (aJ (cU 1 (aJ (.cons (stL e.id) .nil)) (fun i=>stL (e.ids.f i)) j) 0)=jnF e j:=fun j hj=>by
  unfold cU jnF
  by_cases h:j < 1
  ·rw [show Nat.blt j 1=true from Nat.ble_eq_true_of_le h,cond_true,if_pos h,show j=0 by omega]
   rfl
  ·have:Nat.blt j 1=false:=by
    cases hb:Nat.blt j 1 with
    | false=>rfl
    | true=>exact absurd (Nat.le_of_ble_eq_true hb) h
   rw [this,cond_false,if_neg h]
   rfl
 have hfo:∀ j,j < 1+e.ids.n->okT (bH (aJ (cU 1 (aJ (.cons (stL e.id) .nil)) (fun i=>stL (e.ids.f i)) j) 0)):=fun j hj=>by
  rw [hf j hj]
  unfold jnF
  split
  ·exact hid
  ·exact hl.2 _ (by omega)
 have es:∀ j,j < 1+e.ids.n->cU 1 (aJ (.cons (stL e.id) .nil)) (fun i=>stL (e.ids.f i)) (0+j)=stL (bH (aJ (cU 1 (aJ (.cons (stL e.id) .nil)) (fun i=>stL (e.ids.f i)) j) 0)):=fun j hj=>by
  rw [hf j hj,Nat.zero_add]
  unfold cU jnF
  by_cases h:j < 1
  ·rw [show Nat.blt j 1=true from Nat.ble_eq_true_of_le h,cond_true,if_pos h,show j=0 by omega]
   rfl
  ·have:Nat.blt j 1=false:=by
    cases hb:Nat.blt j 1 with
    | false=>rfl
    | true=>exact absurd (Nat.le_of_ble_eq_true hb) h
   rw [this,cond_false,if_neg h]
 have e0:mA ⟨1+e.ids.n,fun j=>bH (aJ (cU 1 (aJ (.cons (stL e.id) .nil)) (fun i=>stL (e.ids.f i)) j) 0)⟩=mA ⟨1+e.ids.n,jnF e⟩:=nC hf
 refine ⟨trivial,?_⟩
 repeat' (first|exact h|apply And.intro|exact trivial|exact rfl|exact lz fun _=>rfl)
 ·refine fun (hc:bI (e.ids.n:Int) 2 8=true)=>?_
  have hw:e.ids.n<=8:=by
   unfold bI at hc
   simp only [Bool.and_eq_true,decide_eq_true_eq] at hc
   omega
  have e1:(((bI (e.ids.n:Int) 2 8 && mA ⟨1+e.ids.n,fun j=>bH (aJ (cU 1 (aJ (.cons (stL e.id) .nil)) (fun i=>stL (e.ids.f i)) j) 0)⟩) && kA e.num) && onB e.pt)=nd10 e:=by
   rw [e0]; rfl
  repeat' (first|apply And.intro|exact trivial|exact rfl|exact lz fun _=>rfl|exact fun (h:bI (e.ids.n:Int) 2 8=!true)=>tf hc h|refine fun (_:bI (e.ids.n:Int) 2 8=true)=>?_|refine gd ?_)
  ·exact fun (j:Nat) (_:j < e.ids.n)=>rfl
  ·show 1+e.ids.n<=9223372036854775807
   omega
  ·show (1+e.ids.n) * 16<=140737488355328
   omega
  ·show 1+e.ids.n<=1000000
   omega
  ·exact hfo
  ·exact Nat.le_of_eq (Nat.zero_add _)
  ·exact fun (j:Nat) (hj:j < 1+e.ids.n)=>EL.aV (es j hj) (bX _ _ _ _)
  exact e1
 ·refine fun (hc:bI (e.ids.n:Int) 2 8=!true)=>?_
  have hc':bI (e.ids.n:Int) 2 8=false:=hc
  have e1:false=nd10 e:=by unfold nd10; rw [hc']; rfl
  repeat' (first|apply And.intro|exact trivial|exact rfl|exact lz fun _=>rfl|exact fun (h:bI (e.ids.n:Int) 2 8=true)=>ft hc h|refine fun (_:bI (e.ids.n:Int) 2 8=!true)=>?_)
  ·exact hc'
  all_goals first|exact fun (h:false=true)=>Bool.noConfusion h|exact e1|skip
end F8
