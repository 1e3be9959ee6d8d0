/- A part of the proof. -/
import Derived.Test.YtijddkljgihcnaaGreatDoorV2
import Derived.WalkKit
import Derived.Test.YtijddkljgihcnaaGreatDoorN1
import Derived.Lib.Split
import Derived.Lib.IndexMore
section
namespace Go.Eng
open Go Go.RowKit Go.Proofs Go.Shelf Go.Sort
theorem P2 (s:ByteArray) (i:Nat) (hi:i < s.size) (b:UInt8) (hb:s.data.toList[i]?=some b) (h:128<=b.toNat):128<=(Utf8.decode s i).1:=by
 have hg:s.get! i=b:=by
  have e:s.get! i=s[i]'hi:=by
   show s.data.get!Internal i=_
   simp [getElem!_pos,hi]
   rfl
  have:=Lib.data_getElem? s i hi
  rw [hb] at this
  rw [e]
  exact (Option.some.inj this).symm
 rw [Lib.decode_at,hg]
 unfold Lib.decodeN
 rw [if_neg (by omega)]
 (repeat' split) <;> simp only <;> omega
theorem P4 (s:ByteArray) (i:Nat) (hi:i < s.size) (b:UInt8) (hb:s.data.toList[i]?=some b) (h:b.toNat < 128):Utf8.decode s i=(b.toNat,1):=by
 have:=Lib.data_getElem? s i hi
 rw [hb] at this
 have e:=Option.some.inj this
 rw [decode_ascii s i hi (by rw [<- e]; exact h),<- e]
theorem yR {p:Nat->Bool} (hp:∀ c,128<=c->p c=true) (s:ByteArray):∀ (f pos:Nat),s.size - pos<=f->(0<=Lib.idxFuncFrom p true s f pos ↔ ∃ j b,pos<=j/\s.data.toList[j]?=some b/\p b.toNat=true):=by
 intro f
 induction f with
 | zero =>
  intro pos h
  constructor
  ·intro h; exact absurd h (by simp [Lib.idxFuncFrom])
  ·rintro ⟨j,b,h1,h2,_⟩
   have:=(List.getElem?_eq_some_iff.1 h2).1
   rw [<- Lib.size_eq] at this
   omega
 | succ f ih =>
  intro pos h
  unfold Lib.idxFuncFrom
  split
  ·rename_i hlt
   obtain ⟨b,hb⟩:∃ b,s.data.toList[pos]?=some b:=⟨_,List.getElem?_eq_getElem (by rw [<- Lib.size_eq]; exact hlt)⟩
   by_cases h128:b.toNat < 128
   ·rw [P4 s pos hlt b hb h128]
    simp only
    split
    ·rename_i hpb
     exact ⟨fun _=>⟨pos,b,Nat.le_refl _,hb,hpb⟩,fun _=>Int.natCast_nonneg _⟩
    ·rename_i hpb
     rw [ih (pos+1) (by omega)]
     constructor
     ·rintro ⟨j,c,h1,h2,h3⟩; exact ⟨j,c,by omega,h2,h3⟩
     ·rintro ⟨j,c,h1,h2,h3⟩
      by_cases e:j=pos
      ·subst e; rw [hb] at h2; obtain rfl:=Option.some.inj h2; exact absurd h3 hpb
      ·exact ⟨j,c,by omega,h2,h3⟩
   ·have h1:p (Utf8.decode s pos).1=true:=hp _ (P2 s pos hlt b hb (by omega))
    rw [if_pos h1]
    exact ⟨fun _=>⟨pos,b,Nat.le_refl _,hb,hp _ (by omega)⟩,fun _=>Int.natCast_nonneg _⟩
  ·rename_i hlt
   constructor
   ·intro h; exact absurd h (by decide)
   ·rintro ⟨j,b,h1,h2,_⟩
    have:=(List.getElem?_eq_some_iff.1 h2).1
    rw [<- Lib.size_eq] at this
    omega
theorem Mj {p:Nat->Bool} (hp:∀ c,128<=c->p c=true) (t:List UInt8):decide (0<=Lib.idxFunc p true ⟨t.toArray⟩)=t.any fun b=>p b.toNat:=by
 rw [Bool.eq_iff_iff,decide_eq_true_iff,List.any_eq_true]
 unfold Lib.idxFunc
 rw [yR hp ⟨t.toArray⟩ (ByteArray.size ⟨t.toArray⟩) 0 (Nat.le_refl (ByteArray.size ⟨t.toArray⟩))]
 constructor
 ·rintro ⟨j,b,_,h2,h3⟩; exact ⟨b,List.mem_of_getElem? h2,h3⟩
 ·rintro ⟨b,h2,h3⟩
  obtain ⟨j,hj⟩:=List.getElem?_of_mem h2
  exact ⟨j,b,Nat.zero_le _,hj,h3⟩
def fN (g:Nat) (p:Nat->Bool):Spec where
 X:=List UInt8
 args:=fun x=>.cons (.str x) (.cons (.fn g .nil) .nil)
 pre:=fun _=>True
 res:=fun x=>.bool (x.any fun b=>p b.toNat)
 inst:=fun s=>match s with
  | .cons (.str t) _=>some t
  | _=>none
theorem qK (hD:DRN=false) {P:Program} {ρ:Ren} (L:LaysGw.n17 P ρ) {g:Nat} {p:Nat->Bool} (hgm:Nat.blt g FM=true) (hp:∀ c,128<=c->p c=true)
  (hg:∀ (x:Nat) (w:World),Calls P g #[.int .i32 x] w fun e w'=>e=.returned (.bool (p x))/\w'=w) (eg:∀ args w,(callFunc g args).run P w=.ok (.enter g args) w)
  (hc:∀ args w,(callFunc (ρ.f 17) args).run P w=.ok (.enter (ρ.f 17) args) w):(fN g p).Ok P (ρ.f 17):=by
 refine iP hc ?_
 intro t w vs U hU _ _ hR
 simp only [fN,R] at hR
 obtain ⟨v1,r1,rfl,e1,v2,r2,rfl,⟨cs,e2,hcs⟩,rfl⟩:=hR
 obtain rfl:=List.singleton_inj.1 e1
 subst hcs
 have e2':=List.singleton_inj.1 e2
 unfold fnV at e2'
 rw [hgm] at e2'
 simp only [cond_true] at e2'
 subst e2'
 refine (Any.strings_ContainsFunc_runes L g #[] eg p ⟨t.toArray⟩ w ?_).mono ?_
 ·intro W x _ _
  refine (hg x W).mono ?_
  rintro e w' ⟨rfl,rfl⟩
  exact ⟨rfl,0,rfl⟩
 rintro e w' ⟨rfl,hb⟩
 exact ⟨_,rfl,.nF hb (DLe.no hD),by simp only [fN,R]; exact congrArg (fun b=>[Value.bool b]) (Mj hp t)⟩
end Go.Eng
end
section
namespace Go.Proofs
open Go.Shelf Go.RowKit Go.Lib
set_option maxHeartbeats 1000000 in
theorem dense1 (r:Int) (w:World):Calls Tryz.prog 209 #[.int .i32 r] w fun e w'=>e=.returned (.bool (decide (r < 33) || decide (126 < r) || decide (r=34)))/\w'=w:=by
 go_enter Tryz.func209,Tryz.ntmps209
 go_wp2
 all_goals go_ret
 all_goals refine ⟨?_,rfl⟩
 all_goals (show Ending.returned (Value.bool _)=_; congr 2; try (rw [Bool.eq_iff_iff]; simp; omega))
set_option maxHeartbeats 1000000 in
theorem veil1 (r:Int) (w:World):Calls Tryz.prog 214 #[.int .i32 r] w fun e w'=>e=.returned (.bool ((decide (r < 48) || decide (57 < r)) && (decide (r < 97) || decide (122 < r)) && (decide (r < 65) || decide (90 < r))))/\w'=w:=by
 go_enter Tryz.func214,Tryz.ntmps214
 go_wp2
 all_goals go_ret
 all_goals refine ⟨?_,rfl⟩
 all_goals (show Ending.returned (Value.bool _)=_; congr 2; try (rw [Bool.eq_iff_iff]; simp; omega))
end Go.Proofs
open Go Go.Eng Go.Proofs
namespace V4
def Jh (c:Nat):Bool:=decide ((c:Int) < 33) || decide (126 < (c:Int)) || decide ((c:Int)=34)
def Ji (c:Nat):Bool:=(decide ((c:Int) < 48) || decide (57 < (c:Int))) && (decide ((c:Int) < 97) || decide (122 < (c:Int))) && (decide ((c:Int) < 65) || decide (90 < (c:Int)))
theorem Tz:(fN 209 Jh).Ok Tryz.prog 210:=qK rfl Tryz.rL (by decide) (fun c h=>by unfold Jh; simp; omega) (fun x w=>dense1 x w) (enters_of Tryz.func209 (by kernel_rfl) rfl) (enters_of Tryz.rL.f17 (by kernel_rfl) rfl)
theorem T1:(fN 214 Ji).Ok Tryz.prog 210:=qK rfl Tryz.rL (by decide) (fun c h=>by unfold Ji; simp; omega) (fun x w=>veil1 x w) (enters_of Tryz.func214 (by kernel_rfl) rfl) (enters_of Tryz.rL.f17 (by kernel_rfl) rfl)
end V4
end
section
open Go Go.Eng Go.Proofs G1 G2 G3 G4 G6 G7 EV0 N1
set_option maxRecDepth 100000
namespace F1
def g96:List Nat:=[1,0,2,6]
def c96:aH :=
 .seq (.region g96 [(zo 6 (.move cF))]) (.seq (.region g96 [(mv 7 0),(mv 8 1),(zo 9 (.bin (.geq) (.s 7) (.s 8))),(mv 10 9),(mg 11 10 true 0),(mg 12 10 true 2),(zg 13 10 true (.bin (.leq) (.s 11) (.s 12))),(zo 14 (.pick (.s 10) (.s 13) cF)),(mv 6 14)]) .ret)
theorem e96:aI Tryz.prog 96 g96 [] [] []=some (c96,[.slot 6],15):=by kernel_rfl
def bI (n lo hi:Int):Bool:=decide (lo<=n) && decide (n<=hi)
def xT:Eng.Spec where
 X:=Int×Int×Int
 args:=fun x=>.cons (.int .i64 x.1) (.cons (.int .i64 x.2.1) (.cons (.int .i64 x.2.2) .nil))
 pre:=fun _=>True
 res:=fun x=>.bool (bI x.1 x.2.1 x.2.2)
 inst:=fun
  | .cons (.int _ a) (.cons (.int _ b) (.cons (.int _ c) _))=>some (a,b,c)
  | _=>none
theorem lM:xT.Ok Tryz.prog 96:=by
 refine Eng.Spec.okR e96 .nil (fun _=>[]) (fun _ _=>aA.nil) ?_
 rintro ⟨a,b,c⟩ _
 have e:aE (decide (b<=a)) (.s 13) cF (decide (a<=c)) false=bI a b c:=by rw [aF]; rfl
 refine ⟨trivial,?_⟩
 repeat' (first|apply And.intro|exact trivial|exact rfl|exact e)
def g153:List Nat:=[1,0,5,4]
def c153:aH :=
 .seq (.region g153 [(zo 4 (.move cF))]) (.seq (.region g153 [(zo 5 (.move (.c (.fn 209))))]) (.seq (.region g153 [(mv 6 0),(zo 7 (.bin (.neq) (.s 6) (.c (.str [])))),(mv 8 7),(mg 9 8 true 0),(zg 10 8 true (.lenStr (.s 9))),(mg 11 8 true 1),(zg 12 8 true (.bin (.leq) (.s 10) (.s 11))),(zo 13 (.pick (.s 8) (.s 12) cF)),(mv 14 13),(mg 15 14 true 0),(mg 16 14 true 5),(zg 17 14 true (.call (.c (.fn 210)) [.s 15,.s 16])),(zg 18 14 true (.not (.s 17))),(zo 19 (.pick (.s 14) (.s 18) cF)),(mv 4 19)]) .ret))
theorem e153:aI Tryz.prog 153 g153 [] [] []=some (c153,[.slot 4],20):=by kernel_rfl
def Lv (s:B) (m:Int):Bool:=(!decide (s=[]) && decide ((s.length:Int)<=m)) && !(s.any fun b=>V4.Jh b.toNat)
def P5:Eng.Spec where
 X:=B×Int
 args:=fun x=>.cons (.str x.1) (.cons (.int .i64 x.2) .nil)
 pre:=fun _=>True
 res:=fun x=>.bool (Lv x.1 x.2)
 inst:=fun
  | .cons (.str a) (.cons (.int _ b) _)=>some (a,b)
  | _=>none
theorem Hr:P5.Ok Tryz.prog 153:=by
 refine Eng.Spec.okR e153 .nil (fun _=>[(210,.p (fN 209 V4.Jh))]) (fun _ _=>aA.p V4.Tz aA.nil) ?_
 rintro ⟨s,m⟩ _
 have e:aE (aE (!decide (s=[])) (.s 12) cF (decide ((s.length:Int)<=m)) false) (.s 18) cF (!(s.any fun b=>V4.Jh b.toNat)) false=Lv s m:=by rw [aF,aF]; rfl
 refine ⟨trivial,?_⟩
 repeat' (first|apply And.intro|exact trivial|exact rfl|refine fun (_:bD _ _ _ _)=>?_|exact e)
def g160:List Nat:=[0,3,2]
def c160:aH :=
 .seq (.region g160 [(zo 2 (.move cF))]) (.seq (.region g160 [(zo 3 (.move (.c (.fn 214))))]) (.seq (.region g160 [(mv 4 0),(zo 5 (.bin (.neq) (.s 4) (.c (.str [])))),(mv 6 5),(mg 7 6 true 0),(zg 8 6 true (.lenStr (.s 7))),(zg 9 6 true (.bin (.leq) (.s 8) (cj 60))),(zo 10 (.pick (.s 6) (.s 9) cF)),(mv 11 10),(mg 12 11 true 0),(mg 13 11 true 3),(zg 14 11 true (.call (.c (.fn 210)) [.s 12,.s 13])),(zg 15 11 true (.not (.s 14))),(zo 16 (.pick (.s 11) (.s 15) cF)),(mv 2 16)]) .ret))
theorem e160:aI Tryz.prog 160 g160 [] [] []=some (c160,[.slot 2],17):=by kernel_rfl
def K3 (s:B):Bool:=(!decide (s=[]) && decide ((s.length:Int)<=60)) && !(s.any fun b=>V4.Ji b.toNat)
def Wu:Eng.Spec where
 X:=B
 args:=fun x=>.cons (.str x) .nil
 pre:=fun _=>True
 res:=fun x=>.bool (K3 x)
 inst:=EV0.one oK
theorem Tg:Wu.Ok Tryz.prog 160:=by
 refine Eng.Spec.okR e160 .nil (fun _=>[(210,.p (fN 214 V4.Ji))]) (fun _ _=>aA.p V4.T1 aA.nil) ?_
 rintro (s:B) _
 have e:aE (aE (!decide (s=[])) (.s 9) cF (decide ((s.length:Int)<=60)) false) (.s 15) cF (!(s.any fun b=>V4.Ji b.toNat)) false=K3 s:=by rw [aF,aF]; rfl
 refine ⟨trivial,?_⟩
 repeat' (first|apply And.intro|exact trivial|exact rfl|refine fun (_:bD _ _ _ _)=>?_|exact e)
def g242:List Nat:=[0,2]
def c242:aH :=
 .seq (.region g242 [(zo 2 (.move cF))]) (.seq (.region g242 [(mv 3 0),(zo 4 (.call (.c (.fn 153)) [.s 3,cj 60])),(zo 5 (.not (.s 4))),(mv 2 5)]) .ret)
theorem e242:aI Tryz.prog 242 g242 [] [] []=some (c242,[.slot 2],6):=by kernel_rfl
def pQ (s:B):Bool:=!Lv s 60
def nod0:Eng.Spec where
 X:=B
 args:=fun x=>.cons (.str x) .nil
 pre:=okT
 res:=fun x=>.bool (pQ x)
 inst:=EV0.one oK
theorem M4:nod0.Ok Tryz.prog 242:=by
 refine Eng.Spec.okR e242 .nil (fun _=>[(153,.p P5)]) (fun _ _=>aA.p Hr aA.nil) ?_
 rintro (s:B) _
 refine ⟨trivial,?_⟩
 repeat' (first|apply And.intro|exact trivial|exact rfl)
def g206:List Nat:=[0,2]
def c206:aH :=
 .seq (.region g206 [(zo 2 (.move cF))]) (.seq (.region g206 [(mv 3 0),(zo 4 (.call (.c (.fn 137)) [.s 3])),(zo 5 (.not (.s 4))),(mv 2 5)]) .ret)
theorem e206:aI Tryz.prog 206 g206 [] [] []=some (c206,[.slot 2],6):=by kernel_rfl
def oF (s:B):Bool:=!L10.dL s
def nid0:Eng.Spec where
 X:=B
 args:=fun x=>.cons (.str x) .nil
 pre:=okT
 res:=fun x=>.bool (oF x)
 inst:=EV0.one oK
theorem Mz:nid0.Ok Tryz.prog 206:=by
 refine Eng.Spec.okR e206 .nil (fun _=>[(137,.p L10.qR)]) (fun _ _=>aA.p L10.wP aA.nil) ?_
 rintro (s:B) (h:s.length<=1000000)
 refine ⟨trivial,?_⟩
 repeat' (first|apply And.intro|exact trivial|exact rfl|exact h)
def g243:List Nat:=[7,9,1,0,16,5,8,4]
def c243:aH :=
 .seq (.region g243 [(zo 4 (.move (cj 0)))]) (.seq (.seq (.region g243 [(mv 6 0),(zo 7 (.lenSl (.s 6))),(zo 8 (.move (cj 0)))]) (.block 0 (.loop 0 [9,10,5,11,12,13,14,15,16,17,4,18,8] (.seq (.region g243 [(zo 9 (.bin (.lss) (.s 8) (.s 7)))]) (.seq (.cond (.s 9) .skip (.exit 0)) (.seq (.block 1 (.seq (.region g243 [(mv 10 8),(mv 5 10)]) (.seq (.region g243 [(mv 11 1),(mv 12 0),(mv 13 5),(zo 14 (.idxSl 1 (.s 12) (.s 13))),(ld 15 14),(zo 16 (.call (.s 11) [.s 15]))]) (.cond (.s 16) (.seq (.region g243 [(mv 17 5),(mv 4 17)]) .ret) .skip)))) (.region g243 [(zo 18 (.bin (.add) (.s 8) (cj 1))),(mv 8 18)]))))))) (.seq (.region g243 [(zo 4 (.move (cj (-1))))]) .ret))
def r243:List fY:=[.slot 4]
def k243:List (Nat×Nat×aH×Nat):=[]
theorem e243:aI Tryz.prog 243 g243 [] [] k243=some (c243,r243,19):=by kernel_rfl
theorem q243:eZ Tryz.prog k243:=eZ.nil
def g205:List Nat:=[0,1,4]
def c205:aH :=
 .seq (.region g205 [(zo 4 (.move cF))]) (.seq (.region g205 [(mv 5 0),(mv 6 1),(zo 7 (.call (.c (.fn 243)) [.s 5,.s 6])),(zo 8 (.bin (.geq) (.s 7) (cj 0))),(mv 4 8)]) .ret)
def r205:List fY:=[.slot 4]
def k205:List (Nat×Nat×aH×Nat):=[]
theorem e205:aI Tryz.prog 205 g205 [] [] k205=some (c205,r205,9):=by kernel_rfl
theorem q205:eZ Tryz.prog k205:=eZ.nil
def M5:Eng.Spec where
 X:=Sq B
 args:=fun r=>.cons (stE r) (.cons (.fn 242 .nil) .nil)
 pre:=fun r=>okS r okT
 res:=fun r=>.int .i64 (aZ (fun i=>pQ (r.f i)) r.n)
 inst:=fun
  | .cons a (.cons _ .nil)=>stD a
  | _=>none
theorem M6:M5.Ok Tryz.prog 243:=by
 refine Eng.Spec.okR e243 q243 (fun _=>[(242,.p nod0)]) (fun _ _=>aA.p M4 aA.nil) ?_
 rintro (r:Sq B) ⟨(hn:r.n<=1000000),hel⟩
 refine ⟨trivial,?_⟩
 repeat' (first|apply And.intro|exact trivial|exact rfl|exact lz fun _=>rfl)
 refine ⟨⟨Nat,fun i=>i<=r.n/\orB (fun i=>pQ (r.f i)) i=false,fun i=>[(8,.int .i64 (i:Int))],fun _=>[],fun i=>r.n - i⟩,0,⟨Nat.zero_le _,rfl⟩,?_,?_⟩
 ·repeat' (first|apply And.intro|exact trivial|exact rfl|exact lz fun _=>rfl)
 rintro (i:Nat) ⟨(hi:i<=r.n),(hf:orB (fun i=>pQ (r.f i)) i=false)⟩
 repeat' (first|apply And.intro|exact trivial|exact rfl|exact lz fun _=>rfl)
 ·refine fun (h:decide ((i:Int) < (r.n:Int))=true)=>?_
  have hi1:(i:Int) < (r.n:Int):=of_decide_eq_true h
  have hil:i < r.n:=by omega
  have hi0:(0:Int)<=(i:Int):=by omega
  have hok:=hel i hil
  have b1:-9223372036854775808<=(i:Int)+1:=by omega
  have b2:(i:Int)+1<=9223372036854775807:=by omega
  repeat' (first|with_reducible exact hi1|with_reducible exact hi0|apply And.intro|exact trivial|exact rfl|exact hok)
  ·refine fun (hc:pQ (r.f i)=true)=>?_
   have e:(i:Int)=aZ (fun i=>pQ (r.f i)) r.n:=(cI hf hc hil).symm
   repeat' (first|exact e|apply And.intro|exact trivial|exact rfl)
  ·refine fun (hc:pQ (r.f i)=false)=>?_
   have hf1:orB (fun i=>pQ (r.f i)) (i+1)=false:=by
    simp only [orB]
    rw [hf]
    exact hc
   repeat' (first|with_reducible exact b1|with_reducible exact b2|apply And.intro|exact trivial|exact rfl)
   refine Exists.intro (i+1) ?_
   refine And.intro (And.intro hil hf1) ?_
   repeat' (first|apply And.intro|exact trivial|exact rfl|exact lz fun _=>rfl)
   show r.n - (i+1) < r.n - i
   omega
 ·refine fun (h:decide ((i:Int) < (r.n:Int))=false)=>?_
  have hi1:¬ (i:Int) < (r.n:Int):=of_decide_eq_false h
  have e:i=r.n:=by omega
  have ef:-1=aZ (fun i=>pQ (r.f i)) r.n:=by rw [<- e,cA hf]
  repeat' (first|exact ef|apply And.intro|exact trivial|exact rfl)
def Vh:Eng.Spec where
 X:=Sq B
 args:=M5.args
 pre:=fun r=>okS r okT
 res:=fun r=>.bool (orB (fun i=>pQ (r.f i)) r.n)
 inst:=M5.inst
theorem Rm:Vh.Ok Tryz.prog 205:=by
 refine Eng.Spec.okR e205 q205 (fun _=>[(243,.p M5)]) (fun _ _=>aA.p M6 aA.nil) ?_
 rintro (r:Sq B) ⟨(hn:r.n<=1000000),hel⟩
 have e:=kV (f:=fun i=>pQ (r.f i)) (n:=r.n)
 refine ⟨trivial,?_⟩
 repeat' (first|exact hn|exact hel|exact e|apply And.intro|exact trivial|exact rfl|exact lz fun _=>rfl)
def M0:Eng.Spec where
 X:=Sq B
 args:=fun r=>.cons (stE r) (.cons (.fn 206 .nil) .nil)
 pre:=fun r=>okS r okT
 res:=fun r=>.int .i64 (aZ (fun i=>oF (r.f i)) r.n)
 inst:=fun
  | .cons a (.cons _ .nil)=>stD a
  | _=>none
theorem M1:M0.Ok Tryz.prog 243:=by
 refine Eng.Spec.okR e243 q243 (fun _=>[(206,.p nid0)]) (fun _ _=>aA.p Mz aA.nil) ?_
 rintro (r:Sq B) ⟨(hn:r.n<=1000000),hel⟩
 refine ⟨trivial,?_⟩
 repeat' (first|apply And.intro|exact trivial|exact rfl|exact lz fun _=>rfl)
 refine ⟨⟨Nat,fun i=>i<=r.n/\orB (fun i=>oF (r.f i)) i=false,fun i=>[(8,.int .i64 (i:Int))],fun _=>[],fun i=>r.n - i⟩,0,⟨Nat.zero_le _,rfl⟩,?_,?_⟩
 ·repeat' (first|apply And.intro|exact trivial|exact rfl|exact lz fun _=>rfl)
 rintro (i:Nat) ⟨(hi:i<=r.n),(hf:orB (fun i=>oF (r.f i)) i=false)⟩
 repeat' (first|apply And.intro|exact trivial|exact rfl|exact lz fun _=>rfl)
 ·refine fun (h:decide ((i:Int) < (r.n:Int))=true)=>?_
  have hi1:(i:Int) < (r.n:Int):=of_decide_eq_true h
  have hil:i < r.n:=by omega
  have hi0:(0:Int)<=(i:Int):=by omega
  have hok:=hel i hil
  have b1:-9223372036854775808<=(i:Int)+1:=by omega
  have b2:(i:Int)+1<=9223372036854775807:=by omega
  repeat' (first|with_reducible exact hi1|with_reducible exact hi0|apply And.intro|exact trivial|exact rfl|exact hok)
  ·refine fun (hc:oF (r.f i)=true)=>?_
   have e:(i:Int)=aZ (fun i=>oF (r.f i)) r.n:=(cI hf hc hil).symm
   repeat' (first|exact e|apply And.intro|exact trivial|exact rfl)
  ·refine fun (hc:oF (r.f i)=false)=>?_
   have hf1:orB (fun i=>oF (r.f i)) (i+1)=false:=by
    simp only [orB]
    rw [hf]
    exact hc
   repeat' (first|with_reducible exact b1|with_reducible exact b2|apply And.intro|exact trivial|exact rfl)
   refine Exists.intro (i+1) ?_
   refine And.intro (And.intro hil hf1) ?_
   repeat' (first|apply And.intro|exact trivial|exact rfl|exact lz fun _=>rfl)
   show r.n - (i+1) < r.n - i
   omega
 ·refine fun (h:decide ((i:Int) < (r.n:Int))=false)=>?_
  have hi1:¬ (i:Int) < (r.n:Int):=of_decide_eq_false h
  have e:i=r.n:=by omega
  have ef:-1=aZ (fun i=>oF (r.f i)) r.n:=by rw [<- e,cA hf]
  repeat' (first|exact ef|apply And.intro|exact trivial|exact rfl)
def Vf:Eng.Spec where
 X:=Sq B
 args:=M0.args
 pre:=fun r=>okS r okT
 res:=fun r=>.bool (orB (fun i=>oF (r.f i)) r.n)
 inst:=M0.inst
theorem Rh:Vf.Ok Tryz.prog 205:=by
 refine Eng.Spec.okR e205 q205 (fun _=>[(243,.p M0)]) (fun _ _=>aA.p M1 aA.nil) ?_
 rintro (r:Sq B) ⟨(hn:r.n<=1000000),hel⟩
 have e:=kV (f:=fun i=>oF (r.f i)) (n:=r.n)
 refine ⟨trivial,?_⟩
 repeat' (first|exact hn|exact hel|exact e|apply And.intro|exact trivial|exact rfl|exact lz fun _=>rfl)
end F1
end
section
open Go Go.Eng Go.Proofs G1 G2 G3 G4 G6 G7 EV0 N1 F1
set_option maxRecDepth 100000
namespace F2
def Aq:SV->Option Unit
 | .bool true=>some ()
 | _=>none
def mpL (g:Nat->aK):Nat->List (aK×Unit×Nat)
 | 0=>[]
 | k+1=>match mget (mpL g k) (g k) with
  | some _=>mpL g k
  | none=>mpL g k++[(g k,(),(mpL g k).length)]
def jE (g:Nat->aK) (n:Nat):Bool:=!orB (fun i=>orB (fun j=>decide (g j=g i)) i) n
theorem lV {l:List (aK×Unit×Nat)} {k:aK}:mput l k ()=l:=by
 induction l with
 | nil=>rfl
 | cons x r ih =>
  simp only [mput]
  split
  ·rename_i h; rw [<- h]
  ·rw [ih]
theorem Ch {g:Nat->aK} {k:Nat} {u:Unit} {t:Nat} (h:mget (mpL g k) (g k)=some (u,t)):mput (mpL g k) (g k) ()=mpL g (k+1):=by
 rw [lV]
 simp only [mpL,h]
theorem wN {g:Nat->aK} {k:Nat} (h:mget (mpL g k) (g k)=none):mpL g k++[(g k,(),(mpL g k).length)]=mpL g (k+1):=by
 simp only [mpL,h]
theorem sV {l:List (aK×Unit×Nat)} {k:aK}:(mget l k=none) ↔ ∀ x∈l,x.1≠k:=by
 induction l with
 | nil=>simp [mget]
 | cons x r ih =>
  simp only [mget]
  split
  ·rename_i h; simp [h]
  ·rename_i h; rw [ih]; simp [h]
theorem I9 {g:Nat->aK}:∀ {k:Nat} {x:aK},(∃ e∈mpL g k,e.1=x) ↔ ∃ j,j < k/\g j=x:=by
 intro k
 induction k with
 | zero=>intro x; simp [mpL]
 | succ k ih =>
  intro x
  simp only [mpL]
  cases h:mget (mpL g k) (g k) with
  | some v =>
   simp only
   rw [ih]
   constructor
   ·rintro ⟨j,hj,e⟩; exact ⟨j,by omega,e⟩
   ·rintro ⟨j,hj,e⟩
    by_cases hjk:j=k
    ·subst hjk
     have:¬ mget (mpL g j) (g j)=none:=by rw [h]; simp
     rw [sV] at this
     have ⟨y,hy,he⟩:∃ y∈mpL g j,y.1=g j:=by
      apply Classical.byContradiction
      intro hn
      exact this fun x hx e=>hn ⟨x,hx,e⟩
     obtain ⟨i,hi,hg⟩:=ih.1 ⟨y,hy,he⟩
     exact ⟨i,hi,hg.trans e⟩
    ·exact ⟨j,by omega,e⟩
  | none =>
   simp only [List.mem_append,List.mem_singleton]
   constructor
   ·rintro ⟨y,hy|rfl,e⟩
    ·obtain ⟨i,hi,hg⟩:=ih.1 ⟨y,hy,e⟩
     exact ⟨i,by omega,hg⟩
    ·exact ⟨k,by omega,e⟩
   ·rintro ⟨j,hj,e⟩
    by_cases hjk:j=k
    ·subst hjk; exact ⟨_,.inr rfl,e⟩
    ·obtain ⟨y,hy,he⟩:=ih.2 ⟨j,by omega,e⟩
     exact ⟨y,.inl hy,he⟩
theorem Ra {g:Nat->aK}:∀ {k:Nat},(mpL g k).length<=k/\((mpL g k).length=k ↔ ∀ i,i < k->∀ j,j < i->g j≠g i):=by
 intro k
 induction k with
 | zero=>simp [mpL]
 | succ k ih =>
  simp only [mpL]
  cases h:mget (mpL g k) (g k) with
  | some v =>
   simp only
   refine ⟨by omega,⟨fun e=>by omega,fun e=>?_⟩⟩
   exfalso
   have:¬ mget (mpL g k) (g k)=none:=by rw [h]; simp
   rw [sV] at this
   apply this
   intro x hx he
   obtain ⟨j,hj,hg⟩:=I9.1 ⟨x,hx,he⟩
   exact e k (by omega) j hj hg
  | none =>
   simp only [List.length_append,List.length_singleton]
   refine ⟨by omega,⟨fun e=>?_,fun e=>?_⟩⟩
   ·have h1:=ih.2.1 (by omega)
    intro i hi j hj
    by_cases hik:i=k
    ·subst hik
     intro hg
     obtain ⟨y,hy,he⟩:=I9.2 ⟨j,hj,hg⟩
     exact sV.1 h y hy he
    ·exact h1 i (by omega) j hj
   ·rw [ih.2.2 fun i hi j hj=>e i (by omega) j hj]
theorem nT {g:Nat->aK} {n:Nat}:jE g n=true ↔ ∀ i,i < n->∀ j,j < i->g j≠g i:=by
 unfold jE
 rw [Bool.not_eq_true',aS]
 constructor
 ·intro h i hi j hj
  have:=aS.1 (h i hi) j hj
  exact of_decide_eq_false this
 ·intro h i hi
  exact aS.2 fun j hj=>decide_eq_false (h i hi j hj)
theorem Cg {g:Nat->aK} {n:Nat}:decide (((mpL g n).length:Int)=(n:Int))=jE g n:=by
 rw [Bool.eq_iff_iff,decide_eq_true_iff,nT,<- Ra.2]
 omega
theorem jA {l l':List (aK×Unit×Nat)} (h:l=l') (k:Keep) (hp:List (Nat×aG)) (m:Nat):∀ (i:Nat) (x y:aK×Unit×Nat),l[i]?=some x->l'[i]?=some y->x.1=y.1/\x.2.2=y.2.2/\sub k hp (m+1) (.bool true) (.bool true):=by
 subst h
 intro i x y hx hy
 rw [hx] at hy
 cases hy
 exact ⟨rfl,rfl,rfl⟩
def kS (s:B):aK:=.s s
def kN (x:Nm):aK:=.t [.s x.lang,.n .i64 x.script,.s x.text]
def kH (x:Hn):aK:=.t [.n .i64 x.n,.s x.l,.n .i64 x.num,.n .i64 x.den]
def g204:List Nat:=[8,10,7,5,9,3,0,2]
def c204:aH :=
 .seq (.region g204 [(zo 2 (.move cF))]) (.seq (.region g204 [(zo 6 (.mkmap (.s))),(mv 3 6)]) (.seq (.seq (.region g204 [(mv 7 0),(zo 8 (.lenSl (.s 7))),(zo 9 (.move (cj 0)))]) (.block 0 (.loop 0 [10,11,12,5,13,14,15,9] (.seq (.region g204 [(zo 10 (.bin (.lss) (.s 9) (.s 8)))]) (.seq (.cond (.s 10) .skip (.exit 0)) (.seq (.block 1 (.seq (.region g204 [(zo 11 (.idxSl 1 (.s 7) (.s 9))),(ld 12 11),(mv 5 12)]) (.region g204 [(mv 13 3),(mv 14 5),⟨none,none,.mupd (.s) (.s 13) (.s 14) cT,[]⟩]))) (.region g204 [(zo 15 (.bin (.add) (.s 9) (cj 1))),(mv 9 15)]))))))) (.seq (.region g204 [(mv 16 3),(zo 17 (.mlen (.s 16))),(mv 18 0),(zo 19 (.lenSl (.s 18))),(zo 20 (.bin (.eql) (.s 17) (.s 19))),(mv 2 20)]) .ret)))
theorem e204:aI Tryz.prog 204 g204 [] [] []=some (c204,[.slot 2],21):=by kernel_rfl
def dSS:Eng.Spec where
 X:=Sq B
 args:=fun r=>.cons (stE r) .nil
 pre:=fun r=>r.n<=1000000
 res:=fun r=>.bool (jE (fun i=>kS (r.f i)) r.n)
 inst:=fun
  | .cons a .nil=>stD a
  | _=>none
theorem T6:dSS.Ok Tryz.prog 204:=by
 refine Eng.Spec.okR e204 .nil (fun _=>[]) (fun _ _=>aA.nil) ?_
 rintro (r:Sq B) (hn:r.n<=1000000)
 refine ⟨trivial,?_⟩
 repeat' (first|apply And.intro|exact trivial|exact rfl|exact lz fun _=>rfl)
 refine ⟨⟨Nat,fun k=>k<=r.n,fun k=>[(9,.int .i64 (k:Int))],fun k=>[(0,.map Unit (.s) (mpL (fun i=>kS (r.f i)) k) (mpL (fun i=>kS (r.f i)) k).length (fun _=>.bool true) Aq)],fun k=>r.n - k⟩,0,Nat.zero_le _,?_,?_⟩
 ·repeat' (first|apply And.intro|exact trivial|exact rfl|exact lz fun _=>rfl)
  exact fun i x y (hx:([]:List (aK×SV×Nat))[i]?=some x)=>by cases hx
 rintro (k:Nat) (hk:k<=r.n)
 repeat' (first|apply And.intro|exact trivial|exact rfl|exact lz fun _=>rfl)
 ·refine fun (h:decide ((k:Int) < (r.n:Int))=true)=>?_
  have hi1:(k:Int) < (r.n:Int):=of_decide_eq_true h
  have hil:k < r.n:=by omega
  have hi0:(0:Int)<=(k:Int):=by omega
  have b1:-9223372036854775808<=(k:Int)+1:=by omega
  have b2:(k:Int)+1<=9223372036854775807:=by omega
  repeat' (first|with_reducible exact hi1|with_reducible exact hi0|apply And.intro|exact trivial|exact rfl)
  refine dC.mk (fun (u:Unit) (t:Nat) (hm:mget (mpL (fun i=>kS (r.f i)) k) (kS (r.f k))=some (u,t))=>?_) (fun (hm:mget (mpL (fun i=>kS (r.f i)) k) (kS (r.f k))=none)=>?_)
  ·have e1:mput (mpL (fun i=>kS (r.f i)) k) (kS (r.f k)) ()=mpL (fun i=>kS (r.f i)) (k+1):=Ch hm
   have e2:(mpL (fun i=>kS (r.f i)) k).length=(mpL (fun i=>kS (r.f i)) (k+1)).length:=by rw [<- e1,lV]
   have e3:=congrArg List.length e1
   repeat' (first|with_reducible exact b1|with_reducible exact b2|apply And.intro|exact trivial|exact rfl)
   refine Exists.intro (k+1) (And.intro hil ?_)
   repeat' (first|apply And.intro|exact trivial|exact rfl|exact e2|exact e3|exact jA e1 _ _ _|exact lz fun _=>rfl)
   show r.n - (k+1) < r.n - k
   omega
  ·have e1:mpL (fun i=>kS (r.f i)) k++[(kS (r.f k),(),(mpL (fun i=>kS (r.f i)) k).length)]=mpL (fun i=>kS (r.f i)) (k+1):=wN hm
   have e2:(mpL (fun i=>kS (r.f i)) k).length+1=(mpL (fun i=>kS (r.f i)) (k+1)).length:=by rw [<- e1,List.length_append]; rfl
   have e3:=congrArg List.length e1
   repeat' (first|with_reducible exact b1|with_reducible exact b2|apply And.intro|exact trivial|exact rfl)
   refine Exists.intro (k+1) (And.intro hil ?_)
   repeat' (first|apply And.intro|exact trivial|exact rfl|exact e2|exact e3|exact jA e1 _ _ _|exact lz fun _=>rfl)
   show r.n - (k+1) < r.n - k
   omega
 ·refine fun (h:decide ((k:Int) < (r.n:Int))=false)=>?_
  have hi1:¬ (k:Int) < (r.n:Int):=of_decide_eq_false h
  obtain rfl:k=r.n:=by omega
  have e:decide (((mpL (fun i=>kS (r.f i)) r.n).length:Int)=(r.n:Int))=jE (fun i=>kS (r.f i)) r.n:=Cg
  repeat' (first|exact e|apply And.intro|exact trivial|exact rfl)
def g203:List Nat:=[8,10,7,5,9,3,0,2]
def c203:aH :=
 .seq (.region g203 [(zo 2 (.move cF))]) (.seq (.region g203 [(zo 6 (.mkmap (.t [KPK.s,KPK.n .i64,KPK.s]))),(mv 3 6)]) (.seq (.seq (.region g203 [(mv 7 0),(zo 8 (.lenSl (.s 7))),(zo 9 (.move (cj 0)))]) (.block 0 (.loop 0 [10,11,12,5,13,14,15,9] (.seq (.region g203 [(zo 10 (.bin (.lss) (.s 9) (.s 8)))]) (.seq (.cond (.s 10) .skip (.exit 0)) (.seq (.block 1 (.seq (.region g203 [(zo 11 (.idxSl 3 (.s 7) (.s 9))),(zo 12 (.load 3 true (.s 11))),(zo 5 (.alloc 98 (.cons (.str []) (.cons (.int .i64 0) (.cons (.str []) .nil))))),⟨none,none,.store 3 (.s 5) (.s 12),[]⟩]) (.region g203 [(mv 13 3),(zo 14 (.load 3 true (.s 5))),⟨none,none,.mupd (.t [KPK.s,KPK.n .i64,KPK.s]) (.s 13) (.s 14) cT,[]⟩]))) (.region g203 [(zo 15 (.bin (.add) (.s 9) (cj 1))),(mv 9 15)]))))))) (.seq (.region g203 [(mv 16 3),(zo 17 (.mlen (.s 16))),(mv 18 0),(zo 19 (.lenSl (.s 18))),(zo 20 (.bin (.eql) (.s 17) (.s 19))),(mv 2 20)]) .ret)))
theorem e203:aI Tryz.prog 203 g203 [] [] []=some (c203,[.slot 2],21):=by kernel_rfl
def dNS:Eng.Spec where
 X:=Sq Nm
 args:=fun r=>.cons (nmE r) .nil
 pre:=fun r=>r.n<=1000000
 res:=fun r=>.bool (jE (fun i=>kN (r.f i)) r.n)
 inst:=fun
  | .cons a .nil=>nmD a
  | _=>none
theorem T5:dNS.Ok Tryz.prog 203:=by
 refine Eng.Spec.okR e203 .nil (fun _=>[]) (fun _ _=>aA.nil) ?_
 rintro (r:Sq Nm) (hn:r.n<=1000000)
 refine ⟨trivial,?_⟩
 repeat' (first|apply And.intro|exact trivial|exact rfl|exact lz fun _=>rfl)
 refine ⟨⟨Nat,fun k=>k<=r.n,fun k=>[(9,.int .i64 (k:Int))],fun k=>[(0,.map Unit (.t [KPK.s,KPK.n .i64,KPK.s]) (mpL (fun i=>kN (r.f i)) k) (mpL (fun i=>kN (r.f i)) k).length (fun _=>.bool true) Aq)],fun k=>r.n - k⟩,0,Nat.zero_le _,?_,?_⟩
 ·repeat' (first|apply And.intro|exact trivial|exact rfl|exact lz fun _=>rfl)
  exact fun i x y (hx:([]:List (aK×SV×Nat))[i]?=some x)=>by cases hx
 rintro (k:Nat) (hk:k<=r.n)
 repeat' (first|apply And.intro|exact trivial|exact rfl|exact lz fun _=>rfl)
 ·refine fun (h:decide ((k:Int) < (r.n:Int))=true)=>?_
  have hi1:(k:Int) < (r.n:Int):=of_decide_eq_true h
  have hil:k < r.n:=by omega
  have hi0:(0:Int)<=(k:Int):=by omega
  have b1:-9223372036854775808<=(k:Int)+1:=by omega
  have b2:(k:Int)+1<=9223372036854775807:=by omega
  repeat' (first|with_reducible exact hi1|with_reducible exact hi0|apply And.intro|exact trivial|exact rfl)
  refine dC.mk (fun (u:Unit) (t:Nat) (hm:mget (mpL (fun i=>kN (r.f i)) k) (kN (r.f k))=some (u,t))=>?_) (fun (hm:mget (mpL (fun i=>kN (r.f i)) k) (kN (r.f k))=none)=>?_)
  ·have e1:mput (mpL (fun i=>kN (r.f i)) k) (kN (r.f k)) ()=mpL (fun i=>kN (r.f i)) (k+1):=Ch hm
   have e2:(mpL (fun i=>kN (r.f i)) k).length=(mpL (fun i=>kN (r.f i)) (k+1)).length:=by rw [<- e1,lV]
   have e3:=congrArg List.length e1
   repeat' (first|with_reducible exact b1|with_reducible exact b2|apply And.intro|exact trivial|exact rfl)
   refine Exists.intro (k+1) (And.intro hil ?_)
   repeat' (first|apply And.intro|exact trivial|exact rfl|exact e2|exact e3|exact jA e1 _ _ _|exact lz fun _=>rfl)
   show r.n - (k+1) < r.n - k
   omega
  ·have e1:mpL (fun i=>kN (r.f i)) k++[(kN (r.f k),(),(mpL (fun i=>kN (r.f i)) k).length)]=mpL (fun i=>kN (r.f i)) (k+1):=wN hm
   have e2:(mpL (fun i=>kN (r.f i)) k).length+1=(mpL (fun i=>kN (r.f i)) (k+1)).length:=by rw [<- e1,List.length_append]; rfl
   have e3:=congrArg List.length e1
   repeat' (first|with_reducible exact b1|with_reducible exact b2|apply And.intro|exact trivial|exact rfl)
   refine Exists.intro (k+1) (And.intro hil ?_)
   repeat' (first|apply And.intro|exact trivial|exact rfl|exact e2|exact e3|exact jA e1 _ _ _|exact lz fun _=>rfl)
   show r.n - (k+1) < r.n - k
   omega
 ·refine fun (h:decide ((k:Int) < (r.n:Int))=false)=>?_
  have hi1:¬ (k:Int) < (r.n:Int):=of_decide_eq_false h
  obtain rfl:k=r.n:=by omega
  have e:decide (((mpL (fun i=>kN (r.f i)) r.n).length:Int)=(r.n:Int))=jE (fun i=>kN (r.f i)) r.n:=Cg
  repeat' (first|exact e|apply And.intro|exact trivial|exact rfl)
def g211:List Nat:=[8,10,7,5,9,3,0,2]
def c211:aH :=
 .seq (.region g211 [(zo 2 (.move cF))]) (.seq (.region g211 [(zo 6 (.mkmap (.t [KPK.n .i64,KPK.s,KPK.n .i64,KPK.n .i64]))),(mv 3 6)]) (.seq (.seq (.region g211 [(mv 7 0),(zo 8 (.lenSl (.s 7))),(zo 9 (.move (cj 0)))]) (.block 0 (.loop 0 [10,11,12,5,13,14,15,9] (.seq (.region g211 [(zo 10 (.bin (.lss) (.s 9) (.s 8)))]) (.seq (.cond (.s 10) .skip (.exit 0)) (.seq (.block 1 (.seq (.region g211 [(zo 11 (.idxSl 4 (.s 7) (.s 9))),(zo 12 (.load 4 true (.s 11))),(zo 5 (.alloc 51 zHn)),⟨none,none,.store 4 (.s 5) (.s 12),[]⟩]) (.region g211 [(mv 13 3),(zo 14 (.load 4 true (.s 5))),⟨none,none,.mupd (.t [KPK.n .i64,KPK.s,KPK.n .i64,KPK.n .i64]) (.s 13) (.s 14) cT,[]⟩]))) (.region g211 [(zo 15 (.bin (.add) (.s 9) (cj 1))),(mv 9 15)]))))))) (.seq (.region g211 [(mv 16 3),(zo 17 (.mlen (.s 16))),(mv 18 0),(zo 19 (.lenSl (.s 18))),(zo 20 (.bin (.eql) (.s 17) (.s 19))),(mv 2 20)]) .ret)))
theorem e211:aI Tryz.prog 211 g211 [] [] []=some (c211,[.slot 2],21):=by kernel_rfl
def dHS:Eng.Spec where
 X:=Sq Hn
 args:=fun r=>.cons (hnE r) .nil
 pre:=fun r=>r.n<=1000000
 res:=fun r=>.bool (jE (fun i=>kH (r.f i)) r.n)
 inst:=fun
  | .cons a .nil=>W2 a
  | _=>none
theorem N5:dHS.Ok Tryz.prog 211:=by
 refine Eng.Spec.okR e211 .nil (fun _=>[]) (fun _ _=>aA.nil) ?_
 rintro (r:Sq Hn) (hn:r.n<=1000000)
 refine ⟨trivial,?_⟩
 repeat' (first|apply And.intro|exact trivial|exact rfl|exact fun (j:Nat) (hj:j < _)=>Or.inl (jC _ _ _ _))
 refine ⟨⟨Nat,fun k=>k<=r.n,fun k=>[(9,.int .i64 (k:Int))],fun k=>[(0,.map Unit (.t [KPK.n .i64,KPK.s,KPK.n .i64,KPK.n .i64]) (mpL (fun i=>kH (r.f i)) k) (mpL (fun i=>kH (r.f i)) k).length (fun _=>.bool true) Aq)],fun k=>r.n - k⟩,0,Nat.zero_le _,?_,?_⟩
 ·repeat' (first|apply And.intro|exact trivial|exact rfl|exact fun (j:Nat) (hj:j < _)=>Or.inl (jC _ _ _ _))
  exact fun i x y (hx:([]:List (aK×SV×Nat))[i]?=some x)=>by cases hx
 rintro (k:Nat) (hk:k<=r.n)
 repeat' (first|apply And.intro|exact trivial|exact rfl|exact fun (j:Nat) (hj:j < _)=>Or.inl (jC _ _ _ _))
 ·refine fun (h:decide ((k:Int) < (r.n:Int))=true)=>?_
  have hi1:(k:Int) < (r.n:Int):=of_decide_eq_true h
  have hil:k < r.n:=by omega
  have hi0:(0:Int)<=(k:Int):=by omega
  have b1:-9223372036854775808<=(k:Int)+1:=by omega
  have b2:(k:Int)+1<=9223372036854775807:=by omega
  repeat' (first|with_reducible exact hi1|with_reducible exact hi0|apply And.intro|exact trivial|exact rfl)
  refine dC.mk (fun (u:Unit) (t:Nat) (hm:mget (mpL (fun i=>kH (r.f i)) k) (kH (r.f k))=some (u,t))=>?_) (fun (hm:mget (mpL (fun i=>kH (r.f i)) k) (kH (r.f k))=none)=>?_)
  ·have e1:mput (mpL (fun i=>kH (r.f i)) k) (kH (r.f k)) ()=mpL (fun i=>kH (r.f i)) (k+1):=Ch hm
   have e2:(mpL (fun i=>kH (r.f i)) k).length=(mpL (fun i=>kH (r.f i)) (k+1)).length:=by rw [<- e1,lV]
   have e3:=congrArg List.length e1
   repeat' (first|with_reducible exact b1|with_reducible exact b2|apply And.intro|exact trivial|exact rfl)
   refine Exists.intro (k+1) (And.intro hil ?_)
   repeat' (first|apply And.intro|exact trivial|exact rfl|exact e2|exact e3|exact jA e1 _ _ _|exact fun (j:Nat) (hj:j < _)=>Or.inl (jC _ _ _ _))
   show r.n - (k+1) < r.n - k
   omega
  ·have e1:mpL (fun i=>kH (r.f i)) k++[(kH (r.f k),(),(mpL (fun i=>kH (r.f i)) k).length)]=mpL (fun i=>kH (r.f i)) (k+1):=wN hm
   have e2:(mpL (fun i=>kH (r.f i)) k).length+1=(mpL (fun i=>kH (r.f i)) (k+1)).length:=by rw [<- e1,List.length_append]; rfl
   have e3:=congrArg List.length e1
   repeat' (first|with_reducible exact b1|with_reducible exact b2|apply And.intro|exact trivial|exact rfl)
   refine Exists.intro (k+1) (And.intro hil ?_)
   repeat' (first|apply And.intro|exact trivial|exact rfl|exact e2|exact e3|exact jA e1 _ _ _|exact fun (j:Nat) (hj:j < _)=>Or.inl (jC _ _ _ _))
   show r.n - (k+1) < r.n - k
   omega
 ·refine fun (h:decide ((k:Int) < (r.n:Int))=false)=>?_
  have hi1:¬ (k:Int) < (r.n:Int):=of_decide_eq_false h
  obtain rfl:k=r.n:=by omega
  have e:decide (((mpL (fun i=>kH (r.f i)) r.n).length:Int)=(r.n:Int))=jE (fun i=>kH (r.f i)) r.n:=Cg
  repeat' (first|exact e|apply And.intro|exact trivial|exact rfl)
end F2
end
section
namespace SP
open Go
def spl (c:UInt8):List UInt8->List (List UInt8)
 | []=>[[]]
 | b::l=>if b=c then []::spl c l else match spl c l with
  | []=>[[b]]
  | w::r=>(b::w)::r
theorem Sf (c:UInt8) (l:List UInt8):spl c l≠[]:=by
 cases l with
 | nil=>simp [spl]
 | cons b l=>simp only [spl]; split; simp; split <;> simp
theorem Kf {c:UInt8} {l:List UInt8} (h:c ∉ l):spl c l=[l]:=by
 induction l with
 | nil=>rfl
 | cons b l ih =>
  simp only [List.mem_cons,not_or] at h
  simp only [spl]
  rw [if_neg (fun e=>h.1 e.symm),ih h.2]
theorem No {c:UInt8} {a b:List UInt8} (h:c ∉ a):spl c (a++c::b)=a::spl c b:=by
 induction a with
 | nil=>simp [spl]
 | cons x a ih =>
  simp only [List.mem_cons,not_or] at h
  simp only [List.cons_append,spl]
  rw [if_neg (fun e=>h.1 e.symm),ih h.2]
theorem idx1 (c:UInt8) (s:List UInt8):(Lib.index s [c]=-1/\c ∉ s)\/∃ a b,s=a++c::b/\c ∉ a/\Lib.index s [c]=(a.length:Int):=by
 induction s with
 | nil=>left; exact ⟨rfl,by simp⟩
 | cons x l ih =>
  by_cases hx:c=x
  ·right
   subst hx
   refine ⟨[],l,rfl,by simp,?_⟩
   simp [Lib.index,List.isPrefixOf]
  ·have hp:([c]:List UInt8).isPrefixOf (x::l)=false:=by simp [List.isPrefixOf,hx]
   rcases ih with ⟨h1,h2⟩|⟨a,b,h1,h2,h3⟩
   ·left
    refine ⟨?_,by simp [hx,h2]⟩
    simp only [Lib.index,hp,h1]
    decide
   ·right
    refine ⟨x::a,b,by rw [h1]; rfl,by simp [hx,h2],?_⟩
    simp only [Lib.index,hp,h3]
    have:((a.length:Int) == -1)=false:=by
     rw [beq_eq_false_iff_ne]; omega
    rw [this]
    simp
theorem Nq (c:UInt8):∀ (f:Nat) (s:List UInt8),s.length<=f->Lib.splitK [c] 0 (Lib.countFrom [c] f s) s=spl c s:=by
 intro f
 induction f with
 | zero =>
  intro s h
  have:s=[]:=List.length_eq_zero_iff.1 (by omega)
  subst this
  rfl
 | succ f ih =>
  intro s h
  simp only [Lib.countFrom]
  rcases idx1 c s with ⟨h1,h2⟩|⟨a,b,h1,h2,h3⟩
  ·rw [h1,Kf h2]
   rfl
  ·rw [h3]
   have hb:((a.length:Int) == -1)=false:=by rw [beq_eq_false_iff_ne]; omega
   rw [hb]
   have hd:s.drop ((a.length:Int).toNat+([c]:List UInt8).length)=b:=by
    rw [h1]
    simp
   rw [hd]
   simp only [Bool.false_eq_true,if_false]
   rw [Nat.add_comm 1]
   simp only [Lib.splitK]
   rw [h3,hb]
   simp only [Bool.false_eq_true,if_false,Nat.add_zero]
   rw [hd,ih b (by rw [h1] at h; simp at h; omega),h1,No h2]
   simp
theorem Kg (c:UInt8) (s:List UInt8):Lib.split s [c]=spl c s:=by
 unfold Lib.split Lib.count
 exact Nq c (s.length+1) s (Nat.le_succ _)
theorem Np (c:UInt8) (s:List UInt8):(spl c s).length<=s.length+1/\∀ w∈spl c s,w.length<=s.length:=by
 induction s with
 | nil=>simp [spl]
 | cons b l ih =>
  simp only [spl]
  split
  ·refine ⟨by simp; exact ih.1,fun w hw=>?_⟩
   rcases List.mem_cons.1 hw with rfl|hw
   ·simp
   ·have:=ih.2 w hw; simp; omega
  ·split
   ·rename_i h; exact absurd h (Sf c l)
   ·rename_i w r h
    rw [h] at ih
    refine ⟨by simp at ih ⊢; omega,fun v hv=>?_⟩
    rcases List.mem_cons.1 hv with rfl|hv
    ·have:=ih.2 w (by simp); simp; omega
    ·have:=ih.2 v (by simp [hv]); simp; omega
end SP
end
section
open Go Go.Eng Go.Proofs G1 G2 G3 G4 G6 G7 EV0 N1 F1 F2
set_option maxRecDepth 100000
namespace F3
def g147:List Nat:=[0,2]
def c147:aH :=
 .seq (.region g147 [(zo 2 (.move cF))]) (.seq (.region g147 [(mv 3 0),(zo 4 (.call (.c (.fn 204)) [.s 3])),(mv 5 4),(mg 6 5 true 0),(zg 7 5 true (.call (.c (.fn 205)) [.s 6,.c (.fn 206)])),(zg 8 5 true (.not (.s 7))),(zo 9 (.pick (.s 5) (.s 8) cF)),(mv 2 9)]) .ret)
theorem e147:aI Tryz.prog 147 g147 [] [] []=some (c147,[.slot 2],10):=by kernel_rfl
def mA (r:Sq B):Bool:=jE (fun i=>kS (r.f i)) r.n && !orB (fun i=>oF (r.f i)) r.n
def Bw:Eng.Spec where
 X:=Sq B
 args:=fun r=>.cons (stE r) .nil
 pre:=fun r=>okS r okT
 res:=fun r=>.bool (mA r)
 inst:=EV0.one stD
theorem pL:Bw.Ok Tryz.prog 147:=by
 refine Eng.Spec.okR e147 .nil (fun _=>[(204,.p dSS),(205,.p Vf)]) (fun _ _=>aA.p T6 (aA.p Rh aA.nil)) ?_
 rintro (r:Sq B) ⟨(hn:r.n<=1000000),hel⟩
 have e:aE (jE (fun i=>kS (r.f i)) r.n) (.s 8) cF (!orB (fun i=>oF (r.f i)) r.n) false=mA r:=by rw [aF]; rfl
 refine ⟨trivial,?_⟩
 repeat' (first|apply And.intro|exact trivial|exact rfl|exact lz fun _=>rfl|exact hn|exact hel|refine gd ?_|exact e)
def g139:List Nat:=[0,1,4]
def c139:aH :=
 .seq (.region g139 [(zo 4 (.move cF))]) (.seq (.region g139 [(mv 5 0),(zo 6 (.call (.c (.fn 96)) [.s 5,cj 0,cj 63])),(mv 7 6),(mg 8 7 true 1),(zg 9 7 true (.call (.c (.fn 96)) [.s 8,cj 0,cj 63])),(zo 10 (.pick (.s 7) (.s 9) cF)),(mv 11 10),(mg 12 11 true 0),(mg 13 11 true 1),(zg 14 11 true (.bin (.neq) (.s 12) (.s 13))),(zo 15 (.pick (.s 11) (.s 14) cF)),(mv 4 15)]) .ret)
theorem e139:aI Tryz.prog 139 g139 [] [] []=some (c139,[.slot 4],16):=by kernel_rfl
def Pk (a b:Int):Bool:=(bI a 0 63 && bI b 0 63) && !decide (a=b)
def Tu:Eng.Spec where
 X:=Int×Int
 args:=fun x=>.cons (.int .i64 x.1) (.cons (.int .i64 x.2) .nil)
 pre:=fun _=>True
 res:=fun x=>.bool (Pk x.1 x.2)
 inst:=EV0.two tY tY
theorem Pl:Tu.Ok Tryz.prog 139:=by
 refine Eng.Spec.okR e139 .nil (fun _=>[(96,.p xT)]) (fun _ _=>aA.p lM aA.nil) ?_
 rintro ⟨a,b⟩ _
 have e:aE (aE (bI a 0 63) (.s 9) cF (bI b 0 63) false) (.s 14) cF (!decide (a=b)) false=Pk a b:=by rw [aF,aF]; rfl
 refine ⟨trivial,?_⟩
 repeat' (first|apply And.intro|exact trivial|exact rfl|refine gd ?_|exact e)
def g202:List Nat:=[0,2]
def c202:aH :=
 .seq (.region g202 [(zo 2 (.move cF))]) (.seq (.region g202 [(mv 3 0),(zo 4 (.lenStr (.s 3))),(zo 5 (.bin (.leq) (.s 4) (cj 60))),(mv 6 5),(mg 7 6 true 0),(zg 8 6 true (.call (.c (.fn 241)) [.s 7,.c (.str [32])])),(zg 9 6 true (.call (.c (.fn 205)) [.s 8,.c (.fn 242)])),(zg 10 6 true (.not (.s 9))),(zo 11 (.pick (.s 6) (.s 10) cF)),(mv 2 11)]) .ret)
theorem e202:aI Tryz.prog 202 g202 [] [] []=some (c202,[.slot 2],12):=by kernel_rfl
def wsV (s:B):Sq B:=⟨(Lib.split s [32]).length,fun i=>(Lib.split s [32]).getD i []⟩
def Iq (s:B):Bool:=decide ((s.length:Int)<=60) && !orB (fun i=>pQ ((wsV s).f i)) (wsV s).n
def Um:Eng.Spec where
 X:=B
 args:=fun x=>.cons (.str x) .nil
 pre:=okT
 res:=fun x=>.bool (Iq x)
 inst:=EV0.one oK
theorem Qu:Um.Ok Tryz.prog 202:=by
 refine Eng.Spec.okR e202 .nil (fun _=>[(241,.p tI),(205,.p Vh)]) (fun _ _=>aA.p V2.split (aA.p Rm aA.nil)) ?_
 rintro (s:B) (h0:s.length<=1000000)
 have e:aE (decide ((s.length:Int)<=60)) (.s 10) cF (!orB (fun i=>pQ ((wsV s).f i)) (wsV s).n) false=Iq s:=by rw [aF]; rfl
 refine ⟨trivial,?_⟩
 have hw:((s.length:Int)<=60)->(wsV s).n<=1000000/\∀ i,i < (wsV s).n->okT ((wsV s).f i):=fun hl=>by
  have h1:=SP.Np 32 s
  unfold wsV
  rw [SP.Kg]
  refine ⟨by show (SP.spl 32 s).length<=1000000; omega,fun i hi=>?_⟩
  replace hi:i < (SP.spl 32 s).length:=hi
  show ((SP.spl 32 s).getD i []).length<=1000000
  rw [List.getD_eq_getElem?_getD,List.getElem?_eq_getElem hi]
  have:=h1.2 _ (List.getElem_mem hi)
  simp only [Option.getD_some]
  omega
 refine And.intro (fun _=>And.intro h0 ?_) ?_
 ·repeat' (first|apply And.intro|exact trivial|exact rfl)
 refine And.intro (fun (hg:decide ((s.length:Int)<=60)=true)=>And.intro (hw (of_decide_eq_true hg)) ?_) ?_
 all_goals repeat' (first|apply And.intro|exact trivial|exact rfl|exact lz fun _=>rfl|exact e)
def g143:List Nat:=[6,8,5,4,3,27,7,0,2]
def c143:aH :=
 .seq (.region g143 [(zo 2 (.move cF))]) (.seq (.seq (.region g143 [(mv 5 0),(zo 6 (.lenSl (.s 5))),(zo 7 (.move (cj 0)))]) (.block 0 (.loop 0 [8,9,10,11,4,3,12,13,14,15,16,17,18,19,20,21,22,23,24,25,26,27,2,28,7] (.seq (.region g143 [(zo 8 (.bin (.lss) (.s 7) (.s 6)))]) (.seq (.cond (.s 8) .skip (.exit 0)) (.seq (.block 1 (.seq (.region g143 [(mv 9 7),(zo 10 (.idxSl 2 (.s 5) (.s 7))),(zo 11 (.load 2 true (.s 10))),(zo 4 (.alloc 53 zPt)),(mv 3 9),⟨none,none,.store 2 (.s 4) (.s 11),[]⟩]) (.seq (.drawn g143 (.pure 0 (zo 12 (.load 2 true (.s 4))) (.pure 1 (zo 13 (.call (.c (.fn 151)) [.s 12])) (.pure 2 (zo 14 (.not (.s 13))) (.pure 3 (mv 15 14) (.pure 4 (mg 16 15 false 3) (.pure 5 (zg 17 15 false (.bin (.gtr) (.s 16) (cj 0))) (.pure 6 (mg 18 15 false 17) (.pure 7 (zg 19 18 true (.load 2 true (.s 4))) (.pure 8 (mg 20 18 true 0) (.pure 9 (mg 21 18 true 3) (.pure 10 (zg 22 18 true (.bin (.sub) (.s 21) (cj 1))) (.pure 11 (zg 23 18 true (.idxSl 2 (.s 20) (.s 22))) (.pure 12 (zg 24 18 true (.load 2 true (.s 23))) (.pure 13 (zg 25 18 true (.eqS false [(0,1),(1,1)] (.s 19) (.s 24))) (.pure 14 (zg 26 15 false (.pick (.s 18) (.s 25) cF)) (.pure 15 (zo 27 (.pick (.s 15) cT (.s 26))) .done))))))))))))))))) (.cond (.s 27) (.seq (.region g143 [(zo 2 (.move cF))]) .ret) .skip)))) (.region g143 [(zo 28 (.bin (.add) (.s 7) (cj 1))),(mv 7 28)]))))))) (.seq (.region g143 [(mv 29 0),(zo 30 (.lenSl (.s 29))),(zo 31 (.bin (.geq) (.s 30) (cj 2))),(mv 32 31),(mg 33 32 true 0),(zg 34 32 true (.lenSl (.s 33))),(zg 35 32 true (.bin (.leq) (.s 34) (cj 40))),(zo 36 (.pick (.s 32) (.s 35) cF)),(mv 2 36)]) .ret))
theorem e143:aI Tryz.prog 143 g143 [] [] []=some (c143,[.slot 2],37):=by kernel_rfl
def Lo (r:Pts) (i:Nat):Bool:=!onB (r.p i) || (decide ((0:Int) < (i:Int)) && (decide ((r.p i).1=(r.p ((i:Int) - 1).toNat).1) && (decide ((r.p i).2=(r.p ((i:Int) - 1).toNat).2) && true)))
def Fg (r:Pts):Bool:=!orB (Lo r) r.n && (decide ((r.n:Int)>=2) && decide ((r.n:Int)<=40))
def Ut:Eng.Spec where
 X:=Pts
 args:=fun r=>.cons (rgE r) .nil
 pre:=fun r=>r.n<=1000000
 res:=fun r=>.bool (Fg r)
 inst:=EV0.one pW
theorem Q1:Ut.Ok Tryz.prog 143:=by
 refine Eng.Spec.okR e143 .nil (fun _=>[(151,.p On)]) (fun _ _=>aA.p rR aA.nil) ?_
 rintro (r:Pts) (hn:r.n<=1000000)
 refine ⟨trivial,?_⟩
 repeat' (first|apply And.intro|exact trivial|exact rfl)
 refine ⟨⟨Nat,fun i=>i<=r.n/\orB (Lo r) i=false,fun i=>[(7,.int .i64 (i:Int))],fun _=>[],fun i=>r.n - i⟩,0,⟨Nat.zero_le _,rfl⟩,?_,?_⟩
 ·repeat' (first|apply And.intro|exact trivial|exact rfl|exact lz fun _=>rfl)
 rintro (i:Nat) ⟨(hi:i<=r.n),(hf:orB (Lo r) i=false)⟩
 repeat' (first|apply And.intro|exact trivial|exact rfl|exact lz fun _=>rfl)
 ·refine fun (h:decide ((i:Int) < (r.n:Int))=true)=>?_
  have hi1:(i:Int) < (r.n:Int):=of_decide_eq_true h
  have hil:i < r.n:=by omega
  have hi0:(0:Int)<=(i:Int):=by omega
  have b1:-9223372036854775808<=(i:Int)+1:=by omega
  have b2:(i:Int)+1<=9223372036854775807:=by omega
  repeat' (first|with_reducible exact hi1|with_reducible exact hi0|apply And.intro|exact trivial|exact rfl)
  ·exact fun hg=>by constructor <;> omega
  ·exact fun hg=>by have:=of_decide_eq_true hg.1; constructor <;> omega
  ·refine fun (hc:aE (!onB (r.p i)) cT (.s 26) true (aE (decide ((0:Int) < (i:Int))) (.s 25) cF (decide ((r.p i).1=(r.p ((i:Int) - 1).toNat).1) && (decide ((r.p i).2=(r.p ((i:Int) - 1).toNat).2) && true)) false)=true)=>?_
   rw [aD,aF] at hc
   have e:false=Fg r:=by
    unfold Fg
    rw [aO.2 ⟨i,hil,hc⟩]
    rfl
   repeat' (first|exact e|apply And.intro|exact trivial|exact rfl)
  ·refine fun (hc:aE (!onB (r.p i)) cT (.s 26) true (aE (decide ((0:Int) < (i:Int))) (.s 25) cF (decide ((r.p i).1=(r.p ((i:Int) - 1).toNat).1) && (decide ((r.p i).2=(r.p ((i:Int) - 1).toNat).2) && true)) false)=false)=>?_
   rw [aD,aF] at hc
   have hf1:orB (Lo r) (i+1)=false:=by
    simp only [orB]
    rw [hf]
    exact hc
   repeat' (first|with_reducible exact b1|with_reducible exact b2|apply And.intro|exact trivial|exact rfl)
   refine Exists.intro (i+1) ?_
   refine And.intro (And.intro hil hf1) ?_
   repeat' (first|apply And.intro|exact trivial|exact rfl|exact lz fun _=>rfl)
   show r.n - (i+1) < r.n - i
   omega
 ·refine fun (h:decide ((i:Int) < (r.n:Int))=false)=>?_
  have hi1:¬ (i:Int) < (r.n:Int):=of_decide_eq_false h
  obtain rfl:i=r.n:=by omega
  have e:aE (decide ((2:Int)<=(r.n:Int))) (.s 35) cF (decide ((r.n:Int)<=40)) false=Fg r:=by rw [aF]; unfold Fg; rw [hf]; rfl
  repeat' (first|exact e|apply And.intro|exact trivial|exact rfl)
end F3
end
section
open Go Go.Eng Go.Proofs G1 G2 G3 G4 G6 G7 EV0 N1 F1 F2 F3
set_option maxRecDepth 100000
namespace F4
def g145:List Nat:=[7,9,6,27,5,8,0,3,2]
def c145:aH :=
 .seq (.region g145 [(zo 2 (.move cF))]) (.seq (.region g145 [(zo 3 (.move (.c (.nilsl))))]) (.seq (.seq (.region g145 [(mv 6 0),(zo 7 (.lenSl (.s 6))),(zo 8 (.move (cj 0)))]) (.block 0 (.loop 0 [9,10,11,5,12,13,14,15,16,17,18,19,20,21,22,23,24,25,26,27,2,28,29,30,31,32,3,33,8] (.seq (.region g145 [(zo 9 (.bin (.lss) (.s 8) (.s 7)))]) (.seq (.cond (.s 9) .skip (.exit 0)) (.seq (.block 1 (.seq (.region g145 [(zo 10 (.idxSl 3 (.s 6) (.s 8))),(zo 11 (.load 3 true (.s 10))),(zo 5 (.alloc 98 (.cons (.str []) (.cons (.int .i64 0) (.cons (.str []) .nil))))),⟨none,none,.store 3 (.s 5) (.s 11),[]⟩]) (.seq (.seq (.region g145 [(fa 12 0 5),(ld 13 12),(zo 14 (.call (.c (.fn 137)) [.s 13])),(zo 15 (.not (.s 14))),(mv 16 15),(fg 17 16 false 1 5),(lg 18 16 false 17),(zg 19 16 false (.call (.c (.fn 96)) [.s 18,cj 0,cj 7])),(zg 20 16 false (.not (.s 19))),(zo 21 (.pick (.s 16) cT (.s 20))),(mv 22 21),(fg 23 22 false 2 5),(lg 24 22 false 23),(zg 25 22 false (.call (.c (.fn 202)) [.s 24])),(zg 26 22 false (.not (.s 25))),(zo 27 (.pick (.s 22) cT (.s 26)))]) (.cond (.s 27) (.seq (.region g145 [(zo 2 (.move cF))]) .ret) .skip)) (.seq (.region g145 [(fa 28 2 5),⟨none,none,.store 1 (.s 28) (.c (.str [])),[]⟩]) (.region g145 [(mv 29 3),(zo 30 (.load 3 true (.s 5))),(zo 31 (.buildSl 98 3 1 (.cons (.str []) (.cons (.int .i64 0) (.cons (.str []) .nil))) [(0,3,.s 30)])),(zo 32 (.app 98 3 40 (.s 29) (.s 31))),(mv 3 32)]))))) (.region g145 [(zo 33 (.bin (.add) (.s 8) (cj 1))),(mv 8 33)]))))))) (.seq (.region g145 [(mv 34 0),(zo 35 (.lenSl (.s 34))),(zo 36 (.call (.c (.fn 96)) [.s 35,cj 1,cj 8])),(mv 37 36),(mg 38 37 true 3),(zg 39 37 true (.call (.c (.fn 203)) [.s 38])),(zo 40 (.pick (.s 37) (.s 39) cF)),(mv 2 40)]) .ret)))
theorem e145:aI Tryz.prog 145 g145 [] [] []=some (c145,[.slot 2],41):=by kernel_rfl
def nt (x:Nm):Nm:=⟨x.lang,x.script,[]⟩
def nbad (x:Nm):Bool:=(!L10.dL x.lang || !bI x.script 0 7) || !Iq x.text
def Fm (r:Sq Nm):Bool:=!orB (fun i=>nbad (r.f i)) r.n && (bI (r.n:Int) 1 8 && jE (fun i=>kN (nt (r.f i))) r.n)
def Vc:Eng.Spec where
 X:=Sq Nm
 args:=fun r=>.cons (nmE r) .nil
 pre:=fun r=>okS r okN
 res:=fun r=>.bool (Fm r)
 inst:=EV0.one nmD
theorem Rf:Vc.Ok Tryz.prog 145:=by
 refine Eng.Spec.okR e145 .nil (fun _=>[(137,.p L10.qR),(96,.p xT),(202,.p Um),(203,.p dNS)]) (fun _ _=>aA.p L10.wP (aA.p lM (aA.p Qu (aA.p T5 aA.nil)))) ?_
 rintro (r:Sq Nm) ⟨(hn:r.n<=1000000),hel⟩
 refine ⟨trivial,?_⟩
 repeat' (first|apply And.intro|exact trivial|exact rfl)
 refine ⟨⟨Nat,fun i=>i<=r.n/\orB (fun i=>nbad (r.f i)) i=false,fun i=>[(8,.int .i64 (i:Int)),(3,.lsl 20 3 i)],fun i=>[(20,.arr 98 3 i fun j=>nmL (nt (r.f j)))],fun i=>r.n - i⟩,0,⟨Nat.zero_le _,rfl⟩,?_,?_⟩
 ·repeat' (first|apply And.intro|exact trivial|exact rfl|exact lz fun _=>rfl)
 rintro (i:Nat) ⟨(hi:i<=r.n),(hf:orB (fun i=>nbad (r.f i)) i=false)⟩
 repeat' (first|apply And.intro|exact trivial|exact rfl|exact lz fun _=>rfl)
 ·refine fun (h:decide ((i:Int) < (r.n:Int))=true)=>?_
  have hi1:(i:Int) < (r.n:Int):=of_decide_eq_true h
  have hil:i < r.n:=by omega
  have hi0:(0:Int)<=(i:Int):=by omega
  have hok1:=(hel i hil).1
  have hok2:=(hel i hil).2
  have b1:-9223372036854775808<=(i:Int)+1:=by omega
  have b2:(i:Int)+1<=9223372036854775807:=by omega
  repeat' (first|with_reducible exact hi1|with_reducible exact hi0|apply And.intro|exact trivial|exact rfl|exact hok1|refine gd ?_|exact hok2)
  ·refine fun (hc:aE (aE (!L10.dL (r.f i).lang) cT (.s 20) true (!bI (r.f i).script 0 7)) cT (.s 26) true (!Iq (r.f i).text)=true)=>?_
   rw [aD,aD] at hc
   have e:false=Fm r:=by
    unfold Fm
    rw [aO.2 ⟨i,hil,hc⟩]
    rfl
   repeat' (first|exact e|apply And.intro|exact trivial|exact rfl)
  ·refine fun (hc:aE (aE (!L10.dL (r.f i).lang) cT (.s 20) true (!bI (r.f i).script 0 7)) cT (.s 26) true (!Iq (r.f i).text)=false)=>?_
   rw [aD,aD] at hc
   have hf1:orB (fun i=>nbad (r.f i)) (i+1)=false:=by
    simp only [orB]
    rw [hf]
    exact hc
   have m1:i+1<=9223372036854775807:=by omega
   have m2:(i+1) * 40<=140737488355328:=by omega
   repeat' (first|with_reducible exact b1|with_reducible exact b2|apply And.intro|exact trivial|exact rfl|exact m1|exact m2)
   refine Exists.intro (i+1) ?_
   refine And.intro (And.intro hil hf1) ?_
   repeat' (first|apply And.intro|exact trivial|exact rfl|exact lz fun _=>rfl|exact fun (j:Nat) (hj:j < i+1)=>EL.aV (EL.uH (g:=nmL) (f:=fun j=>nt (r.f j)) rfl hj) (Kn ..))
   show r.n - (i+1) < r.n - i
   omega
 ·refine fun (h:decide ((i:Int) < (r.n:Int))=false)=>?_
  have hi1:¬ (i:Int) < (r.n:Int):=of_decide_eq_false h
  obtain rfl:i=r.n:=by omega
  have e:aE (bI (r.n:Int) 1 8) (.s 39) cF (jE (fun i=>kN (nt (r.f i))) r.n) false=Fm r:=by
   rw [aF]
   unfold Fm
   rw [hf]
   rfl
  repeat' (first|exact e|apply And.intro|exact trivial|exact rfl|exact lz fun _=>rfl|exact hn|refine gd ?_)
  ·exact Nat.le_of_eq (Nat.zero_add _)
  ·exact fun (j:Nat) (hj:j < r.n)=>EL.aV (congrArg (fun j=>nmL (nt (r.f j))) (Nat.zero_add j)) (Kn _ _ _ _)
end F4
end
section
open Go Go.Eng Go.Proofs G1 G2 G3 G4 G6 G7 EV0 N1 F1 F2 F3 F4
set_option maxRecDepth 100000
namespace F5
def g155:List Nat:=[0,9,11,8,17,7,10,1,5,4]
def c155:aH :=
 .seq (.region g155 [(zo 4 (.move cF))]) (.seq (.region g155 [(zo 5 (.move (.c (.nilsl))))]) (.seq (.seq (.region g155 [(mv 8 0),(zo 9 (.lenSl (.s 8))),(zo 10 (.move (cj 0)))]) (.block 0 (.loop 0 [11,12,13,7,14,15,16,17,4,18,19,20,21,22,23,24,25,26,27,1,5,28,10] (.seq (.region g155 [(zo 11 (.bin (.lss) (.s 10) (.s 9)))]) (.seq (.cond (.s 11) .skip (.exit 0)) (.seq (.block 1 (.seq (.region g155 [(zo 12 (.idxSl 7 (.s 8) (.s 10))),(zo 13 (.load 7 true (.s 12))),(zo 7 (.alloc 195 zEn)),⟨none,none,.store 7 (.s 7) (.s 13),[]⟩]) (.seq (.seq (.region g155 [(fa 14 1 7),(zo 15 (.load 4 true (.s 14))),(zo 16 (.call (.c (.fn 150)) [.s 15])),(zo 17 (.not (.s 16)))]) (.cond (.s 17) (.seq (.region g155 [(zo 4 (.move cF))]) .ret) .skip)) (.seq (.drawn [0,9,11,8,17,7,10,1,5,4,22,27] (.pure 0 (mv 18 1) (.pure 1 (fa 19 0 7) (.pure 2 (ld 20 19) (.pure 3 (zo 21 (.buildSl 9 1 1 (.cons (.str []) .nil) [(0,1,.s 20)])) (.pure 5 (mv 23 5) (.pure 6 (fa 24 1 7) (.pure 7 (zo 25 (.load 4 true (.s 24))) (.pure 8 (zo 26 (.buildSl 51 4 1 zHn [(0,4,.s 25)])) (.eff 4 (zo 22 (.app 9 1 16 (.s 18) (.s 21))) [(zo 25 (.load 4 true (.s 24)))] (.eff 9 (zo 27 (.app 51 4 40 (.s 23) (.s 26))) [] .done .none) .none)))))))))) (.region g155 [(mv 1 22),(mv 5 27)]))))) (.region g155 [(zo 28 (.bin (.add) (.s 10) (cj 1))),(mv 10 28)]))))))) (.seq (.region g155 [(mv 29 1),(zo 30 (.call (.c (.fn 147)) [.s 29])),(mv 31 30),(mg 32 31 true 5),(zg 33 31 true (.call (.c (.fn 211)) [.s 32])),(zo 34 (.pick (.s 31) (.s 33) cF)),(mv 4 34)]) .ret)))
theorem e155:aI Tryz.prog 155 g155 [] [] []=some (c155,[.slot 4],35):=by kernel_rfl
def mF (l:Sq En) (more:List B) (j:Nat):B:=if j < more.length then more.getD j [] else (l.f (j - more.length)).id
def lA (l:Sq En) (more:List B):Bool:=!orB (fun i=>!kA (l.f i).num) l.n && (mA ⟨more.length+l.n,mF l more⟩ && jE (fun i=>kH (l.f i).num) l.n)
def Uv:Eng.bZ where
 X:=Sq En×List B
 Y:=Unit
 args:=fun x=>.cons (enE x.1) (.cons (.lsl 0 1 x.2.length) .nil)
 pre:=fun x=>(x.1.n<=900000/\∀ i,i < x.1.n->okE (x.1.f i))/\x.2.length<=1000/\∀ j,j < x.2.length->okT (x.2.getD j [])
 h0:=fun x=>[(0,.arr 9 1 x.2.length fun j=>stL (x.2.getD j []))]
 nx0:=1
 post:=fun _ _=>True
 res:=fun x _=>.bool (lA x.1 x.2)
 h1:=fun _ _=>[]
 nx1:=1
theorem wU {f:Nat->Bool} {n:Nat} (h:orB f n=false) (hc:f n=false):orB f (n+1)=false:=by
 simp only [orB]
 rw [h,hc]
 rfl
theorem pT {f g:Nat->Bool}:∀ {n:Nat},(∀ i,i < n->f i=g i)->orB f n=orB g n:=by
 intro n
 induction n with
 | zero=>intro _; rfl
 | succ n ih=>intro h; simp only [orB]; rw [ih fun i hi=>h i (by omega),h n (by omega)]
theorem Bi {f g:Nat->aK} {n:Nat} (h:∀ i,i < n->f i=g i):jE f n=jE g n:=by
 unfold jE
 rw [pT fun i hi=>pT fun j hj=>by rw [h i hi,h j (by omega)]]
theorem nC {f g:Nat->B} {n:Nat} (h:∀ i,i < n->f i=g i):mA ⟨n,f⟩=mA ⟨n,g⟩:=by
 unfold mA
 dsimp only
 rw [Bi (g:=fun i=>kS (g i)) fun i hi=>by rw [h i hi],pT (g:=fun i=>oF (g i)) fun i hi=>by rw [h i hi]]
theorem Ot {l:Sq En} {more:List B} {j:Nat} (h:j < more.length):mF l more j=more.getD j []:=if_pos h
theorem Oq {l:Sq En} {more:List B} {i:Nat}:mF l more (more.length+i)=(l.f i).id:=by
 unfold mF
 rw [if_neg (by omega),show more.length+i - more.length=i by omega]
theorem Pg {l:Sq En} {more:List B} {e:Nat->SV} (he:e 0=stL (l.f 0).id) {j:Nat} (hj:j < more.length+1):cU more.length (fun j=>stL (more.getD j [])) e j=stL (mF l more j):=by
 unfold cU
 by_cases h:j < more.length
 ·rw [show Nat.blt j more.length=true from Nat.ble_eq_true_of_le h,cond_true,Ot h]
 ·have:Nat.blt j more.length=false:=by
   cases hb:Nat.blt j more.length with
   | false=>rfl
   | true=>exact absurd (Nat.le_of_ble_eq_true hb) h
  rw [this,cond_false,show j - more.length=0 by omega,he,show j=more.length+0 by omega,Oq]
set_option maxHeartbeats 16000000 in
theorem Q6:Uv.Ok Tryz.prog 155:=by
 refine Eng.bZ.okR e155 .nil (fun _=>[(150,.p K5),(147,.p Bw),(211,.p dHS)]) (fun _ _=>aA.p xR (aA.p pL (aA.p N5 aA.nil))) ?_
 rintro ⟨l,more⟩ ⟨⟨(hn:l.n<=900000),(hel:∀ i,i < l.n->okE (l.f i))⟩,(hm:more.length<=1000),hmo⟩
 refine ⟨trivial,?_⟩
 repeat' (first|apply And.intro|exact trivial|exact rfl)
 refine ⟨⟨Option Nat,fun x=>match x with
   | none=>True
   | some i=>1<=i/\i<=l.n/\orB (fun i=>!kA (l.f i).num) i=false,
  fun x=>match x with
   | none=>[(10,.int .i64 0),(1,.lsl 0 1 more.length),(5,.lsl 21 4 0)]
   | some i=>[(10,.int .i64 (i:Int)),(1,.lsl 20 1 (more.length+i)),(5,.lsl 21 4 i)],
  fun x=>match x with
   | none=>[(21,.arr 51 4 0 fun j=>hnL (l.f j).num)]
   | some i=>[(20,.arr 9 1 (more.length+i) fun j=>stL (mF l more j)),(21,.arr 51 4 i fun j=>hnL (l.f j).num)],fun x=>match x with
   | none=>l.n+1
   | some i=>l.n - i⟩,none,trivial,?_,?_⟩
 ·repeat' (first|apply And.intro|exact trivial|exact rfl|exact lz fun _=>rfl)
 intro (x:Option Nat) hx
 cases x with
 | none =>
  repeat' (first|apply And.intro|exact trivial|exact rfl|exact lz fun _=>rfl)
  ·refine fun (h:decide ((0:Int) < (l.n:Int))=true)=>?_
   have hi1:(0:Int) < (l.n:Int):=of_decide_eq_true h
   have hil:0 < l.n:=by omega
   have hi0:(0:Int)<=(0:Int):=by omega
   have b1:-9223372036854775808<=(0:Int)+1:=by omega
   have b2:(0:Int)+1<=9223372036854775807:=by omega
   repeat' (first|with_reducible exact hi1|with_reducible exact hi0|apply And.intro|exact trivial|exact rfl)
   ·refine fun (hc:(!kA (l.f 0).num)=true)=>?_
    have e:false=lA l more:=by
     unfold lA
     rw [aO.2 ⟨0,hil,hc⟩]
     rfl
    repeat' (first|exact e|apply And.intro|exact trivial|exact rfl|refine Exists.intro () ?_)
   ·refine fun (hc:(!kA (l.f 0).num)=false)=>?_
    have hf1:orB (fun i=>!kA (l.f i).num) (0+1)=false:=wU rfl hc
    have m1:more.length+1<=9223372036854775807:=by omega
    have m2:(more.length+1) * 16<=140737488355328:=by omega
    have m3:0+1<=9223372036854775807:=by omega
    have m4:(0+1) * 40<=140737488355328:=by omega
    repeat' (first|with_reducible exact b1|with_reducible exact b2|apply And.intro|exact trivial|exact rfl)
    ·exact m1
    ·exact m2
    ·exact m3
    ·exact m4
    refine Exists.intro (some (0+1)) (And.intro (And.intro (Nat.succ_le_succ (Nat.zero_le _)) (And.intro hil hf1)) ?_)
    repeat' (first|apply And.intro|exact trivial|exact rfl|exact lz fun _=>rfl)
    ·exact fun (j:Nat) (hj:j < 0+1)=>EL.aV (EL.uH (g:=hnL) (f:=fun j=>(l.f j).num) rfl hj) (jC ..)
    ·exact fun (j:Nat) (hj:j < more.length+1)=>EL.aV (Pg (l:=l) rfl hj) (bX ..)
    ·show l.n - (0+1) < l.n+1
     omega
  ·refine fun (h:decide ((0:Int) < (l.n:Int))=false)=>?_
   have hi1:¬ (0:Int) < (l.n:Int):=of_decide_eq_false h
   have hil:0=l.n:=by omega
   have e:aE (mA ⟨more.length,fun j=>more.getD j []⟩) (.s 33) cF (jE (fun j=>kH (l.f j).num) 0) false=lA l more:=by
    rw [aF]
    unfold lA
    rw [<- hil,nC (g:=mF l more) fun j hj=>(Ot hj).symm]
    rfl
   repeat' (first|apply And.intro|exact trivial|exact rfl|refine gd ?_)
   ·show more.length<=1000000
    omega
   ·exact hmo
   ·exact Nat.le_of_eq (Nat.zero_add _)
   ·exact fun (j:Nat) (_:j < more.length)=>EL.aV (congrArg (fun j=>stL (more.getD j [])) (Nat.zero_add j)) (bX _ _ _ _)
   ·exact Nat.zero_le _
   ·exact Nat.le_refl _
   ·exact fun (j:Nat) (h:j < 0)=>absurd h (Nat.not_lt_zero j)
   refine Exists.intro () ?_
   repeat' (first|apply And.intro|exact trivial|exact rfl|exact e)
 | some i =>
  obtain ⟨(hi0':1<=i),(hi:i<=l.n),(hf:orB (fun i=>!kA (l.f i).num) i=false)⟩:=hx
  repeat' (first|apply And.intro|exact trivial|exact rfl|exact lz fun _=>rfl)
  ·refine fun (h:decide ((i:Int) < (l.n:Int))=true)=>?_
   have hi1:(i:Int) < (l.n:Int):=of_decide_eq_true h
   have hil:i < l.n:=by omega
   have hi0:(0:Int)<=(i:Int):=by omega
   have b1:-9223372036854775808<=(i:Int)+1:=by omega
   have b2:(i:Int)+1<=9223372036854775807:=by omega
   repeat' (first|with_reducible exact hi1|with_reducible exact hi0|apply And.intro|exact trivial|exact rfl)
   ·refine fun (hc:(!kA (l.f i).num)=true)=>?_
    have e:false=lA l more:=by
     unfold lA
     rw [aO.2 ⟨i,hil,hc⟩]
     rfl
    repeat' (first|exact e|apply And.intro|exact trivial|exact rfl|refine Exists.intro () ?_)
   ·refine fun (hc:(!kA (l.f i).num)=false)=>?_
    have hf1:orB (fun i=>!kA (l.f i).num) (i+1)=false:=wU hf hc
    have m1:(more.length+i)+1<=9223372036854775807:=by omega
    have m2:((more.length+i)+1) * 16<=140737488355328:=by omega
    have m3:i+1<=9223372036854775807:=by omega
    have m4:(i+1) * 40<=140737488355328:=by omega
    repeat' (first|with_reducible exact b1|with_reducible exact b2|apply And.intro|exact trivial|exact rfl)
    ·exact m1
    ·exact m2
    ·exact m3
    ·exact m4
    refine Exists.intro (some (i+1)) (And.intro (And.intro (Nat.succ_le_succ (Nat.zero_le _)) (And.intro hil hf1)) ?_)
    repeat' (first|apply And.intro|exact trivial|exact rfl|exact lz fun _=>rfl)
    ·exact fun (j:Nat) (hj:j < i+1)=>EL.aV (EL.uH (g:=hnL) (f:=fun j=>(l.f j).num) rfl hj) (jC ..)
    ·exact fun (j:Nat) (hj:j < more.length+i+1)=>EL.aV (EL.uH (g:=stL) (f:=fun j=>mF l more j) (congrArg stL Oq.symm) hj) (bX ..)
    ·show l.n - (i+1) < l.n - i
     omega
  ·refine fun (h:decide ((i:Int) < (l.n:Int))=false)=>?_
   have hi1:¬ (i:Int) < (l.n:Int):=of_decide_eq_false h
   have hil:i=l.n:=by omega
   have hmo2:∀ j,j < more.length+i->okT (mF l more j):=fun j hj=>by
    unfold mF
    split
    ·exact hmo j (by assumption)
    ·exact (hel (j - more.length) (by omega)).1
   have e:aE (mA ⟨more.length+i,mF l more⟩) (.s 33) cF (jE (fun j=>kH (l.f j).num) i) false=lA l more:=by
    rw [aF]
    unfold lA
    rw [<- hil,hf]
    rfl
   repeat' (first|apply And.intro|exact trivial|exact rfl|refine gd ?_)
   ·show more.length+i<=1000000
    omega
   ·exact hmo2
   ·exact Nat.le_of_eq (Nat.zero_add _)
   ·exact fun (j:Nat) (_:j < more.length+i)=>EL.aV (congrArg (fun j=>stL (mF l more j)) (Nat.zero_add j)) (bX _ _ _ _)
   ·show i<=1000000
    omega
   ·exact Nat.le_of_eq (Nat.zero_add _)
   ·exact fun (j:Nat) (_:j < i)=>EL.aV (congrArg (fun j=>hnL (l.f j).num) (Nat.zero_add j)) (jC _ _ _ _)
   refine Exists.intro () ?_
   repeat' (first|apply And.intro|exact trivial|exact rfl|exact e)
end F5
end
