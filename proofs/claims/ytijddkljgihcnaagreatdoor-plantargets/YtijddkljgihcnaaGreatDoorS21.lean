/- A part of the proof. -/
import Derived.Test.YtijddkljgihcnaaGreatDoorS20
open Go Go.Eng Go.Proofs F1 F2 F6 F10 G7 G4 L3 L10 G1 G3 EV0 S1 S10 S11 S12 S13 S14 S15 S16 S19
set_option maxRecDepth 100000
namespace S21
structure Ar where
 id:B
 kind:Int
 ring:Pts
def ar0:Ar:=⟨[],0,⟨0,fun _=>(0,0)⟩⟩
def arC (a:Ar):SV:=.cons (.str a.id) (.cons (.int .i64 a.kind) (.cons (rgE a.ring) .nil))
def arE (l:Sq Ar):SV:=.slice 3 l.n fun i=>arC (l.f i)
theorem aW (k:Keep) (hp:List (Nat×aG)) (m:Nat) (x:Ar) (hk:loose k=true):sub k hp (m+20) (arC x) (arC x):=by
 repeat' (first|exact hk|apply And.intro|exact trivial|exact rfl|exact lz fun _=>rfl)
def arD (s:SV):Option (Sq Ar):=sqD (fun c=>⟨bH (aJ c 0),aP (aJ c 1),Fw (aJ c 2)⟩) s
theorem N2 {T:Type} {c:T->SV} {l:List T} {a d:T} {e:Nat->SV} (he:e 0=c a) {j:Nat} (hj:j < l.length+1):cU l.length (fun j=>c (l.getD j d)) e j=c ((l++[a]).getD j d):=by
 unfold cU
 by_cases h:j < l.length
 ·rw [show Nat.blt j l.length=true from Nat.ble_eq_true_of_le h,cond_true]
  show c (l.getD j d)=_
  rw [List.getD_eq_getElem?_getD,List.getD_eq_getElem?_getD,List.getElem?_append_left h]
 ·have hb:Nat.blt j l.length=false:=by
   cases hb:Nat.blt j l.length with
   | false=>rfl
   | true=>exact absurd (Nat.le_of_ble_eq_true hb) h
  rw [hb,cond_false,show j - l.length=0 by omega,he,show j=l.length by omega]
  simp [List.getD_eq_getElem?_getD]
def arF (l:Sq Rn):Nat->List Ar
 | 0=>[]
 | k+1=>if (l.f k).ended=-1 then arF l k++[⟨(l.f k).id,(l.f k).kind,(l.f k).ring⟩] else arF l k
theorem Dn {l:Sq Rn}:∀ k,(arF l k).length<=k:=by
 intro k
 induction k with
 | zero=>exact Nat.le_refl _
 | succ k ih =>
  simp only [arF]
  split
  ·rw [List.length_append]
   simp only [List.length_cons,List.length_nil]
   omega
  ·omega
def iX (s:Sta):Sq Ar:=⟨(arF s.regions s.regions.n).length,fun j=>(arF s.regions s.regions.n).getD j ar0⟩
theorem Lj {l:Sq Rn} {k:Nat} (h:(l.f k).ended=-1):arF l (k+1)=arF l k++[⟨(l.f k).id,(l.f k).kind,(l.f k).ring⟩]:=by simp only [arF]; rw [if_pos h]
theorem Ph {l:Sq Rn} {k:Nat} (h:¬ (l.f k).ended=-1):arF l (k+1)=arF l k:=by simp only [arF]; rw [if_neg h]
theorem yB {l:Sq Rn}:(arF l 0).length=0:=rfl
def g73:List Nat:=[0,1,8,10,7,15,5,9,3,2]
def c73:aH :=
 .seq (.region g73 [(zo 1 (.box 30 (.s 0))),(zo 2 (.move (.c (.nilsl))))]) (.seq (.region g73 [(zo 3 (.move (.c (.nilsl))))]) (.seq (.seq (.region g73 [(fa 6 0 1),(ld 7 6),(zo 8 (.lenSl (.s 7))),(zo 9 (.move (cj 0)))]) (.block 0 (.loop 0 [10,11,12,5,13,14,15,16,17,18,19,20,21,22,23,24,25,3,26,9] (.seq (.region g73 [(zo 10 (.bin (.lss) (.s 9) (.s 8)))]) (.seq (.cond (.s 10) .skip (.exit 0)) (.seq (.block 1 (.seq (.region g73 [(zo 11 (.idxSl 6 (.s 7) (.s 9))),(zo 12 (.load 6 true (.s 11))),(zo 5 (.alloc 67 (.cons (.str []) (.cons (.int .i64 0) (.cons (.int .i64 0) (.cons (.nilsl) (.cons (.nilsl) (.cons (.int .i64 0) .nil)))))))),⟨none,none,.store 6 (.s 5) (.s 12),[]⟩]) (.seq (.region g73 [(fa 13 5 5),(ld 14 13),(zo 15 (.bin (.eql) (.s 14) (cj (-1))))]) (.cond (.s 15) (.region g73 [(mv 16 3),(fa 17 0 5),(ld 18 17),(fa 19 1 5),(ld 20 19),(fa 21 3 5),(ld 22 21),(zo 23 (.build (.cons (.str []) (.cons (.int .i64 0) (.cons (.nilsl) .nil))) [(0,1,.s 18),(1,1,.s 20),(2,1,.s 22)])),(zo 24 (.buildSl 130 3 1 (.cons (.str []) (.cons (.int .i64 0) (.cons (.nilsl) .nil))) [(0,3,.s 23)])),(zo 25 (.app 130 3 48 (.s 16) (.s 24))),(mv 3 25)]) .skip)))) (.region g73 [(zo 26 (.bin (.add) (.s 9) (cj 1))),(mv 9 26)]))))))) (.seq (.region g73 [(mv 27 3),(mv 2 27)]) .ret)))
theorem e73:aI Tryz.prog 73 g73 [] [] []=some (c73,[.slot 2],28):=by kernel_rfl
def Tt:Eng.bZ where
 X:=Sta
 Y:=Unit
 args:=fun x=>.cons (kM x) .nil
 pre:=fun x=>x.regions.n<=1000000
 h0:=fun _=>[]
 nx0:=0
 post:=fun _ _=>True
 res:=fun x _=>.lsl 0 3 (iX x).n
 h1:=fun x _=>[(0,.arr 130 3 (iX x).n fun j=>arC ((iX x).f j))]
 nx1:=1
 fresh:=false
attribute [local irreducible] arF
set_option maxHeartbeats 4000000 in
theorem Pj:Tt.Ok Tryz.prog 73:=by
 refine Eng.bZ.okR e73 .nil (fun _=>[]) (fun _ _=>aA.nil) ?_
 rintro (s:Sta) (hn:s.regions.n<=1000000)
 refine ⟨trivial,?_⟩
 repeat' (first|apply And.intro|exact trivial|exact rfl|exact lz fun _=>rfl|exact fun (j:Nat) (hj:j < _)=>Or.inl (fT _ _ _ _ rfl)|exact fun (j:Nat) (hj:j < _)=>Or.inl (iE _ _ _ _ rfl)|exact fun (j:Nat) (hj:j < _)=>Or.inl (iF _ _ _ _ rfl)|exact fun (j:Nat) (hj:j < _)=>Or.inl (iD _ _ _ _ rfl)|exact fun (j:Nat) (hj:j < _)=>Or.inl (aW _ _ _ _ rfl))
 refine ⟨⟨Nat,fun i=>i<=s.regions.n,fun i=>[(9,.int .i64 (i:Int)),(3,.lsl 20 3 (arF s.regions i).length)],
  fun i=>[(20,.arr 130 3 (arF s.regions i).length fun j=>arC ((arF s.regions i).getD j ar0))],fun i=>s.regions.n - i⟩,0,Nat.zero_le _,?_,?_⟩
 ·repeat' (first|exact yB|exact yB.symm|apply And.intro|exact trivial|exact rfl|exact lz fun _=>rfl|exact fun (j:Nat) (hj:j < _)=>Or.inl (fT _ _ _ _ rfl)|exact fun (j:Nat) (hj:j < _)=>Or.inl (iE _ _ _ _ rfl)|exact fun (j:Nat) (hj:j < _)=>Or.inl (iF _ _ _ _ rfl)|exact fun (j:Nat) (hj:j < _)=>Or.inl (iD _ _ _ _ rfl)|exact fun (j:Nat) (hj:j < _)=>Or.inl (aW _ _ _ _ rfl))
 rintro (i:Nat) (hi:i<=s.regions.n)
 have hal:=Dn (l:=s.regions) i
 repeat' (first|apply And.intro|exact trivial|exact rfl|exact lz fun _=>rfl|exact fun (j:Nat) (hj:j < _)=>Or.inl (fT _ _ _ _ rfl)|exact fun (j:Nat) (hj:j < _)=>Or.inl (iE _ _ _ _ rfl)|exact fun (j:Nat) (hj:j < _)=>Or.inl (iF _ _ _ _ rfl)|exact fun (j:Nat) (hj:j < _)=>Or.inl (iD _ _ _ _ rfl)|exact fun (j:Nat) (hj:j < _)=>Or.inl (aW _ _ _ _ rfl))
 ·refine fun (h:decide ((i:Int) < (s.regions.n:Int))=true)=>?_
  have hil:i < s.regions.n:=by have:=of_decide_eq_true h; omega
  have b0:(0:Int)<=(i:Int):=by omega
  have b1:(i:Int) < (s.regions.n:Int):=by omega
  have b2:-9223372036854775808<=(i:Int)+1:=by omega
  have b3:(i:Int)+1<=9223372036854775807:=by omega
  have m1:(arF s.regions i).length+1<=9223372036854775807:=by omega
  have m2:((arF s.regions i).length+1) * 48<=140737488355328:=by omega
  have em:s.regions.n - (i+1) < s.regions.n - i:=by omega
  repeat' (first|with_reducible exact b0|with_reducible exact b1|with_reducible exact b2|with_reducible exact b3|exact m1|exact m2|apply And.intro|exact trivial|exact rfl|exact lz fun _=>rfl|exact fun (j:Nat) (hj:j < _)=>Or.inl (fT _ _ _ _ rfl)|exact fun (j:Nat) (hj:j < _)=>Or.inl (iE _ _ _ _ rfl)|exact fun (j:Nat) (hj:j < _)=>Or.inl (iF _ _ _ _ rfl)|exact fun (j:Nat) (hj:j < _)=>Or.inl (iD _ _ _ _ rfl)|exact fun (j:Nat) (hj:j < _)=>Or.inl (aW _ _ _ _ rfl))
  ·refine fun (hc:decide ((s.regions.f (i:Int).toNat).ended=-1)=true)=>?_
   have hd:(s.regions.f i).ended=-1:=of_decide_eq_true hc
   have ea:arF s.regions (i+1)=arF s.regions i++[⟨(s.regions.f i).id,(s.regions.f i).kind,(s.regions.f i).ring⟩]:=Lj hd
   have el:(arF s.regions i).length+1=(arF s.regions (i+1)).length:=by rw [ea,List.length_append]; rfl
   repeat' (first|with_reducible exact b2|with_reducible exact b3|exact m1|exact m2|apply And.intro|exact trivial|exact rfl|exact lz fun _=>rfl|exact fun (j:Nat) (hj:j < _)=>Or.inl (fT _ _ _ _ rfl)|exact fun (j:Nat) (hj:j < _)=>Or.inl (iE _ _ _ _ rfl)|exact fun (j:Nat) (hj:j < _)=>Or.inl (iF _ _ _ _ rfl)|exact fun (j:Nat) (hj:j < _)=>Or.inl (iD _ _ _ _ rfl)|exact fun (j:Nat) (hj:j < _)=>Or.inl (aW _ _ _ _ rfl))
   refine Exists.intro (i+1) (And.intro hil ?_)
   repeat' (first|with_reducible exact em|exact el|exact fun (j:Nat) (hj:j < (arF s.regions i).length+1)=>EL.aV ((N2 (c:=arC) (a:=⟨(s.regions.f i).id,(s.regions.f i).kind,(s.regions.f i).ring⟩) (d:=ar0) rfl hj).trans (congrArg (fun l=>arC (l.getD j ar0)) ea.symm)) (aW _ _ _ _ rfl)|apply And.intro|exact trivial|exact rfl|exact lz fun _=>rfl|exact fun (j:Nat) (hj:j < _)=>Or.inl (fT _ _ _ _ rfl)|exact fun (j:Nat) (hj:j < _)=>Or.inl (iE _ _ _ _ rfl)|exact fun (j:Nat) (hj:j < _)=>Or.inl (iF _ _ _ _ rfl)|exact fun (j:Nat) (hj:j < _)=>Or.inl (iD _ _ _ _ rfl)|exact fun (j:Nat) (hj:j < _)=>Or.inl (aW _ _ _ _ rfl))
  ·refine fun (hc:decide ((s.regions.f (i:Int).toNat).ended=-1)=false)=>?_
   have hd:¬ (s.regions.f i).ended=-1:=of_decide_eq_false hc
   have ea:arF s.regions (i+1)=arF s.regions i:=Ph hd
   have el:(arF s.regions i).length=(arF s.regions (i+1)).length:=by rw [ea]
   repeat' (first|with_reducible exact b2|with_reducible exact b3|apply And.intro|exact trivial|exact rfl|exact lz fun _=>rfl|exact fun (j:Nat) (hj:j < _)=>Or.inl (fT _ _ _ _ rfl)|exact fun (j:Nat) (hj:j < _)=>Or.inl (iE _ _ _ _ rfl)|exact fun (j:Nat) (hj:j < _)=>Or.inl (iF _ _ _ _ rfl)|exact fun (j:Nat) (hj:j < _)=>Or.inl (iD _ _ _ _ rfl)|exact fun (j:Nat) (hj:j < _)=>Or.inl (aW _ _ _ _ rfl))
   refine Exists.intro (i+1) (And.intro hil ?_)
   repeat' (first|with_reducible exact em|exact el|exact fun (j:Nat) (hj:j < (arF s.regions i).length)=>EL.aV (congrArg (fun l=>arC (l.getD j ar0)) ea.symm) (aW _ _ _ _ rfl)|apply And.intro|exact trivial|exact rfl|exact lz fun _=>rfl|exact fun (j:Nat) (hj:j < _)=>Or.inl (fT _ _ _ _ rfl)|exact fun (j:Nat) (hj:j < _)=>Or.inl (iE _ _ _ _ rfl)|exact fun (j:Nat) (hj:j < _)=>Or.inl (iF _ _ _ _ rfl)|exact fun (j:Nat) (hj:j < _)=>Or.inl (iD _ _ _ _ rfl)|exact fun (j:Nat) (hj:j < _)=>Or.inl (aW _ _ _ _ rfl))
 refine fun (h:decide ((i:Int) < (s.regions.n:Int))=false)=>?_
 have hil:i=s.regions.n:=by have:=of_decide_eq_false h; omega
 subst hil
 repeat' (first|apply And.intro|exact trivial|exact rfl|exact lz fun _=>rfl|exact fun (j:Nat) (hj:j < _)=>Or.inl (fT _ _ _ _ rfl)|exact fun (j:Nat) (hj:j < _)=>Or.inl (iE _ _ _ _ rfl)|exact fun (j:Nat) (hj:j < _)=>Or.inl (iF _ _ _ _ rfl)|exact fun (j:Nat) (hj:j < _)=>Or.inl (iD _ _ _ _ rfl)|exact fun (j:Nat) (hj:j < _)=>Or.inl (aW _ _ _ _ rfl))
 refine Exists.intro () ?_
 repeat' (first|apply And.intro|exact trivial|exact rfl|exact lz fun _=>rfl|exact fun (j:Nat) (hj:j < _)=>Or.inl (fT _ _ _ _ rfl)|exact fun (j:Nat) (hj:j < _)=>Or.inl (iE _ _ _ _ rfl)|exact fun (j:Nat) (hj:j < _)=>Or.inl (iF _ _ _ _ rfl)|exact fun (j:Nat) (hj:j < _)=>Or.inl (iD _ _ _ _ rfl)|exact fun (j:Nat) (hj:j < _)=>Or.inl (aW _ _ _ _ rfl))
instance:Zr arC:=⟨fun k hp m x h=>aW k hp (m+10) x h⟩
end S21
