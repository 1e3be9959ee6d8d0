/- A part of the proof. -/
import Derived.Test.YtijddkljgihcnaaGreatDoorS4
import Derived.Test.YtijddkljgihcnaaGreatDoorF6
section
open Go Go.Eng Go.Proofs G7 G4 L3 L10 G1 G3 EV0 B1 B2 S1 S2 S3 S4
set_option maxRecDepth 100000
namespace S5
attribute [local irreducible] dst vdV
def g53:List Nat:=[0,1,3]
def c53:aH :=
 .seq (.region g53 [(zo 3 (.move cF))]) (.seq (.region g53 [(mv 4 0),(zo 5 (.bin (.lss) (.s 4) (cj 0))),(mv 6 5),(mg 7 6 false 0),(lg 8 6 false 1),(zg 9 6 false (.lenSl (.s 8))),(zg 10 6 false (.bin (.geq) (.s 7) (.s 9))),(zo 11 (.pick (.s 6) cT (.s 10))),(mv 3 11)]) .ret)
theorem e53:aI Tryz.prog 53 g53 [] [] []=some (c53,[.slot 3],12):=by kernel_rfl
def lD (l:Sq Of) (n:Int):Bool:=decide (n < 0) || decide ((l.n:Int)<=n)
def okI (_:Int):Prop:=True
def odd0:Eng.Spec where
 X:=Int×Sq Of
 args:=fun x=>.cons (.int .i64 x.1) (.cons (.cptr (.cons (ofE x.2) .nil)) .nil)
 pre:=fun x=>okI x.1
 res:=fun x=>.bool (lD x.2 x.1)
 inst:=fun
  | .cons (.int _ a) (.cons (.cptr (.cons c _)) _)=>match ofD c with
   | some l=>some (a,l)
   | none=>none
  | _=>none
theorem M9:odd0.Ok Tryz.prog 53:=by
 refine Eng.Spec.okR e53 .nil (fun _=>[]) (fun _ _=>aA.nil) ?_
 rintro ⟨n,l⟩ _
 have e:aE (decide (n < 0)) cT (.s 10) true (decide ((l.n:Int)<=n))=lD l n:=by rw [aD]; rfl
 refine ⟨trivial,?_⟩
 repeat' (first|apply And.intro|exact trivial|exact rfl|exact lz fun _=>rfl|exact S1.zz rfl|refine gd ?_|exact e)
def g76:List Nat:=[7,9,1,0,16,5,8,4]
def c76:aH :=
 .seq (.region g76 [(zo 4 (.move (cj 0)))]) (.seq (.seq (.region g76 [(mv 6 0),(zo 7 (.lenSl (.s 6))),(zo 8 (.move (cj 0)))]) (.block 0 (.loop 0 [9,10,5,11,12,13,14,15,16,17,4,18,8] (.seq (.region g76 [(zo 9 (.bin (.lss) (.s 8) (.s 7)))]) (.seq (.cond (.s 9) .skip (.exit 0)) (.seq (.block 1 (.seq (.region g76 [(mv 10 8),(mv 5 10)]) (.seq (.region g76 [(mv 11 1),(mv 12 0),(mv 13 5),(zo 14 (.idxSl 1 (.s 12) (.s 13))),(ld 15 14),(zo 16 (.call (.s 11) [.s 15]))]) (.cond (.s 16) (.seq (.region g76 [(mv 17 5),(mv 4 17)]) .ret) .skip)))) (.region g76 [(zo 18 (.bin (.add) (.s 8) (cj 1))),(mv 8 18)]))))))) (.seq (.region g76 [(zo 4 (.move (cj (-1))))]) .ret))
theorem e76:aI Tryz.prog 76 g76 [] [] []=some (c76,[.slot 4],19):=by kernel_rfl
def g54:List Nat:=[0,1,4]
def c54:aH :=
 .seq (.region g54 [(zo 4 (.move cF))]) (.seq (.region g54 [(mv 5 0),(mv 6 1),(zo 7 (.call (.c (.fn 76)) [.s 5,.s 6])),(zo 8 (.bin (.geq) (.s 7) (cj 0))),(mv 4 8)]) .ret)
theorem e54:aI Tryz.prog 54 g54 [] [] []=some (c54,[.slot 4],9):=by kernel_rfl
def Na:Eng.Spec where
 X:=Sq Int×Sq Of
 args:=fun x=>.cons (inE x.1) (.cons (.fn 53 (.cons (.cptr (.cons (ofE x.2) .nil)) .nil)) .nil)
 pre:=fun x=>okS x.1 okI
 res:=fun x=>.int .i64 (aZ (fun i=>lD x.2 (x.1.f i)) x.1.n)
 inst:=fun
  | .cons a (.cons (.fn _ (.cons (.cptr (.cons c _)) _)) .nil)=>match inD a,ofD c with
   | some r,some c=>some (r,c)
   | _,_=>none
  | _=>none
theorem Nb:Na.Ok Tryz.prog 76:=by
 refine Eng.Spec.okR e76 .nil (fun _=>[(53,.p odd0)]) (fun _ _=>aA.p M9 aA.nil) ?_
 rintro ⟨r,c⟩ ⟨(hn:r.n<=1000000),(hel:∀ i,i < r.n->okI (r.f i))⟩
 refine ⟨trivial,?_⟩
 repeat' (first|apply And.intro|exact trivial|exact rfl|exact S1.zz rfl|exact lz fun _=>rfl)
 refine ⟨⟨Nat,fun i=>i<=r.n/\orB (fun i=>lD c (r.f i)) i=false,fun i=>[(8,.int .i64 (i:Int))],fun _=>[],fun i=>r.n - i⟩,0,⟨Nat.zero_le _,rfl⟩,?_,?_⟩
 ·repeat' (first|apply And.intro|exact trivial|exact rfl|exact S1.zz rfl|exact lz fun _=>rfl)
 rintro (i:Nat) ⟨(hi:i<=r.n),(hf:orB (fun i=>lD c (r.f i)) i=false)⟩
 repeat' (first|apply And.intro|exact trivial|exact rfl|exact S1.zz rfl|exact lz fun _=>rfl)
 ·refine fun (h:decide ((i:Int) < (r.n:Int))=true)=>?_
  have hi1:(i:Int) < (r.n:Int):=of_decide_eq_true h
  have hil:i < r.n:=by omega
  have hi0:(0:Int)<=(i:Int):=by omega
  have hok:=hel i hil
  have b1:-9223372036854775808<=(i:Int)+1:=by omega
  have b2:(i:Int)+1<=9223372036854775807:=by omega
  repeat' (first|with_reducible exact hi1|with_reducible exact hi0|apply And.intro|exact trivial|exact rfl|exact S1.zz rfl|exact hok)
  ·refine fun (hc:lD c (r.f i)=true)=>?_
   have e:(i:Int)=aZ (fun i=>lD c (r.f i)) r.n:=(cI hf hc hil).symm
   repeat' (first|exact e|apply And.intro|exact trivial|exact rfl|exact S1.zz rfl)
  ·refine fun (hc:lD c (r.f i)=false)=>?_
   have hf1:orB (fun i=>lD c (r.f i)) (i+1)=false:=by
    simp only [orB]
    rw [hf]
    exact hc
   repeat' (first|with_reducible exact b1|with_reducible exact b2|apply And.intro|exact trivial|exact rfl|exact S1.zz rfl)
   refine Exists.intro (i+1) ?_
   refine And.intro (And.intro hil hf1) ?_
   repeat' (first|apply And.intro|exact trivial|exact rfl|exact S1.zz rfl|exact lz fun _=>rfl)
   show r.n - (i+1) < r.n - i
   omega
 ·refine fun (h:decide ((i:Int) < (r.n:Int))=false)=>?_
  have hi1:¬ (i:Int) < (r.n:Int):=of_decide_eq_false h
  have e:i=r.n:=by omega
  have ef:-1=aZ (fun i=>lD c (r.f i)) r.n:=by rw [<- e,cA hf]
  repeat' (first|exact ef|apply And.intro|exact trivial|exact rfl|exact S1.zz rfl)
def Vl:Eng.Spec where
 X:=Sq Int×Sq Of
 args:=Na.args
 pre:=fun x=>okS x.1 okI
 res:=fun x=>.bool (orB (fun i=>lD x.2 (x.1.f i)) x.1.n)
 inst:=Na.inst
theorem Rr:Vl.Ok Tryz.prog 54:=by
 refine Eng.Spec.okR e54 .nil (fun _=>[(76,.p Na)]) (fun _ _=>aA.p Nb aA.nil) ?_
 rintro ⟨r,c⟩ ⟨(hn:r.n<=1000000),(hel:∀ i,i < r.n->okI (r.f i))⟩
 have e:=kV (f:=fun i=>lD c (r.f i)) (n:=r.n)
 refine ⟨trivial,?_⟩
 repeat' (first|exact hn|exact hel|exact e|apply And.intro|exact trivial|exact rfl|exact S1.zz rfl|exact lz fun _=>rfl)
def g30:List Nat:=[0,1,5,2,4]
def c30:aH :=
 .seq (.region g30 [(zo 2 (.box 22 (.s 0))),(zo 4 (.move cF))]) (.seq (.region g30 [(zo 6 (.mkfn 53 [.s 2])),(mv 5 6)]) (.seq (.region g30 [(mv 7 1),(mv 8 5),(zo 9 (.call (.c (.fn 54)) [.s 7,.s 8])),(zo 10 (.not (.s 9))),(mv 11 10),(lg 12 11 true 2),(zg 13 11 true (.call (.c (.fn 20)) [.s 12])),(zo 14 (.pick (.s 11) (.s 13) cF)),(mv 4 14)]) .ret))
theorem e30:aI Tryz.prog 30 g30 [] [] []=some (c30,[.slot 4],15):=by kernel_rfl
noncomputable def dG (l:Sq Of) (a b:Int):Bool:=!(lD l a || lD l b) && vdV l
noncomputable def R5:Eng.Spec where
 X:=Sq Of×Int×Int
 args:=fun x=>.cons (ofE x.1) (.cons (.slice 1 2 (aJ (.cons (inL x.2.1) (.cons (inL x.2.2) .nil)))) .nil)
 pre:=fun x=>x.1.n<=1000000/\(x.1.n<=64->okO x.1)
 res:=fun x=>.bool (dG x.1 x.2.1 x.2.2)
 inst:=fun
  | .cons a (.cons b _)=>match ofD a,inD b with
   | some l,some s=>some (l,s.f 0,s.f 1)
   | _,_=>none
  | _=>none
theorem Tc (a b:Int) (i:Nat) (hi:i < 2):aJ (.cons (inL a) (.cons (inL b) .nil)) i=inL (aP (aJ (aJ (.cons (inL a) (.cons (inL b) .nil)) i) 0)):=by
 have:i=0\/i=1:=by omega
 rcases this with rfl|rfl <;> rfl
theorem Ju:R5.Ok Tryz.prog 30:=by
 refine Eng.Spec.okR e30 .nil (fun _=>[(54,.p Vl),(20,.p vdS)]) (fun _ _=>aA.p Rr (aA.p As aA.nil)) ?_
 rintro ⟨l,a,b⟩ ⟨(hn:l.n<=1000000),hok⟩
 refine ⟨trivial,?_⟩
 have e2:2<=1000000:=by decide
 have eo:∀ i,i < 2->okI (aP (aJ (aJ (.cons (inL a) (.cons (inL b) .nil)) i) 0)):=fun _ _=>trivial
 have e:aE (!orB (fun i=>lD l (aP (aJ (aJ (.cons (inL a) (.cons (inL b) .nil)) i) 0))) 2) (.s 13) cF (vdV l) false=dG l a b:=by
  rw [aF]
  unfold dG
  simp only [orB,Bool.false_or]
  rfl
 repeat' (first|exact e2|exact eo|exact hn|exact hok|exact e|exact fun (i:Nat) (hi:i < 2)=>EL.aV (Tc a b i hi) (tM _ _ _ _)|refine gd ?_|apply And.intro|exact trivial|exact rfl|exact lz fun _=>rfl|exact S1.zz rfl)
end S5
end
section
open Go Go.Eng Go.Proofs G7 G4 L3 L10 G1 G3 EV0 B1 B2 S1 S2 S3 S4 S5
set_option maxRecDepth 100000
namespace S6
attribute [local irreducible] dst vdV dG
theorem Df {l:Sq Of} (h:vdV l=true):1<=l.n/\l.n<=64/\orB (lE l) l.n=false/\∀ i,i < l.n->dst (EO l) 0 i≠64:=by
 unfold vdV at h
 simp only [Bool.and_eq_true,Bool.not_eq_true',Bool.or_eq_false_iff,decide_eq_false_iff_not] at h
 obtain ⟨⟨⟨h1,h2⟩,h3⟩,h4⟩:=h
 exact ⟨by omega,by omega,h3,fun i hi e=>h4 ⟨i,hi,by rw [e]; rfl⟩⟩
theorem K2 {l:Sq Of} (h:vdV l=true) (ok:l.n<=64->okO l):Ac l:=by
 obtain ⟨h1,h2,h3,_⟩:=Df h
 refine ⟨h2,(ok h2).ln,fun i hi j hj=>?_⟩
 have:=aS.1 h3 i hi
 unfold lE at this
 rw [Bool.or_eq_false_iff] at this
 exact I4 this.1 j hj
theorem Jt {l:Sq Of} {a b:Int} (h:dG l a b=true):vdV l=true/\(0<=a/\a < (l.n:Int))/\0<=b/\b < (l.n:Int):=by
 unfold dG lD at h
 simp only [Bool.and_eq_true,Bool.not_eq_true',Bool.or_eq_false_iff,decide_eq_false_iff_not] at h
 exact ⟨h.2,by omega,by omega⟩
def g12:List Nat:=[13,0,1,2,6,7]
def c12:aH :=
 .seq (.region g12 [(zo 6 (.move (cj 0))),(zo 7 (.move (cj 0)))]) (.seq (.seq (.region g12 [(mv 8 0),(mv 9 1),(mv 10 2),(zo 11 (.buildSl 3 1 2 (.cons (.int .i64 0) .nil) [(0,1,.s 9),(1,1,.s 10)])),(zo 12 (.call (.c (.fn 30)) [.s 8,.s 11])),(zo 13 (.not (.s 12)))]) (.cond (.s 13) (.seq (.region g12 [(zo 6 (.move (cj 0))),(zo 7 (.move (cj 1)))]) .ret) .skip)) (.seq (.region g12 [(mv 14 0),(mv 15 1),(zo 16 (.call (.c (.fn 31)) [.s 14,.s 15])),(mv 17 2),(zo 18 (.idxVal 64 1 false (.s 16) (.s 17))),(mv 6 18),(zo 7 (.move (cj 0)))]) .ret))
theorem e12:aI Tryz.prog 12 g12 [] [] []=some (c12,[.slot 6,.slot 7],19):=by kernel_rfl
noncomputable def tV (l:Sq Of) (a b:Int):Int:=if dG l a b=true then (dst (EO l) a.toNat b.toNat:Int) else 0
noncomputable def Qo:Eng.Spec where
 X:=Sq Of×Int×Int
 args:=fun x=>.cons (ofE x.1) (.cons (.int .i64 x.2.1) (.cons (.int .i64 x.2.2) .nil))
 pre:=fun x=>x.1.n<=1000000/\(x.1.n<=64->okO x.1)
 res:=fun x=>.tup (.cons (.int .i64 (tV x.1 x.2.1 x.2.2)) (.cons (.int .i64 (if dG x.1 x.2.1 x.2.2=true then 0 else 1)) .nil))
 inst:=fun
  | .cons a (.cons (.int _ b) (.cons (.int _ c) _))=>match ofD a with
   | some l=>some (l,b,c)
   | none=>none
  | _=>none
theorem Qq:Qo.Ok Tryz.prog 12:=by
 refine Eng.Spec.okR e12 .nil (fun _=>[(30,.p R5),(31,.p Nr)]) (fun _ _=>aA.p Ju (aA.p C8 aA.nil)) ?_
 rintro ⟨l,a,b⟩ ⟨(hn:l.n<=1000000),hok⟩
 refine ⟨trivial,?_⟩
 repeat' (first|exact hn|exact hok|apply And.intro|exact trivial|exact rfl|exact lz fun _=>rfl|exact S1.zz rfl)
 ·refine fun (hc:(!dG l a b)=true)=>?_
  have hp:dG l a b=false:=by simpa using hc
  have e1:0=tV l a b:=by unfold tV; rw [if_neg (by rw [hp]; decide)]
  have e2:(1:Int)=(if dG l a b=true then 0 else 1):=by rw [if_neg (by rw [hp]; decide)]
  repeat' (first|exact e1|exact e2|apply And.intro|exact trivial|exact rfl|exact lz fun _=>rfl|exact S1.zz rfl)
 ·refine fun (hc:(!dG l a b)=false)=>?_
  have hp:dG l a b=true:=by simpa using hc
  obtain ⟨hv,⟨a0,a1⟩,b0,b1⟩:=Jt hp
  have hr:Ac l:=K2 hv hok
  have h64:=hr.n
  have b2:b < ((64:Nat):Int):=by omega
  have b3:b.toNat < 64:=by omega
  have e1:(dst (EO l) a.toNat b.toNat:Int)=tV l a b:=by unfold tV; rw [if_pos hp]
  have e2:(0:Int)=(if dG l a b=true then 0 else 1):=by rw [if_pos hp]
  repeat' (first|exact hr|with_reducible exact a0|with_reducible exact a1|with_reducible exact b0|with_reducible exact b2|with_reducible exact b3|exact e1|exact e2|apply And.intro|exact trivial|exact rfl|exact lz fun _=>rfl|exact S1.zz rfl)
def g35:List Nat:=[0,1,2,5]
def c35:aH :=
 .seq (.region g35 [(zo 5 (.move (cj 0)))]) (.seq (.drawn g35 (.pure 0 (mv 6 0) (.pure 1 (zo 7 (.idxArr 64 1 (.s 2) (.s 6))) (.pure 2 (ld 8 7) (.pure 3 (mv 9 1) (.pure 4 (zo 10 (.idxArr 64 1 (.s 2) (.s 9))) (.pure 5 (ld 11 10) (.pure 6 (zo 12 (.bin (.sub) (.s 8) (.s 11))) (.pure 7 (mv 5 12) .done))))))))) .ret)
theorem e35:aI Tryz.prog 35 g35 [] [] []=some (c35,[.slot 5],13):=by kernel_rfl
def Ty:Eng.Spec where
 X:=Int×Int×(Nat->Int)
 args:=fun x=>.cons (.int .i64 x.1) (.cons (.int .i64 x.2.1) (.cons (.cptr (.ints .i64 64 x.2.2 .nil)) .nil))
 pre:=fun x=>((0<=x.1/\x.1 < 64)/\0<=x.2.1/\x.2.1 < 64)/\∀ i,i < 64->0<=x.2.2 i/\x.2.2 i<=64
 res:=fun x=>.int .i64 (x.2.2 x.1.toNat - x.2.2 x.2.1.toNat)
 inst:=fun
  | .cons (.int _ a) (.cons (.int _ b) (.cons (.cptr (.ints _ _ f _)) _))=>some (a,b,f)
  | _=>none
theorem Pv:Ty.Ok Tryz.prog 35:=by
 refine Eng.Spec.okR e35 .nil (fun _=>[]) (fun _ _=>aA.nil) ?_
 rintro ⟨a,b,f⟩ ⟨⟨⟨(a0:0<=a),(a1:a < 64)⟩,(b0:0<=b),(b1:b < 64)⟩,(hf:∀ i,i < 64->0<=f i/\f i<=64)⟩
 have a2:a < ((64:Nat):Int):=a1
 have b2:b < ((64:Nat):Int):=b1
 have a3:a.toNat < 64:=by omega
 have b3:b.toNat < 64:=by omega
 have fa:=hf _ a3
 have fb:=hf _ b3
 have c0:-9223372036854775808<=f a.toNat - f b.toNat:=by omega
 have c1:f a.toNat - f b.toNat<=9223372036854775807:=by omega
 refine ⟨trivial,?_⟩
 repeat' (first|with_reducible exact a0|with_reducible exact a2|with_reducible exact a3|with_reducible exact b0|with_reducible exact b2|with_reducible exact b3|with_reducible exact c0|with_reducible exact c1|apply And.intro|exact trivial|exact rfl|exact lz fun _=>rfl|exact S1.zz rfl)
end S6
end
section
open Go Go.Eng Go.Proofs G7 G4 L3 L10 G1 G3 EV0 B1 B2 S1 S2 S3 S4 S5 S6
set_option maxRecDepth 100000
namespace S7
attribute [local irreducible] dst vdV dG
def mnI (g:Nat->Int):Nat->Nat
 | 0=>0
 | k+1=>if g (k+1) < g (mnI g k) then k+1 else mnI g k
theorem I8 (g:Nat->Int):∀ k,mnI g k<=k
 | 0=>Nat.le_refl _
 | k+1=>by
  have:=I8 g k
  unfold mnI
  split <;> omega
def g34:List Nat:=[9,17,1,27,0,6,5,4]
def c34:aH :=
 .seq (.region g34 [(zo 4 (.move (cj 0)))]) (.seq (.seq (.region g34 [(mv 7 0),(zo 8 (.lenSl (.s 7))),(zo 9 (.bin (.lss) (.s 8) (cj 1)))]) (.cond (.s 9) (.region g34 [(zo 10 (.bad)),⟨none,none,.bad,[]⟩]) .skip)) (.seq (.region g34 [(mv 11 0),(zo 12 (.idxSl 1 (.s 11) (cj 0))),(ld 13 12),(mv 5 13)]) (.seq (.seq (.region g34 [(zo 6 (.move (cj 1)))]) (.block 0 (.loop 0 [14,15,16,17,20,21,22,23,24,25,26,27,28,29,30,31,5,18,19,6] (.seq (.seq (.region g34 [(mv 14 6),(mv 15 0),(zo 16 (.lenSl (.s 15))),(zo 17 (.bin (.lss) (.s 14) (.s 16)))]) (.cond (.s 17) .skip (.exit 0))) (.seq (.block 1 (.seq (.region g34 [(mv 20 1),(mv 21 0),(mv 22 6),(zo 23 (.idxSl 1 (.s 21) (.s 22))),(ld 24 23),(mv 25 5),(zo 26 (.call (.s 20) [.s 24,.s 25])),(zo 27 (.bin (.lss) (.s 26) (cj 0)))]) (.cond (.s 27) (.region g34 [(mv 28 0),(mv 29 6),(zo 30 (.idxSl 1 (.s 28) (.s 29))),(ld 31 30),(mv 5 31)]) .skip))) (.region g34 [(mv 18 6),(zo 19 (.bin (.add) (.s 18) (cj 1))),(mv 6 19)])))))) (.seq (.region g34 [(mv 32 5),(mv 4 32)]) .ret))))
theorem e34:aI Tryz.prog 34 g34 [] [] []=some (c34,[.slot 4],33):=by kernel_rfl
def Uy:Eng.Spec where
 X:=Sq Int×(Nat->Int)
 args:=fun x=>.cons (inE x.1) (.cons (.fn 35 (.cons (.cptr (.ints .i64 64 x.2 .nil)) .nil)) .nil)
 pre:=fun x=>((1<=x.1.n/\x.1.n<=1000000)/\∀ i,i < x.1.n->0<=x.1.f i/\x.1.f i < 64)/\∀ i,i < 64->0<=x.2 i/\x.2 i<=64
 res:=fun x=>.int .i64 (x.1.f (mnI (fun i=>x.2 (x.1.f i).toNat) (x.1.n - 1)))
 inst:=fun
  | .cons a (.cons (.fn _ (.cons (.cptr (.ints _ _ f _)) _)) _)=>match inD a with
   | some s=>some (s,f)
   | none=>none
  | _=>none
theorem Q8:Uy.Ok Tryz.prog 34:=by
 refine Eng.Spec.okR e34 .nil (fun _=>[(35,.p Ty)]) (fun _ _=>aA.p Pv aA.nil) ?_
 rintro ⟨s,f⟩ ⟨⟨⟨(h1:1<=s.n),(hn:s.n<=1000000)⟩,(hs:∀ i,i < s.n->0<=s.f i/\s.f i < 64)⟩,(hf:∀ i,i < 64->0<=f i/\f i<=64)⟩
 have z0:(0:Int)<=0:=Int.le_refl _
 have z1:(0:Int) < (s.n:Int):=by omega
 refine ⟨trivial,?_⟩
 repeat' (first|with_reducible exact z0|with_reducible exact z1|apply And.intro|exact trivial|exact rfl|exact lz fun _=>rfl|exact S1.zz rfl|exact fun (j:Nat) (_:j < 64)=>rfl)
 ·refine fun (h:decide ((s.n:Int) < 1)=true)=>?_
  exact absurd (of_decide_eq_true h) (by omega)
 refine fun _=>?_
 repeat' (first|with_reducible exact z0|with_reducible exact z1|apply And.intro|exact trivial|exact rfl|exact lz fun _=>rfl|exact S1.zz rfl|exact fun (j:Nat) (_:j < 64)=>rfl)
 refine ⟨⟨Nat,fun i=>1<=i/\i<=s.n,fun i=>[(6,.int .i64 (i:Int)),(5,.int .i64 (s.f (mnI (fun i=>f (s.f i).toNat) (i - 1))))],fun _=>[],fun i=>s.n - i⟩,1,⟨Nat.le_refl _,h1⟩,?_,?_⟩
 ·repeat' (first|apply And.intro|exact trivial|exact rfl|exact lz fun _=>rfl|exact S1.zz rfl|exact fun (j:Nat) (_:j < 64)=>rfl)
 rintro (i:Nat) ⟨(hi1:1<=i),(hi:i<=s.n)⟩
 have hm:=I8 (fun i=>f (s.f i).toNat) (i - 1)
 repeat' (first|apply And.intro|exact trivial|exact rfl|exact lz fun _=>rfl|exact S1.zz rfl|exact fun (j:Nat) (_:j < 64)=>rfl)
 ·refine fun (h:decide ((i:Int) < (s.n:Int))=true)=>?_
  have hil:i < s.n:=by have:=of_decide_eq_true h; omega
  have b0:(0:Int)<=(i:Int):=by omega
  have b1:(i:Int) < (s.n:Int):=by omega
  have b2:-9223372036854775808<=(i:Int)+1:=by omega
  have b3:(i:Int)+1<=9223372036854775807:=by omega
  have c0:=hs i hil
  have c1:=hs (mnI (fun i=>f (s.f i).toNat) (i - 1)) (by omega)
  have em:s.n - (i+1) < s.n - i:=by omega
  have e0:mnI (fun i=>f (s.f i).toNat) (i+1 - 1)=if f (s.f i).toNat < f (s.f (mnI (fun i=>f (s.f i).toNat) (i - 1))).toNat then i else mnI (fun i=>f (s.f i).toNat) (i - 1):=by
   obtain ⟨k,rfl⟩:∃ k,i=k+1:=⟨i - 1,by omega⟩
   rfl
  have hi2:1<=i+1:=by omega
  repeat' (first|with_reducible exact b0|with_reducible exact b1|exact c0.1|exact c0.2|exact c1.1|exact c1.2|exact hf|apply And.intro|exact trivial|exact rfl|exact lz fun _=>rfl|exact S1.zz rfl|exact fun (j:Nat) (_:j < 64)=>rfl)
  ·refine fun (hc:decide (f (s.f (i:Int).toNat).toNat - f (s.f (mnI (fun i=>f (s.f i).toNat) (i - 1))).toNat < 0)=true)=>?_
   have hlt:f (s.f i).toNat < f (s.f (mnI (fun i=>f (s.f i).toNat) (i - 1))).toNat:=by have:=of_decide_eq_true hc; simp at this; omega
   have e1:s.f (i:Int).toNat=s.f (mnI (fun i=>f (s.f i).toNat) (i+1 - 1)):=by rw [e0,if_pos hlt]; rfl
   repeat' (first|with_reducible exact b0|with_reducible exact b1|with_reducible exact b2|with_reducible exact b3|apply And.intro|exact trivial|exact rfl|exact lz fun _=>rfl|exact S1.zz rfl|exact fun (j:Nat) (_:j < 64)=>rfl)
   refine Exists.intro (i+1) (And.intro ⟨hi2,hil⟩ ?_)
   repeat' (first|exact e1|exact em|apply And.intro|exact trivial|exact rfl|exact lz fun _=>rfl|exact S1.zz rfl|exact fun (j:Nat) (_:j < 64)=>rfl)
  ·refine fun (hc:decide (f (s.f (i:Int).toNat).toNat - f (s.f (mnI (fun i=>f (s.f i).toNat) (i - 1))).toNat < 0)=false)=>?_
   have hlt:¬ f (s.f i).toNat < f (s.f (mnI (fun i=>f (s.f i).toNat) (i - 1))).toNat:=by have:=of_decide_eq_false hc; simp at this; omega
   have e1:s.f (mnI (fun i=>f (s.f i).toNat) (i - 1))=s.f (mnI (fun i=>f (s.f i).toNat) (i+1 - 1)):=by rw [e0,if_neg hlt]
   repeat' (first|with_reducible exact b2|with_reducible exact b3|apply And.intro|exact trivial|exact rfl|exact lz fun _=>rfl|exact S1.zz rfl|exact fun (j:Nat) (_:j < 64)=>rfl)
   refine Exists.intro (i+1) (And.intro ⟨hi2,hil⟩ ?_)
   repeat' (first|exact e1|exact em|apply And.intro|exact trivial|exact rfl|exact lz fun _=>rfl|exact S1.zz rfl|exact fun (j:Nat) (_:j < 64)=>rfl)
 ·refine fun (h:decide ((i:Int) < (s.n:Int))=false)=>?_
  have hil:i=s.n:=by have:=of_decide_eq_false h; omega
  subst hil
  repeat' (first|apply And.intro|exact trivial|exact rfl|exact lz fun _=>rfl|exact S1.zz rfl|exact fun (j:Nat) (_:j < 64)=>rfl)
def g14:List Nat:=[14,17,2,0,1,8,6,7]
def c14:aH :=
 .seq (.region g14 [(zo 6 (.move (cj 0))),(zo 7 (.move (cj 0)))]) (.seq (.seq (.region g14 [(mv 9 0),(mv 10 1),(mv 11 2),(zo 12 (.buildSl 3 1 2 (.cons (.int .i64 0) .nil) [(0,1,.s 10),(1,1,.s 11)])),(zo 13 (.call (.c (.fn 30)) [.s 9,.s 12])),(zo 14 (.not (.s 13)))]) (.cond (.s 14) (.seq (.region g14 [(zo 6 (.move (cj 0))),(zo 7 (.move (cj 1)))]) .ret) .skip)) (.seq (.seq (.region g14 [(mv 15 1),(mv 16 2),(zo 17 (.bin (.eql) (.s 15) (.s 16)))]) (.cond (.s 17) (.seq (.region g14 [(zo 6 (.move (cj 0))),(zo 7 (.move (cj 11)))]) .ret) .skip)) (.seq (.region g14 [(mv 18 0),(mv 19 2),(zo 20 (.call (.c (.fn 31)) [.s 18,.s 19])),(zo 8 (.alloc 76 (.zeros .i64 64 .nil))),⟨none,none,.store 64 (.s 8) (.s 20),[]⟩]) (.seq (.region g14 [(mv 21 0),(mv 22 1),(zo 23 (.idxSl 2 (.s 21) (.s 22))),(fa 24 0 23),(ld 25 24),(zo 26 (.mkfn 35 [.s 8])),(zo 27 (.call (.c (.fn 34)) [.s 25,.s 26])),(mv 6 27),(zo 7 (.move (cj 0)))]) .ret))))
theorem e14:aI Tryz.prog 14 g14 [] [] []=some (c14,[.slot 6,.slot 7],28):=by kernel_rfl
noncomputable def Cl (l:Sq Of) (a b:Int):Int:=(l.f a.toNat).links.f (mnI (fun i=>(dst (EO l) b.toNat ((l.f a.toNat).links.f i).toNat:Int)) ((l.f a.toNat).links.n - 1))
noncomputable def Vk:Eng.Spec where
 X:=Sq Of×Int×Int
 args:=fun x=>.cons (ofE x.1) (.cons (.int .i64 x.2.1) (.cons (.int .i64 x.2.2) .nil))
 pre:=fun x=>x.1.n<=1000000/\(x.1.n<=64->okO x.1)
 res:=fun x=>.tup (.cons (.int .i64 (if dG x.1 x.2.1 x.2.2=true then if x.2.1=x.2.2 then 0 else Cl x.1 x.2.1 x.2.2 else 0)) (.cons (.int .i64 (if dG x.1 x.2.1 x.2.2=true then if x.2.1=x.2.2 then 11 else 0 else 1)) .nil))
 inst:=Qo.inst
theorem first {E:Nat->Nat->Prop}:∀ {m a b:Nat},W E (m+1) a b->∃ c,E a c:=by
 intro m
 induction m with
 | zero=>rintro a b ⟨c,h,e⟩; cases (h:a=c); exact ⟨b,e⟩
 | succ m ih=>rintro a b ⟨c,h,_⟩; exact ih h
theorem K1 {l:Sq Of} (h:vdV l=true) {i:Nat} (hi:i < l.n) (h2:2<=l.n):1<=(l.f i).links.n:=by
 obtain ⟨h1,_,h3,h4⟩:=Df h
 by_cases e:i=0
 ·subst e
  have d1:=h4 1 (by omega)
  have m:=rJ (EO l) 0 1
  have w:=jG (E:=EO l) (a:=0) (b:=1) (by omega)
  cases hd:dst (EO l) 0 1 with
  | zero=>rw [hd] at w; have w:(0:Nat)=1:=w; omega
  | succ q =>
   rw [hd] at w
   obtain ⟨c,_,j,hj,_⟩:=first w
   omega
 ·have:=aS.1 h3 i hi
  unfold lE at this
  simp only [Bool.or_eq_false_iff,Bool.and_eq_false_iff,Bool.not_eq_false',decide_eq_true_iff,decide_eq_false_iff_not] at this
  omega
theorem Rq:Vk.Ok Tryz.prog 14:=by
 refine Eng.Spec.okR e14 .nil (fun _=>[(30,.p R5),(31,.p Nr),(34,.p Uy)]) (fun _ _=>aA.p Ju (aA.p C8 (aA.p Q8 aA.nil))) ?_
 rintro ⟨l,a,b⟩ ⟨(hn:l.n<=1000000),hok⟩
 refine ⟨trivial,?_⟩
 repeat' (first|exact hn|exact hok|apply And.intro|exact trivial|exact rfl|exact lz fun _=>rfl|exact S1.zz rfl|exact fun (j:Nat) (_:j < 64)=>rfl)
 ·refine fun (hc:(!dG l a b)=true)=>?_
  have hp:dG l a b=false:=by simpa using hc
  have e1:(0:Int)=(if dG l a b=true then if a=b then 0 else Cl l a b else 0):=by rw [if_neg (by rw [hp]; decide)]
  have e2:(1:Int)=(if dG l a b=true then if a=b then 11 else 0 else 1):=by rw [if_neg (by rw [hp]; decide)]
  repeat' (first|exact e1|exact e2|apply And.intro|exact trivial|exact rfl|exact lz fun _=>rfl|exact S1.zz rfl|exact fun (j:Nat) (_:j < 64)=>rfl)
 ·refine fun (hc:(!dG l a b)=false)=>?_
  have hp:dG l a b=true:=by simpa using hc
  obtain ⟨hv,⟨a0,a1⟩,b0,b1⟩:=Jt hp
  have hr:Ac l:=K2 hv hok
  have h64:=hr.n
  repeat' (first|apply And.intro|exact trivial|exact rfl|exact lz fun _=>rfl|exact S1.zz rfl|exact fun (j:Nat) (_:j < 64)=>rfl)
  ·refine fun (he:decide (a=b)=true)=>?_
   have he:a=b:=of_decide_eq_true he
   have e1:(0:Int)=(if dG l a b=true then if a=b then 0 else Cl l a b else 0):=by rw [if_pos hp,if_pos he]
   have e2:(11:Int)=(if dG l a b=true then if a=b then 11 else 0 else 1):=by rw [if_pos hp,if_pos he]
   repeat' (first|exact e1|exact e2|apply And.intro|exact trivial|exact rfl|exact lz fun _=>rfl|exact S1.zz rfl|exact fun (j:Nat) (_:j < 64)=>rfl)
  ·refine fun (he:decide (a=b)=false)=>?_
   have he:¬ a=b:=of_decide_eq_false he
   have hl:=K1 hv (i:=a.toNat) (by omega) (by omega)
   have hln:=hr.ln a.toNat (by omega)
   have hlk:∀ i,i < (l.f a.toNat).links.n->0<=(l.f a.toNat).links.f i/\(l.f a.toNat).links.f i < 64:=fun i hi=>by
    have:=hr.lk a.toNat (by omega) i hi
    omega
   have hd:∀ i,i < 64->0<=(dst (EO l) b.toNat i:Int)/\(dst (EO l) b.toNat i:Int)<=64:=fun i _=>by
    have:=rJ (EO l) b.toNat i
    omega
   have e1:(l.f a.toNat).links.f (mnI (fun i=>(dst (EO l) b.toNat ((l.f a.toNat).links.f i).toNat:Int)) ((l.f a.toNat).links.n - 1))=(if dG l a b=true then if a=b then 0 else Cl l a b else 0):=by rw [if_pos hp,if_neg he]; rfl
   have e2:(0:Int)=(if dG l a b=true then if a=b then 11 else 0 else 1):=by rw [if_pos hp,if_neg he]
   repeat' (first|exact hr|with_reducible exact a0|with_reducible exact a1|with_reducible exact b0|with_reducible exact b1|exact hl|exact hln|exact hlk|exact hd|exact e1|exact e2|apply And.intro|exact trivial|exact rfl|exact lz fun _=>rfl|exact S1.zz rfl|exact fun (j:Nat) (_:j < 64)=>rfl)
end S7
end
section
open Go Go.Eng Go.Proofs G7 G4 L3 L10 G1 G3 EV0 B1 B2 S1 S2 S3 S4 S5 S6 S7
set_option maxRecDepth 100000
namespace S8
attribute [local irreducible] dst vdV dG
def g36:List Nat:=[0,1,2,3,4]
def c36:aH :=
 .seq (.region g36 [(zo 2 (.box 22 (.s 0))),(zo 3 (.box 9 (.s 1))),(zo 4 (.move (.c (.nilfn))))]) (.seq (.region g36 [(zo 5 (.mkfn 55 [.s 2,.s 3])),(mv 4 5)]) .ret)
theorem e36:aI Tryz.prog 36 g36 [] [] []=some (c36,[.slot 4],6):=by kernel_rfl
def Wo:Eng.bZ where
 X:=Sq Of×B
 Y:=Unit
 args:=fun x=>.cons (ofE x.1) (.cons (.str x.2) .nil)
 pre:=fun _=>True
 h0:=fun _=>[]
 nx0:=0
 post:=fun _ _=>True
 res:=fun _ _=>.fn 55 (.cons (.own 0 0) (.cons (.own 1 0) .nil))
 h1:=fun x _=>[(0,.cells 22 (.cons (ofE x.1) .nil)),(1,.cells 9 (.cons (.str x.2) .nil))]
 nx1:=2
 fresh:=false
theorem Sx:Wo.Ok Tryz.prog 36:=by
 refine Eng.bZ.okR e36 .nil (fun _=>[]) (fun _ _=>aA.nil) ?_
 rintro ⟨l,c⟩ _
 refine ⟨trivial,?_⟩
 repeat' (first|apply And.intro|exact trivial|exact rfl|exact lz fun _=>rfl|exact fun (j:Nat) (hj:j < _)=>Or.inl (eH _ _ _ _ rfl))
 refine Exists.intro () ?_
 repeat' (first|apply And.intro|exact trivial|exact rfl|exact lz fun _=>rfl|exact fun (j:Nat) (hj:j < _)=>Or.inl (eH _ _ _ _ rfl))
def g55:List Nat:=[1,7,9,6,5,2,0,4,22,8]
def c55:aH :=
 .seq (.region g55 [(ld 6 1),(zo 7 (.lenSl (.s 6))),(zo 8 (.move (cj 0)))]) (.block 0 (.loop 0 [9,10,11,12,5,4,13,14,15,16,17,18,19,20,21,22,23,8] (.seq (.region g55 [(zo 9 (.bin (.lss) (.s 8) (.s 7)))]) (.seq (.cond (.s 9) .skip (.exit 0)) (.seq (.block 1 (.seq (.region g55 [(mv 10 8),(zo 11 (.idxSl 2 (.s 6) (.s 8))),(zo 12 (.load 2 true (.s 11))),(zo 5 (.alloc 44 (.cons (.nilsl) (.cons (.nilsl) .nil)))),(mv 4 10),⟨none,none,.store 2 (.s 5) (.s 12),[]⟩]) (.seq (.region g55 [(fa 13 1 5),(ld 14 13),(ld 15 2),(zo 16 (.call (.c (.fn 56)) [.s 14,.s 15])),(mv 17 16),(mg 18 17 true 0),(mg 19 17 true 4),(zg 20 17 true (.call (.s 18) [.s 19])),(zg 21 17 true (.not (.s 20))),(zo 22 (.pick (.s 17) (.s 21) cF))]) (.cond (.s 22) .ret .skip)))) (.region g55 [(zo 23 (.bin (.add) (.s 8) (cj 1))),(mv 8 23)]))))))
theorem e55:aI Tryz.prog 55 g55 [] [] []=some (c55,[],24):=by kernel_rfl
def g16:List Nat:=[9,0,1,12,13,6,4,5]
def c16:aH :=
 .seq (.region g16 [(zo 4 (.alloc 3 (.cons (.int .i64 0) .nil))),(zo 5 (.alloc 34 (.cons (.int .i64 0) .nil)))]) (.seq (.seq (.region g16 [(mv 7 0),(zo 8 (.call (.c (.fn 20)) [.s 7])),(zo 9 (.not (.s 8)))]) (.cond (.s 9) (.seq (.region g16 [⟨none,none,.store 1 (.s 4) (cj 0),[]⟩,⟨none,none,.store 1 (.s 5) (cj 1),[]⟩]) .ret) .skip)) (.seq (.seq (.region g16 [(mv 10 0),(mv 11 1),(zo 12 (.call (.c (.fn 36)) [.s 10,.s 11]))]) (.block 0 (.range 0 (.s 12) 55 (c55) 24 [13] (.region g16 [(mv 6 13)]) (.block 1 (.seq (.region g16 [(mv 14 6),⟨none,none,.store 1 (.s 4) (.s 14),[]⟩,⟨none,none,.store 1 (.s 5) (cj 0),[]⟩]) .ret))))) (.seq (.region g16 [⟨none,none,.store 1 (.s 4) (cj 0),[]⟩,⟨none,none,.store 1 (.s 5) (cj 10),[]⟩]) .ret)))
def r16:List fY:=[.cell 4 1 false,.cell 5 1 false]
def k16:List (Nat×Nat×aH×Nat):=[(0,55,c55,24)]
theorem e16:aI Tryz.prog 16 g16 [] [] k16=some (c16,r16,15):=by kernel_rfl
theorem q16:eZ Tryz.prog k16:=eZ.cons (eZ.nil) .nil e55
def lZ (l:Sq Of) (c:B) (i:Nat):Bool:=decide (∃ q,q < (l.f i).codes.n/\(l.f i).codes.f q=c)
def svI (l:Sq Of) (c:B):Int:=aZ (lZ l c) l.n
noncomputable def Ss:Eng.Spec where
 X:=Sq Of×B
 args:=fun x=>.cons (ofE x.1) (.cons (.str x.2) .nil)
 pre:=fun x=>x.1.n<=1000000/\(x.1.n<=64->okO x.1)
 res:=fun x=>.tup (.cons (.int .i64 (if vdV x.1=true then if svI x.1 x.2=-1 then 0 else svI x.1 x.2 else 0)) (.cons (.int .i64 (if vdV x.1=true then if svI x.1 x.2=-1 then 10 else 0 else 1)) .nil))
 inst:=EV0.two ofD oK
theorem Kk:Ss.Ok Tryz.prog 16:=by
 refine Eng.Spec.okR e16 q16 (fun _=>[(20,.p vdS),(36,.m Wo),(56,.p T2)]) (fun _ _=>aA.p As (aA.m Sx (aA.p Px aA.nil))) ?_
 rintro ⟨l,c⟩ ⟨(hn:l.n<=1000000),hok⟩
 refine ⟨trivial,?_⟩
 repeat' (first|exact hn|exact hok|apply And.intro|exact trivial|exact rfl|exact lz fun _=>rfl|exact fun (j:Nat) (hj:j < _)=>Or.inl (eH _ _ _ _ rfl))
 ·refine fun (hc:(!vdV l)=true)=>?_
  have hp:vdV l=false:=by simpa using hc
  have e1:(0:Int)=(if vdV l=true then if svI l c=-1 then 0 else svI l c else 0):=by rw [if_neg (by rw [hp]; decide)]
  have e2:(1:Int)=(if vdV l=true then if svI l c=-1 then 10 else 0 else 1):=by rw [if_neg (by rw [hp]; decide)]
  repeat' (first|exact e1|exact e2|apply And.intro|exact trivial|exact rfl|exact lz fun _=>rfl|exact fun (j:Nat) (hj:j < _)=>Or.inl (eH _ _ _ _ rfl))
 ·refine fun (hc:(!vdV l)=false)=>?_
  have hv:vdV l=true:=by simpa using hc
  have h64:=(Df hv).2.1
  have ok:=hok h64
  repeat' (first|apply And.intro|exact trivial|exact rfl|exact lz fun _=>rfl|exact fun (j:Nat) (hj:j < _)=>Or.inl (eH _ _ _ _ rfl))
  refine Exists.intro (l,c) (Exists.intro [] ?_)
  repeat' (first|apply And.intro|exact trivial|exact rfl|exact lz fun _=>rfl|exact fun (j:Nat) (hj:j < _)=>Or.inl (eH _ _ _ _ rfl))
  refine fun (_:Unit) (_:True)=>?_
  repeat' (first|apply And.intro|exact trivial|exact rfl|exact lz fun _=>rfl|exact fun (j:Nat) (hj:j < _)=>Or.inl (eH _ _ _ _ rfl))
  refine ⟨⟨Nat,fun i=>i<=l.n/\orB (lZ l c) i=false,fun i=>[(8,.int .i64 (i:Int))],fun _=>[],fun i=>l.n - i⟩,0,⟨Nat.zero_le _,rfl⟩,?_,?_⟩
  ·repeat' (first|apply And.intro|exact trivial|exact rfl|exact lz fun _=>rfl|exact fun (j:Nat) (hj:j < _)=>Or.inl (eH _ _ _ _ rfl))
  rintro (i:Nat) ⟨(hi:i<=l.n),(hf:orB (lZ l c) i=false)⟩
  repeat' (first|apply And.intro|exact trivial|exact rfl|exact lz fun _=>rfl|exact fun (j:Nat) (hj:j < _)=>Or.inl (eH _ _ _ _ rfl))
  ·refine fun (h:decide ((i:Int) < (l.n:Int))=true)=>?_
   have hil:i < l.n:=by have:=of_decide_eq_true h; omega
   have b0:(0:Int)<=(i:Int):=by omega
   have b1:(i:Int) < (l.n:Int):=by omega
   have b2:-9223372036854775808<=(i:Int)+1:=by omega
   have b3:(i:Int)+1<=9223372036854775807:=by omega
   have hcn:=(ok.cn i hil).1
   repeat' (first|with_reducible exact b0|with_reducible exact b1|with_reducible exact b2|with_reducible exact b3|exact hcn|apply And.intro|exact trivial|exact rfl|exact lz fun _=>rfl|exact fun (j:Nat) (hj:j < _)=>Or.inl (eH _ _ _ _ rfl))
   ·refine fun hc0=>?_
    have hb:lZ l c i=true:=hc0
    have es:svI l c=(i:Int):=cI hf hb hil
    have e1:(i:Int)=(if vdV l=true then if svI l c=-1 then 0 else svI l c else 0):=by rw [if_pos hv,es,if_neg (by omega)]
    have e2:(0:Int)=(if vdV l=true then if svI l c=-1 then 10 else 0 else 1):=by rw [if_pos hv,es,if_neg (by omega)]
    have ey:∀ k:Nat,aE (lZ l c i) (.s k) cF (!pJ mG.ret) false=true:=fun k=>by rw [aF,hb]; rfl
    repeat' (first|exact e1|exact e2|apply And.intro|exact trivial|exact rfl|exact lz fun _=>rfl|exact fun (j:Nat) (hj:j < _)=>Or.inl (eH _ _ _ _ rfl))
    ·refine fun _=>?_
     repeat' (first|exact e1|exact e2|apply And.intro|exact trivial|exact rfl|exact lz fun _=>rfl|exact fun (j:Nat) (hj:j < _)=>Or.inl (eH _ _ _ _ rfl))
    ·exact fun h=>absurd ((ey 21).symm.trans h) (by decide)
   ·refine fun hc0=>?_
    have hb:lZ l c i=false:=hc0
    have hf1:orB (lZ l c) (i+1)=false:=by
     simp only [orB]
     rw [hf,hb]
     rfl
    have em:l.n - (i+1) < l.n - i:=by omega
    have no:lZ l c i=true->False:=fun h=>by rw [hb] at h; cases h
    repeat' (first|with_reducible exact b2|with_reducible exact b3|exact hb|apply And.intro|exact trivial|exact rfl|exact lz fun _=>rfl|exact fun (j:Nat) (hj:j < _)=>Or.inl (eH _ _ _ _ rfl))
    ·exact fun h=>no h
    ·exact fun h=>by cases h
    ·refine fun _=>?_
     repeat' (first|with_reducible exact b2|with_reducible exact b3|apply And.intro|exact trivial|exact rfl|exact lz fun _=>rfl|exact fun (j:Nat) (hj:j < _)=>Or.inl (eH _ _ _ _ rfl))
     refine Exists.intro (i+1) (And.intro ⟨hil,hf1⟩ ?_)
     repeat' (first|exact em|apply And.intro|exact trivial|exact rfl|exact lz fun _=>rfl|exact fun (j:Nat) (hj:j < _)=>Or.inl (eH _ _ _ _ rfl))
  ·refine fun (h:decide ((i:Int) < (l.n:Int))=false)=>?_
   have hil:i=l.n:=by have:=of_decide_eq_false h; omega
   subst hil
   have es:svI l c=-1:=cA hf
   have e1:(0:Int)=(if vdV l=true then if svI l c=-1 then 0 else svI l c else 0):=by rw [if_pos hv,if_pos es]
   have e2:(10:Int)=(if vdV l=true then if svI l c=-1 then 10 else 0 else 1):=by rw [if_pos hv,if_pos es]
   repeat' (first|exact e1|exact e2|apply And.intro|exact trivial|exact rfl|exact lz fun _=>rfl|exact fun (j:Nat) (hj:j < _)=>Or.inl (eH _ _ _ _ rfl))
end S8
end
