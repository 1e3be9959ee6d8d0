/- A part of the proof. -/
import Derived.Test.YtijddkljgihcnaaGreatDoorS21
import Derived.Test.YtijddkljgihcnaaGreatDoorS13
import Derived.Test.YtijddkljgihcnaaGreatDoorL10
import Derived.Test.YtijddkljgihcnaaGreatDoorS20
section
open Go Go.Eng Go.Proofs F1 F2 F6 F10 G7 G4 L3 L10 G1 G3 EV0 S1 S10 S11 S12 S13 S14 S15 S16 S19 S21
set_option maxRecDepth 100000
namespace S22
def g176:List Nat:=[0,2]
def c176:aH :=
 .seq (.region g176 [(zo 2 (.move cF))]) (.seq (.region g176 [(mv 3 0),(zo 4 (.bin (.geq) (.s 3) (cj 1))),(mv 5 4),(mg 6 5 true 0),(zg 7 5 true (.bin (.leq) (.s 6) (cj 3))),(zo 8 (.pick (.s 5) (.s 7) cF)),(mv 2 8)]) .ret)
theorem e176:aI Tryz.prog 176 g176 [] [] []=some (c176,[.slot 2],9):=by kernel_rfl
def Qy:Eng.Spec where
 X:=Int
 args:=fun x=>.cons (.int .i64 x) .nil
 pre:=fun _=>True
 res:=fun x=>.bool (bI x 1 3)
 inst:=EV0.one tY
theorem Iu:Qy.Ok Tryz.prog 176:=by
 refine Eng.Spec.okR e176 .nil (fun _=>[]) (fun _ _=>aA.nil) ?_
 rintro (a:Int) _
 have e:aE (decide (1<=a)) (.s 7) cF (decide (a<=3)) false=bI a 1 3:=by rw [aF]; rfl
 refine ⟨trivial,?_⟩
 repeat' (first|exact e|apply And.intro|exact trivial|exact rfl|exact fun (j:Nat) (hj:j < _)=>Or.inl (aW _ _ _ _ rfl)|refine gd ?_)
def g177:List Nat:=[0,1,2,3,4]
def c177:aH :=
 .seq (.region g177 [(zo 2 (.box 104 (.s 0))),(zo 3 (.box 3 (.s 1))),(zo 4 (.move (.c (.nilfn))))]) (.seq (.region g177 [(zo 5 (.mkfn 222 [.s 2,.s 3])),(mv 4 5)]) .ret)
theorem e177:aI Tryz.prog 177 g177 [] [] []=some (c177,[.slot 4],6):=by kernel_rfl
def Vm:Eng.bZ where
 X:=Sq Ar×Int
 Y:=Unit
 args:=fun x=>.cons (arE x.1) (.cons (.int .i64 x.2) .nil)
 pre:=fun _=>True
 h0:=fun _=>[]
 nx0:=0
 post:=fun _ _=>True
 res:=fun _ _=>.fn 222 (.cons (.own 0 0) (.cons (.own 1 0) .nil))
 h1:=fun x _=>[(0,.cells 104 (.cons (arE x.1) .nil)),(1,.cells 3 (.cons (.int .i64 x.2) .nil))]
 nx1:=2
 fresh:=false
theorem Rt:Vm.Ok Tryz.prog 177:=by
 refine Eng.bZ.okR e177 .nil (fun _=>[]) (fun _ _=>aA.nil) ?_
 rintro ⟨l,c⟩ _
 refine ⟨trivial,?_⟩
 repeat' (first|apply And.intro|exact trivial|exact rfl|exact fun (j:Nat) (hj:j < _)=>Or.inl (aW _ _ _ _ rfl)|refine gd ?_)
 refine Exists.intro () ?_
 repeat' (first|apply And.intro|exact trivial|exact rfl|exact fun (j:Nat) (hj:j < _)=>Or.inl (aW _ _ _ _ rfl)|refine gd ?_)
end S22
end
section
open Go Go.Eng Go.Proofs L1 L2 L3 L4 L6 L8 L9 L10 G1 G3 EV0
set_option maxRecDepth 100000
namespace S3
def g41:List Nat:=[4,3,0,2]
def c41:aH :=
 .seq (.region g41 [(zo 2 (.move cF))]) (.seq (.region g41 [(mv 7 0),(zo 8 (.call (.c (.fn 63)) [.s 7])),(mv 6 8),(zo 9 (.extract 0 (.s 6))),(zo 10 (.extract 1 (.s 6))),(zo 11 (.extract 2 (.s 6))),(mv 3 9),(mv 4 10),(mv 5 11)]) (.seq (.region g41 [(mv 12 4),(zo 13 (.bin (.eql) (.s 12) (cj 0))),(mv 14 13),(mg 15 14 true 3),(zg 16 14 true (.lenSl (.s 15))),(zg 17 14 true (.bin (.eql) (.s 16) (cj 1))),(zo 18 (.pick (.s 14) (.s 17) cF)),(mv 19 18),(mg 20 19 true 3),(zg 21 19 true (.idxSl 4 (.s 20) (cj 0))),(fg 22 19 true 0 21),(lg 23 19 true 22),(zg 24 19 true (.bin (.eql) (.s 23) (cj 1))),(zo 25 (.pick (.s 19) (.s 24) cF)),(mv 26 25),(mg 27 26 true 3),(zg 28 26 true (.idxSl 4 (.s 27) (cj 0))),(fg 29 26 true 3 28),(lg 30 26 true 29),(mg 31 26 true 0),(zg 32 26 true (.bin (.eql) (.s 30) (.s 31))),(zo 33 (.pick (.s 26) (.s 32) cF)),(mv 2 33)]) .ret))
theorem e41:aI Tryz.prog 41 g41 [] [] []=some (c41,[.slot 2],34):=by kernel_rfl
theorem Ri:qR.Ok Tryz.prog 41:=by
 refine Eng.Spec.okR e41 .nil (fun _=>[(63,.p I1)]) (fun _ _=>aA.p Cb aA.nil) ?_
 intro (t:List UInt8) (h0:t.length<=1000000)
 refine ⟨trivial,?_⟩
 have gl:aE (decide ((cG t).2.1=0)) (.s 17) cF (decide (((cG t).1.length:Int)=1)) false=true->0<=(0:Int)/\(0:Int) < ((cG t).1.length:Int):=fun h=>by
  rw [aF,Bool.and_eq_true,decide_eq_true_eq,decide_eq_true_eq] at h
  omega
 have gl2:∀ b:Bool,aE (aE (decide ((cG t).2.1=0)) (.s 17) cF (decide (((cG t).1.length:Int)=1)) false) (.s 24) cF b false=true->0<=(0:Int)/\(0:Int) < ((cG t).1.length:Int):=fun b h=>by
  rw [aF,Bool.and_eq_true] at h
  exact gl h.1
 have e:aE (aE (aE (decide ((cG t).2.1=0)) (.s 17) cF (decide (((cG t).1.length:Int)=1)) false) (.s 24) cF (decide (((cG t).1.getD 0 tk0).kind=1)) false) (.s 32) cF (decide (((cG t).1.getD 0 tk0).text=t)) false=dL t:=by
  rw [aF,aF,aF]; rfl
 repeat' (first|apply And.intro|exact trivial|exact rfl|exact h0)
 ·exact gl
 ·exact gl2 _
def g221:List Nat:=[4,3,0,2]
def c221:aH :=
 .seq (.region g221 [(zo 2 (.move cF))]) (.seq (.region g221 [(mv 7 0),(zo 8 (.call (.c (.fn 63)) [.s 7])),(mv 6 8),(zo 9 (.extract 0 (.s 6))),(zo 10 (.extract 1 (.s 6))),(zo 11 (.extract 2 (.s 6))),(mv 3 9),(mv 4 10),(mv 5 11)]) (.seq (.region g221 [(mv 12 4),(zo 13 (.bin (.eql) (.s 12) (cj 0))),(mv 14 13),(mg 15 14 true 3),(zg 16 14 true (.lenSl (.s 15))),(zg 17 14 true (.bin (.eql) (.s 16) (cj 1))),(zo 18 (.pick (.s 14) (.s 17) cF)),(mv 19 18),(mg 20 19 true 3),(zg 21 19 true (.idxSl 4 (.s 20) (cj 0))),(fg 22 19 true 0 21),(lg 23 19 true 22),(zg 24 19 true (.bin (.eql) (.s 23) (cj 1))),(zo 25 (.pick (.s 19) (.s 24) cF)),(mv 26 25),(mg 27 26 true 3),(zg 28 26 true (.idxSl 4 (.s 27) (cj 0))),(fg 29 26 true 3 28),(lg 30 26 true 29),(mg 31 26 true 0),(zg 32 26 true (.bin (.eql) (.s 30) (.s 31))),(zo 33 (.pick (.s 26) (.s 32) cF)),(mv 2 33)]) .ret))
theorem e221:aI Tryz.prog 221 g221 [] [] []=some (c221,[.slot 2],34):=by kernel_rfl
theorem Rj:qR.Ok Tryz.prog 221:=by
 refine Eng.Spec.okR e221 .nil (fun _=>[(63,.p I1)]) (fun _ _=>aA.p Cb aA.nil) ?_
 intro (t:List UInt8) (h0:t.length<=1000000)
 refine ⟨trivial,?_⟩
 have gl:aE (decide ((cG t).2.1=0)) (.s 17) cF (decide (((cG t).1.length:Int)=1)) false=true->0<=(0:Int)/\(0:Int) < ((cG t).1.length:Int):=fun h=>by
  rw [aF,Bool.and_eq_true,decide_eq_true_eq,decide_eq_true_eq] at h
  omega
 have gl2:∀ b:Bool,aE (aE (decide ((cG t).2.1=0)) (.s 17) cF (decide (((cG t).1.length:Int)=1)) false) (.s 24) cF b false=true->0<=(0:Int)/\(0:Int) < ((cG t).1.length:Int):=fun b h=>by
  rw [aF,Bool.and_eq_true] at h
  exact gl h.1
 have e:aE (aE (aE (decide ((cG t).2.1=0)) (.s 17) cF (decide (((cG t).1.length:Int)=1)) false) (.s 24) cF (decide (((cG t).1.getD 0 tk0).kind=1)) false) (.s 32) cF (decide (((cG t).1.getD 0 tk0).text=t)) false=dL t:=by
  rw [aF,aF,aF]; rfl
 repeat' (first|apply And.intro|exact trivial|exact rfl|exact h0)
 ·exact gl
 ·exact gl2 _
def tU (f:Nat->B) (v:B) (n:Nat):Int:=match (List.range n).find? (fun i=>decide (v=f i)) with
 | some i=>i
 | none=>-1
theorem Qe {f:Nat->B} {v:B} {n k:Nat} (hk:k < n) (he:v=f k) (h:∀ j,j < k->v≠f j):tU f v n=k:=by
 unfold tU
 rw [List.find?_range_eq_some.2 ⟨by simpa using he,by simpa using hk,fun j hj=>by simpa using h j hj⟩]
theorem Qf {f:Nat->B} {v:B} {n:Nat} (h:∀ j,j < n->v≠f j):tU f v n=-1:=by
 unfold tU
 rw [List.find?_eq_none.2 fun j hj=>by simpa using h j (by simpa using hj)]
theorem Md {f:Nat->B} {v:B} {n:Nat}:decide (tU f v n>=0)=decide (∃ i,i < n/\f i=v):=by
 rw [Bool.eq_iff_iff,decide_eq_true_iff,decide_eq_true_iff]
 unfold tU
 split
 ·rename_i i hi
  have:=List.find?_range_eq_some.1 hi
  exact ⟨fun _=>⟨i,by simpa using this.2.1,by simpa using (of_decide_eq_true this.1).symm⟩,fun _=>Int.natCast_nonneg i⟩
 ·rename_i hi
  have:=List.find?_eq_none.1 hi
  constructor
  ·intro h; exact absurd h (by decide)
  ·rintro ⟨i,h1,h2⟩
   exact absurd (this i (by simpa using h1)) (by simp [h2])
def g77:List Nat:=[7,9,1,0,16,5,8,4]
def c77:aH :=
 .seq (.region g77 [(zo 4 (.move (cj 0)))]) (.seq (.seq (.region g77 [(mv 6 0),(zo 7 (.lenSl (.s 6))),(zo 8 (.move (cj 0)))]) (.block 0 (.loop 0 [9,10,5,11,12,13,14,15,16,17,4,18,8] (.seq (.region g77 [(zo 9 (.bin (.lss) (.s 8) (.s 7)))]) (.seq (.cond (.s 9) .skip (.exit 0)) (.seq (.block 1 (.seq (.region g77 [(mv 10 8),(mv 5 10)]) (.seq (.region g77 [(mv 11 1),(mv 12 0),(mv 13 5),(zo 14 (.idxSl 1 (.s 12) (.s 13))),(ld 15 14),(zo 16 (.bin (.eql) (.s 11) (.s 15)))]) (.cond (.s 16) (.seq (.region g77 [(mv 17 5),(mv 4 17)]) .ret) .skip)))) (.region g77 [(zo 18 (.bin (.add) (.s 8) (cj 1))),(mv 8 18)]))))))) (.seq (.region g77 [(zo 4 (.move (cj (-1))))]) .ret))
theorem e77:aI Tryz.prog 77 g77 [] [] []=some (c77,[.slot 4],19):=by kernel_rfl
def Qv:Eng.Spec where
 X:=Sq B×B
 args:=fun x=>.cons (stE x.1) (.cons (.str x.2) .nil)
 pre:=fun x=>x.1.n<=1000000
 res:=fun x=>.int .i64 (tU x.1.f x.2 x.1.n)
 inst:=EV0.two stD oK
theorem Qw:Qv.Ok Tryz.prog 77:=by
 refine Eng.Spec.okR e77 .nil (fun _=>[]) (fun _ _=>aA.nil) ?_
 rintro ⟨⟨n,f⟩,v⟩ (hn:n<=1000000)
 refine ⟨trivial,?_⟩
 repeat' (first|apply And.intro|exact trivial|exact rfl)
 refine ⟨⟨Nat,fun k=>k<=n/\∀ j,j < k->v≠f j,fun k=>[(8,.int .i64 (k:Int))],fun _=>[],fun k=>n - k⟩,0,⟨Nat.zero_le _,fun j hj=>absurd hj (Nat.not_lt_zero j)⟩,?_,?_⟩
 ·repeat' (first|apply And.intro|exact trivial|exact rfl|exact lz fun _=>rfl)
 rintro (k:Nat) ⟨(hk:k<=n),(hf:∀ j,j < k->v≠f j)⟩
 repeat' (first|apply And.intro|exact trivial|exact rfl)
 ·refine fun (hg:decide ((k:Int) < (n:Int))=true)=>?_
  have h1:(k:Int) < (n:Int):=of_decide_eq_true hg
  have h0:(0:Int)<=(k:Int):=by omega
  have b1:-9223372036854775808<=(k:Int)+1:=by omega
  have b2:(k:Int)+1<=9223372036854775807:=by omega
  have hkl:k < n:=by omega
  repeat' (first|apply And.intro|exact trivial|exact rfl)
  ·exact h0
  ·exact h1
  ·refine fun (hv:decide (v=f (k:Int).toNat)=true)=>?_
   have e:(k:Int)=tU f v n:=(Qe hkl (of_decide_eq_true hv) hf).symm
   repeat' (first|apply And.intro|exact trivial|exact rfl|exact e)
  ·refine fun (hv:decide (v=f (k:Int).toNat)=false)=>?_
   have hne:v≠f k:=of_decide_eq_false hv
   repeat' (first|apply And.intro|exact trivial|exact rfl)
   ·exact b1
   ·exact b2
   refine Exists.intro (k+1) ?_
   repeat' (first|apply And.intro|exact trivial|exact rfl)
   ·exact hkl
   ·refine fun j hj=>?_
    by_cases e:j=k
    ·rw [e]; exact hne
    ·exact hf j (by omega)
   ·exact lz fun _=>rfl
   ·show n - (k+1) < n - k
    omega
 ·refine fun (hg:decide ((k:Int) < (n:Int))=false)=>?_
  have h1:¬ (k:Int) < (n:Int):=of_decide_eq_false hg
  have hkl:k=n:=by omega
  subst hkl
  have e:-1=tU f v k:=(Qf hf).symm
  repeat' (first|apply And.intro|exact trivial|exact rfl|exact e)
def g56:List Nat:=[0,1,4]
def c56:aH :=
 .seq (.region g56 [(zo 4 (.move cF))]) (.seq (.region g56 [(mv 5 0),(mv 6 1),(zo 7 (.call (.c (.fn 77)) [.s 5,.s 6])),(zo 8 (.bin (.geq) (.s 7) (cj 0))),(mv 4 8)]) .ret)
theorem e56:aI Tryz.prog 56 g56 [] [] []=some (c56,[.slot 4],9):=by kernel_rfl
def T2:Eng.Spec where
 X:=Sq B×B
 args:=fun x=>.cons (stE x.1) (.cons (.str x.2) .nil)
 pre:=fun x=>x.1.n<=1000000
 res:=fun x=>.bool (decide (∃ i,i < x.1.n/\x.1.f i=x.2))
 inst:=Qv.inst
theorem Px:T2.Ok Tryz.prog 56:=by
 refine Eng.Spec.okR e56 .nil (fun _=>[(77,.p Qv)]) (fun _ _=>aA.p Qw aA.nil) ?_
 rintro ⟨⟨n,f⟩,v⟩ (hn:n<=1000000)
 refine ⟨trivial,?_⟩
 have e:decide (tU f v n>=0)=decide (∃ i,i < n/\f i=v):=Md
 repeat' (first|apply And.intro|exact trivial|exact rfl|exact lz fun _=>rfl|exact hn|exact e)
end S3
end
section
open Go Go.Eng Go.Proofs F1 F2 F6 F10 G7 G4 L3 L10 G1 G3 EV0 S1 S10 S11 S12 S13 S14 S15 S16 S18 S19 S21 S22
set_option maxRecDepth 100000
namespace S23
def zvL (l:Sq Ar):Nat->List (aK×Unit×Nat)
 | 0=>[]
 | k+1=>zvL l k++[(.s (l.f k).id,(),(zvL l k).length)]
def zvH (l:Sq Ar) (i:Nat):Bool:=(mget (zvL l i) (.s (l.f i).id)).isSome
def zvB (l:Sq Ar) (i:Nat):Bool:=((!dL (l.f i).id || zvH l i) || !bI (l.f i).kind 1 3) || !qF (l.f i).ring
def zvV (l:Sq Ar):Bool:=!orB (zvB l) l.n && decide ((l.n:Int)<=400)
def okA (a:Ar):Prop:=okT a.id/\a.ring.n<=1000000
theorem Ek {l:Sq Ar} {k:Nat} (h:zvB l k=false):mget (zvL l k) (.s (l.f k).id)=none:=by
 have:zvH l k=false:=by
  unfold zvB at h
  cases hh:zvH l k
  ·rfl
  ·rw [hh] at h
   cases dL (l.f k).id <;> simp at h
 unfold zvH at this
 cases hm:mget (zvL l k) (.s (l.f k).id)
 ·rfl
 ·rw [hm] at this; cases this
attribute [local irreducible] qF dL
def g175:List Nat:=[8,10,7,34,3,5,9,0,2]
def c175:aH :=
 .seq (.region g175 [(zo 2 (.move cF))]) (.seq (.region g175 [(zo 6 (.mkmap (.s))),(mv 3 6)]) (.seq (.seq (.region g175 [(mv 7 0),(zo 8 (.lenSl (.s 7))),(zo 9 (.move (cj 0)))]) (.block 0 (.loop 0 [10,11,12,5,13,14,15,16,17,18,19,20,21,22,23,24,25,26,27,28,29,30,31,32,33,34,2,35,36,37,38,9] (.seq (.region g175 [(zo 10 (.bin (.lss) (.s 9) (.s 8)))]) (.seq (.cond (.s 10) .skip (.exit 0)) (.seq (.block 1 (.seq (.region g175 [(zo 11 (.idxSl 3 (.s 7) (.s 9))),(zo 12 (.load 3 true (.s 11))),(zo 5 (.alloc 130 (.cons (.str []) (.cons (.int .i64 0) (.cons (.nilsl) .nil))))),⟨none,none,.store 3 (.s 5) (.s 12),[]⟩]) (.seq (.seq (.region g175 [(fa 13 0 5),(ld 14 13),(zo 15 (.call (.c (.fn 221)) [.s 14])),(zo 16 (.not (.s 15))),(mv 17 16),(mg 18 17 false 3),(fg 19 17 false 0 5),(lg 20 17 false 19),(zg 21 17 false (.mlook (.bool false) false (.s) (.s 18) (.s 20))),(zo 22 (.pick (.s 17) cT (.s 21))),(mv 23 22),(fg 24 23 false 1 5),(lg 25 23 false 24),(zg 26 23 false (.call (.c (.fn 176)) [.s 25])),(zg 27 23 false (.not (.s 26))),(zo 28 (.pick (.s 23) cT (.s 27))),(mv 29 28),(fg 30 29 false 2 5),(lg 31 29 false 30),(zg 32 29 false (.call (.c (.fn 141)) [.s 31])),(zg 33 29 false (.not (.s 32))),(zo 34 (.pick (.s 29) cT (.s 33)))]) (.cond (.s 34) (.seq (.region g175 [(zo 2 (.move cF))]) .ret) .skip)) (.region g175 [(mv 35 3),(fa 36 0 5),(ld 37 36),⟨none,none,.mupd (.s) (.s 35) (.s 37) cT,[]⟩])))) (.region g175 [(zo 38 (.bin (.add) (.s 9) (cj 1))),(mv 9 38)]))))))) (.seq (.region g175 [(mv 39 0),(zo 40 (.lenSl (.s 39))),(zo 41 (.bin (.leq) (.s 40) (cj 400))),(mv 2 41)]) .ret)))
theorem e175:aI Tryz.prog 175 g175 [] [] []=some (c175,[.slot 2],42):=by kernel_rfl
def zvS:Eng.Spec where
 X:=Sq Ar
 args:=fun x=>.cons (arE x) .nil
 pre:=fun x=>x.n<=1000000/\∀ i,i < x.n->okA (x.f i)
 res:=fun x=>.bool (zvV x)
 inst:=EV0.one arD
set_option maxHeartbeats 4000000 in
theorem Wy:zvS.Ok Tryz.prog 175:=by
 refine Eng.Spec.okR e175 .nil (fun _=>[(221,.p qR),(176,.p Qy),(141,.p Valid)]) (fun _ _=>aA.p S3.Rj (aA.p Iu (aA.p nN aA.nil))) ?_
 rintro (l:Sq Ar) ⟨(hn:l.n<=1000000),hel⟩
 refine ⟨trivial,?_⟩
 repeat' (first|apply And.intro|exact trivial|exact rfl|exact lz fun _=>rfl|exact S1.zz rfl|refine gd ?_)
 refine ⟨⟨Nat,fun k=>k<=l.n/\orB (zvB l) k=false,fun k=>[(9,.int .i64 (k:Int))],fun k=>[(0,.map Unit .s (zvL l k) (zvL l k).length (fun _=>.bool true) Aq)],fun k=>l.n - k⟩,0,⟨Nat.zero_le _,rfl⟩,?_,?_⟩
 ·repeat' (first|apply And.intro|exact trivial|exact rfl|exact lz fun _=>rfl|exact S1.zz rfl|refine gd ?_)
  exact fun i x y (hx:([]:List (aK×SV×Nat))[i]?=some x)=>by cases hx
 rintro (k:Nat) ⟨(hk:k<=l.n),(hf:orB (zvB l) k=false)⟩
 repeat' (first|apply And.intro|exact trivial|exact rfl|exact lz fun _=>rfl|exact S1.zz rfl|refine gd ?_)
 ·refine fun (h:decide ((k:Int) < (l.n:Int))=true)=>?_
  have hi1:(k:Int) < (l.n:Int):=of_decide_eq_true h
  have hil:k < l.n:=by omega
  have hi0:(0:Int)<=(k:Int):=by omega
  have b1:-9223372036854775808<=(k:Int)+1:=by omega
  have b2:(k:Int)+1<=9223372036854775807:=by omega
  have em:l.n - (k+1) < l.n - k:=by omega
  have ht:(l.f k).id.length<=1000000:=(hel k hil).1
  have hr:((l.f k).ring.n:Int)<=9223372036854775806:=by have:=(hel k hil).2; omega
  have e1:zvL l k++[(.s (l.f k).id,(),(zvL l k).length)]=zvL l (k+1):=rfl
  have e2:(zvL l k).length+1=(zvL l (k+1)).length:=by rw [<- e1,List.length_append]; rfl
  have e3:=congrArg List.length e1
  repeat' (first|with_reducible exact hi1|with_reducible exact hi0|exact ht|exact hr|apply And.intro|exact trivial|exact rfl|exact lz fun _=>rfl|exact S1.zz rfl|refine gd ?_)
  ·refine fun (hx:(!dL (l.f k).id)=false)=>?_
   repeat' (first|apply And.intro|exact trivial|exact rfl|exact lz fun _=>rfl|exact S1.zz rfl|refine gd ?_)
   refine dC.mk (fun (u:Unit) (t:Nat) (hm0:mget (zvL l k) (.s (l.f k).id)=some (u,t))=>?_) (fun (hm0:mget (zvL l k) (.s (l.f k).id)=none)=>?_)
   ·have eh:zvH l k=true:=by unfold zvH; rw [hm0]; rfl
    have eb:∀ a b c:Nat,aE (aE (aE (!dL (l.f k).id) cT (.s a) true true) cT (.s b) true (!bI (l.f k).kind 1 3)) cT (.s c) true (!qF (l.f k).ring)=zvB l k:=fun a b c=>by rw [aD,aD,aD]; unfold zvB; rw [eh]
    repeat' (first|exact ht|exact hr|apply And.intro|exact trivial|exact rfl|exact lz fun _=>rfl|exact S1.zz rfl|refine gd ?_)
    ·refine fun hc0=>?_
     have hb:zvB l k=true:=(eb 21 27 33).symm.trans hc0
     have e:false=zvV l:=by unfold zvV; rw [aO.2 ⟨k,hil,hb⟩]; rfl
     repeat' (first|exact e|apply And.intro|exact trivial|exact rfl|exact lz fun _=>rfl|exact S1.zz rfl|refine gd ?_)
    ·refine fun hc0=>?_
     have hb:zvB l k=false:=(eb 21 27 33).symm.trans hc0
     have hm:mget (zvL l k) (.s (l.f k).id)=none:=Ek hb
     repeat' (first|apply And.intro|exact trivial|exact rfl|exact lz fun _=>rfl|exact S1.zz rfl|refine gd ?_)
     refine dC.jU hm ?_
     repeat' (first|with_reducible exact b1|with_reducible exact b2|apply And.intro|exact trivial|exact rfl|exact lz fun _=>rfl|exact S1.zz rfl|refine gd ?_)
     refine Exists.intro (k+1) (And.intro (And.intro hil (S18.wV hf hb)) ?_)
     repeat' (first|with_reducible exact em|apply And.intro|exact trivial|exact rfl|exact lz fun _=>rfl|exact S1.zz rfl|refine gd ?_|exact e2|exact e3|exact jA e1 _ _ _)
   ·have eh:zvH l k=false:=by unfold zvH; rw [hm0]; rfl
    have eb:∀ a b c:Nat,aE (aE (aE (!dL (l.f k).id) cT (.s a) true false) cT (.s b) true (!bI (l.f k).kind 1 3)) cT (.s c) true (!qF (l.f k).ring)=zvB l k:=fun a b c=>by rw [aD,aD,aD]; unfold zvB; rw [eh]
    repeat' (first|exact ht|exact hr|apply And.intro|exact trivial|exact rfl|exact lz fun _=>rfl|exact S1.zz rfl|refine gd ?_)
    ·refine fun hc0=>?_
     have hb:zvB l k=true:=(eb 21 27 33).symm.trans hc0
     have e:false=zvV l:=by unfold zvV; rw [aO.2 ⟨k,hil,hb⟩]; rfl
     repeat' (first|exact e|apply And.intro|exact trivial|exact rfl|exact lz fun _=>rfl|exact S1.zz rfl|refine gd ?_)
    ·refine fun hc0=>?_
     have hb:zvB l k=false:=(eb 21 27 33).symm.trans hc0
     have hm:mget (zvL l k) (.s (l.f k).id)=none:=Ek hb
     repeat' (first|apply And.intro|exact trivial|exact rfl|exact lz fun _=>rfl|exact S1.zz rfl|refine gd ?_)
     refine dC.jU hm ?_
     repeat' (first|with_reducible exact b1|with_reducible exact b2|apply And.intro|exact trivial|exact rfl|exact lz fun _=>rfl|exact S1.zz rfl|refine gd ?_)
     refine Exists.intro (k+1) (And.intro (And.intro hil (S18.wV hf hb)) ?_)
     repeat' (first|with_reducible exact em|apply And.intro|exact trivial|exact rfl|exact lz fun _=>rfl|exact S1.zz rfl|refine gd ?_|exact e2|exact e3|exact jA e1 _ _ _)
  ·refine fun (hx:(!dL (l.f k).id)=!false)=>?_
   have hx':(!dL (l.f k).id)=true:=hx
   have hb:zvB l k=true:=by unfold zvB; rw [hx']; rfl
   have e:false=zvV l:=by unfold zvV; rw [aO.2 ⟨k,hil,hb⟩]; rfl
   repeat' (first|exact hx'|exact e|exact ht|exact hr|apply And.intro|exact trivial|exact rfl|exact lz fun _=>rfl|exact S1.zz rfl|refine gd ?_)
   ·refine fun hc0=>?_
    repeat' (first|exact e|apply And.intro|exact trivial|exact rfl|exact lz fun _=>rfl|exact S1.zz rfl|refine gd ?_)
   ·refine fun hc0=>?_
    have hc1:=hc0
    rw [aD,aD] at hc1
    exact Bool.noConfusion hc1
 ·refine fun (h:decide ((k:Int) < (l.n:Int))=false)=>?_
  obtain rfl:k=l.n:=by have:=of_decide_eq_false h; omega
  have e:decide ((l.n:Int)<=400)=zvV l:=by unfold zvV; rw [hf]; rfl
  repeat' (first|exact e|apply And.intro|exact trivial|exact rfl|exact lz fun _=>rfl|exact S1.zz rfl|refine gd ?_)
end S23
end
section
open Go Go.Eng Go.Proofs G1 G2 G3 G4 G6 G7 EV0
set_option maxRecDepth 100000
namespace S24
def dbl (a p:Pt):Pt:=(2 * a.1 - p.1,2 * a.2 - p.2)
def wnd (A B:Pt):Int:=if A.2<=0/\0 < B.2/\0 < crs A B then 1 else if 0 < A.2/\B.2<=0/\crs A B < 0 then -1 else 0
def onE (A B:Pt):Bool:=decide (crs A B=0) && decide (dot A B<=0)
def wdI (r:Pts) (p:Pt) (i:Nat):Int:=wnd (dbl (r.p i) p) (dbl (nxt r i) p)
def onI (r:Pts) (p:Pt) (i:Nat):Bool:=onE (dbl (r.p i) p) (dbl (nxt r i) p)
def wdV (r:Pts) (p:Pt):Int:=fI (wdI r p) r.n
def onV (r:Pts) (p:Pt):Bool:=orB (onI r p) r.n
def OnH (p:Pt):Prop:=(0<=p.1/\p.1<=65534)/\(0<=p.2/\p.2<=65534)
def Ed:SV->Option (Pts×Pt)
 | .cons a (.cons b .nil)=>match pW a,ptD b with
  | some r,some p=>some (r,p)
  | _,_=>none
 | _=>none
def half:Eng.Spec where
 X:=Pts×Pt
 args:=fun x=>.cons (rgE x.1) (.cons (ptE x.2) .nil)
 pre:=fun x=>(x.1.n<=50/\OnR x.1)/\OnH x.2
 res:=fun x=>.tup (.cons (.int .i64 (wdV x.1 x.2)) (.cons (.bool (onV x.1 x.2)) .nil))
 inst:=Ed
theorem Hq {a p:Pt} (h:onB a=true) (hp:OnH p):bd 65534 (dbl a p):=by
 have:=fF.1 h
 obtain ⟨⟨h1,h2⟩,⟨h3,h4⟩⟩:=hp
 unfold bd dbl
 dsimp only
 omega
def I64 (x:Int):Prop:=-9223372036854775808<=x/\x<=9223372036854775807
theorem To (A B:Pt):-1<=wnd A B/\wnd A B<=1:=by
 unfold wnd
 split
 ·omega
 ·split <;> omega
def g248:List Nat:=[1,0,14,15,16,6,7,3,8,10,63,9,11,12,76,4,5]
def c248:aH :=
 .seq (.region g248 [(zo 3 (.box 53 (.s 1))),(zo 4 (.alloc 3 (.cons (.int .i64 0) .nil))),(zo 5 (.alloc 4 (.cons (.bool false) .nil)))]) (.seq (.seq (.region g248 [(mv 13 0),(zo 14 (.call (.c (.fn 238)) [.s 13]))]) (.block 0 (.range 0 (.s 14) 253 (c253) 25 [15,16] (.seq (.region g248 [(zo 6 (.alloc 53 zPt)),⟨none,none,.store 2 (.s 6) (.s 15),[]⟩]) (.region g248 [(zo 7 (.alloc 53 zPt)),⟨none,none,.store 2 (.s 7) (.s 16),[]⟩])) (.block 1 (.seq (.drawn g248 (.pure 0 (fa 17 0 6) (.pure 1 (ld 18 17) (.pure 2 (zo 19 (.bin (.mul) (cj 2) (.s 18))) (.pure 3 (fa 20 0 3) (.pure 4 (ld 21 20) (.pure 5 (zo 22 (.bin (.sub) (.s 19) (.s 21))) (.pure 6 (fa 23 1 6) (.pure 7 (ld 24 23) (.pure 8 (zo 25 (.bin (.mul) (cj 2) (.s 24))) (.pure 9 (fa 26 1 3) (.pure 10 (ld 27 26) (.pure 11 (zo 28 (.bin (.sub) (.s 25) (.s 27))) (.pure 12 (fa 29 0 7) (.pure 13 (ld 30 29) (.pure 14 (zo 31 (.bin (.mul) (cj 2) (.s 30))) (.pure 15 (fa 32 0 3) (.pure 16 (ld 33 32) (.pure 17 (zo 34 (.bin (.sub) (.s 31) (.s 33))) (.pure 18 (fa 35 1 7) (.pure 19 (ld 36 35) (.pure 20 (zo 37 (.bin (.mul) (cj 2) (.s 36))) (.pure 21 (fa 38 1 3) (.pure 22 (ld 39 38) (.pure 23 (zo 40 (.bin (.sub) (.s 37) (.s 39))) (.pure 24 (mv 8 22) (.pure 25 (mv 9 28) (.pure 26 (mv 10 34) (.pure 27 (mv 11 40) .done))))))))))))))))))))))))))))) (.seq (.region g248 [(mv 41 8),(mv 42 11),(zo 43 (.bin (.mul) (.s 41) (.s 42))),(mv 44 9),(mv 45 10),(zo 46 (.bin (.mul) (.s 44) (.s 45))),(zo 47 (.bin (.sub) (.s 43) (.s 46))),(mv 12 47)]) (.seq (.region g248 [(ld 48 5),(mv 49 48),(mg 50 49 false 12),(zg 51 49 false (.bin (.eql) (.s 50) (cj 0))),(mg 52 49 false 51),(mg 53 52 true 8),(mg 54 52 true 10),(zg 55 52 true (.bin (.mul) (.s 53) (.s 54))),(mg 56 52 true 9),(mg 57 52 true 11),(zg 58 52 true (.bin (.mul) (.s 56) (.s 57))),(zg 59 52 true (.bin (.add) (.s 55) (.s 58))),(zg 60 52 true (.bin (.leq) (.s 59) (cj 0))),(zg 61 49 false (.pick (.s 52) (.s 60) cF)),(zo 62 (.pick (.s 49) cT (.s 61))),⟨none,none,.store 1 (.s 5) (.s 62),[]⟩]) (.block 2 (.seq (.region g248 [(mv 64 9),(zo 65 (.bin (.leq) (.s 64) (cj 0))),(mv 66 65),(mg 67 66 true 11),(zg 68 66 true (.bin (.gtr) (.s 67) (cj 0))),(zo 69 (.pick (.s 66) (.s 68) cF)),(mv 70 69),(mg 71 70 true 12),(zg 72 70 true (.bin (.gtr) (.s 71) (cj 0))),(zo 73 (.pick (.s 70) (.s 72) cF)),(mv 63 73)]) (.cond (.s 63) (.region g248 [(ld 74 4),(zo 75 (.bin (.add) (.s 74) (cj 1))),⟨none,none,.store 1 (.s 4) (.s 75),[]⟩]) (.seq (.region g248 [(mv 77 9),(zo 78 (.bin (.gtr) (.s 77) (cj 0))),(mv 79 78),(mg 80 79 true 11),(zg 81 79 true (.bin (.leq) (.s 80) (cj 0))),(zo 82 (.pick (.s 79) (.s 81) cF)),(mv 83 82),(mg 84 83 true 12),(zg 85 83 true (.bin (.lss) (.s 84) (cj 0))),(zo 86 (.pick (.s 83) (.s 85) cF)),(mv 76 86)]) (.cond (.s 76) (.region g248 [(ld 87 4),(zo 88 (.bin (.sub) (.s 87) (cj 1))),⟨none,none,.store 1 (.s 4) (.s 88),[]⟩]) .skip)))))))))))) (.seq (.drawn g248 (.pure 0 (ld 89 4) (.pure 1 (ld 90 5) (.eff 2 ⟨none,none,.store 1 (.s 4) (.s 89),[]⟩ [(ld 90 5)] (.eff 3 ⟨none,none,.store 1 (.s 5) (.s 90),[]⟩ [] .done .none) .none)))) .ret))
def r248:List fY:=[.cell 4 1 false,.cell 5 1 false]
def k248:List (Nat×Nat×aH×Nat):=[(0,253,c253,25)]
theorem e248:aI Tryz.prog 248 g248 [] [] k248=some (c248,r248,91):=by kernel_rfl
theorem q248:eZ Tryz.prog k248:=eZ.cons (eZ.nil) eZ.nil e253
set_option maxHeartbeats 4000000 in
theorem D3:half.Ok Tryz.prog 248:=by
 refine Eng.Spec.okR e248 q248 (fun _=>[(238,.p sides)]) (fun _ _=>aA.p Af aA.nil) ?_
 rintro ⟨r,p⟩ ⟨⟨hn,hr⟩,hp⟩
 replace hn:r.n<=50:=hn
 replace hr:OnR r:=hr
 replace hp:OnH p:=hp
 refine ⟨trivial,?_⟩
 repeat' (first|apply And.intro|exact trivial|exact rfl|exact lz fun _=>rfl)
 refine ⟨⟨Nat,fun i=>i<=r.n,fun i=>[(7,.int .i64 (i:Int))],fun i=>[(1,.cells 3 (.cons (.int .i64 (fI (wdI r p) i)) .nil)),(2,.cells 4 (.cons (.bool (orB (onI r p) i)) .nil))],fun i=>r.n - i⟩,0,Nat.zero_le _,?_,?_⟩
 ·repeat' (first|apply And.intro|exact trivial|exact rfl|exact lz fun _=>rfl)
 rintro (i:Nat) (hi:i<=r.n)
 repeat' (first|apply And.intro|exact trivial|exact rfl|exact lz fun _=>rfl)
 ·refine fun (h:decide ((i:Int) < (r.n:Int))=true)=>?_
  have hi1:(i:Int) < (r.n:Int):=of_decide_eq_true h
  have hil:i < r.n:=by omega
  have hi0:(0:Int)<=(i:Int):=by omega
  have b1:-9223372036854775808<=(i:Int)+1:=by omega
  have b2:(i:Int)+1<=9223372036854775807:=by omega
  have hnz:(r.n:Int)≠0:=by omega
  have hm:=oN (i:=i) (n:=r.n) (by omega)
  have hq:r.p (((i:Int)+1).tmod (r.n:Int)).toNat=nxt r i:=by rw [hm]; rfl
  have hm1:0<=((i:Int)+1).tmod (r.n:Int):=by rw [hm]; omega
  have hm2:((i:Int)+1).tmod (r.n:Int) < (r.n:Int):=by rw [hm]; have:=Nat.mod_lt (i+1) (show 0 < r.n by omega); omega
  have hqb:onB (r.p (((i:Int)+1).tmod (r.n:Int)).toNat)=true:=by rw [hq]; exact pR hr hil
  have ka:=fF.1 (hr i hil)
  have kq:=fF.1 hqb
  have bA:=Hq (hr i hil) hp
  have bB:=Hq hqb hp
  have kc:=Hp bA bB
  have kd:=Hu bA bB
  have bA':=bA
  have bB':=bB
  unfold bd at bA' bB'
  obtain ⟨⟨p1,p2⟩,⟨p3,p4⟩⟩:=hp
  have f1:I64 (2 * (r.p i).1):=⟨by omega,by omega⟩
  have f2:I64 (dbl (r.p i) p).1:=⟨by omega,by omega⟩
  have f3:I64 (2 * (r.p i).2):=⟨by omega,by omega⟩
  have f4:I64 (dbl (r.p i) p).2:=⟨by omega,by omega⟩
  have f5:I64 (2 * (r.p (((i:Int)+1).tmod (r.n:Int)).toNat).1):=⟨by omega,by omega⟩
  have f6:I64 (dbl (r.p (((i:Int)+1).tmod (r.n:Int)).toNat) p).1:=⟨by omega,by omega⟩
  have f7:I64 (2 * (r.p (((i:Int)+1).tmod (r.n:Int)).toNat).2):=⟨by omega,by omega⟩
  have f8:I64 (dbl (r.p (((i:Int)+1).tmod (r.n:Int)).toNat) p).2:=⟨by omega,by omega⟩
  have f9:I64 ((dbl (r.p i) p).1 * (dbl (r.p (((i:Int)+1).tmod (r.n:Int)).toNat) p).2):=⟨by omega,by omega⟩
  have f10:I64 ((dbl (r.p i) p).2 * (dbl (r.p (((i:Int)+1).tmod (r.n:Int)).toNat) p).1):=⟨by omega,by omega⟩
  have f11:I64 (crs (dbl (r.p i) p) (dbl (r.p (((i:Int)+1).tmod (r.n:Int)).toNat) p)):=⟨by unfold crs; omega,by unfold crs; omega⟩
  have f12:I64 ((dbl (r.p i) p).1 * (dbl (r.p (((i:Int)+1).tmod (r.n:Int)).toNat) p).1):=⟨by omega,by omega⟩
  have f13:I64 ((dbl (r.p i) p).2 * (dbl (r.p (((i:Int)+1).tmod (r.n:Int)).toNat) p).2):=⟨by omega,by omega⟩
  have f14:I64 (dot (dbl (r.p i) p) (dbl (r.p (((i:Int)+1).tmod (r.n:Int)).toNat) p)):=⟨by unfold dot; omega,by unfold dot; omega⟩
  have hws:=Kq (f:=wdI r p) (B:=1) (n:=i) fun j _=>To _ _
  have ew:wdI r p i=wnd (dbl (r.p i) p) (dbl (r.p (((i:Int)+1).tmod (r.n:Int)).toNat) p):=by rw [hq]; rfl
  have eo:onI r p i=onE (dbl (r.p i) p) (dbl (r.p (((i:Int)+1).tmod (r.n:Int)).toNat) p):=by rw [hq]; rfl
  have eon:∀ a b c d,aE (orB (onI r p) i) cT (.s a) b (aE (decide (crs (dbl (r.p i) p) (dbl (r.p (((i:Int)+1).tmod (r.n:Int)).toNat) p)=0)) (.s c) cF (decide (dot (dbl (r.p i) p) (dbl (r.p (((i:Int)+1).tmod (r.n:Int)).toNat) p)<=0)) d)=orB (onI r p) (i+1):=fun a b c d=>by
   simp only [orB]
   rw [eo]
   unfold onE
   rw [aF,aD]
  repeat' (first|with_reducible exact hi1|with_reducible exact hi0|with_reducible exact b1|with_reducible exact b2|with_reducible exact hnz|exact hm1|exact hm2|apply And.intro|exact trivial|exact rfl|exact lz fun _=>rfl|exact fun (h:(!true)=true)=>Bool.noConfusion h|(refine fun (_:(!true)=false)=>?_))
  ·exact f1.1
  ·exact f1.2
  ·exact f2.1
  ·exact f2.2
  ·exact f3.1
  ·exact f3.2
  ·exact f4.1
  ·exact f4.2
  ·exact f5.1
  ·exact f5.2
  ·exact f6.1
  ·exact f6.2
  ·exact f7.1
  ·exact f7.2
  ·exact f8.1
  ·exact f8.2
  ·exact f9.1
  ·exact f9.2
  ·exact f10.1
  ·exact f10.2
  ·exact f11.1
  ·exact f11.2
  ·exact fun (_:bD _ _ _ _)=>f12
  ·exact fun (_:bD _ _ _ _)=>f13
  ·exact fun (_:bD _ _ _ _)=>f14
  ·refine fun (h1:aE (aE (decide ((dbl (r.p i) p).2<=0)) _ _ (decide (0 < (dbl (r.p (((i:Int)+1).tmod (r.n:Int)).toNat) p).2)) _) _ _ (decide (0 < crs (dbl (r.p i) p) (dbl (r.p (((i:Int)+1).tmod (r.n:Int)).toNat) p))) _=true)=>?_
   rw [aF,aF] at h1
   simp only [Bool.and_eq_true,decide_eq_true_eq] at h1
   have e1:wdI r p i=1:=by rw [ew]; unfold wnd; rw [if_pos ⟨h1.1.1,h1.1.2,h1.2⟩]
   have es:fI (wdI r p) i+1=fI (wdI r p) (i+1):=by simp only [fI]; rw [e1]
   have g1:-9223372036854775808<=fI (wdI r p) i+1:=by omega
   have g2:fI (wdI r p) i+1<=9223372036854775807:=by omega
   repeat' (first|with_reducible exact g1|with_reducible exact g2|with_reducible exact b1|with_reducible exact b2|apply And.intro|exact trivial|exact rfl|exact lz fun _=>rfl|exact fun (h:(!true)=true)=>Bool.noConfusion h|(refine fun (_:(!true)=false)=>?_))
   refine Exists.intro (i+1) ?_
   refine And.intro (show i+1<=r.n from hil) ?_
   repeat' (first|with_reducible exact es|exact eon _ _ _ _|apply And.intro|exact trivial|exact rfl|exact lz fun _=>rfl)
   show r.n - (i+1) < r.n - i
   omega
  refine fun (h1:aE (aE (decide ((dbl (r.p i) p).2<=0)) _ _ (decide (0 < (dbl (r.p (((i:Int)+1).tmod (r.n:Int)).toNat) p).2)) _) _ _ (decide (0 < crs (dbl (r.p i) p) (dbl (r.p (((i:Int)+1).tmod (r.n:Int)).toNat) p))) _=false)=>?_
  rw [aF,aF] at h1
  have h1':¬ ((dbl (r.p i) p).2<=0/\0 < (dbl (r.p (((i:Int)+1).tmod (r.n:Int)).toNat) p).2/\0 < crs (dbl (r.p i) p) (dbl (r.p (((i:Int)+1).tmod (r.n:Int)).toNat) p)):=by
   rintro ⟨q1,q2,q3⟩
   rw [decide_eq_true q1,decide_eq_true q2,decide_eq_true q3] at h1
   cases h1
  repeat' (first|with_reducible exact b1|with_reducible exact b2|apply And.intro|exact trivial|exact rfl|exact lz fun _=>rfl|exact fun (h:(!true)=true)=>Bool.noConfusion h|(refine fun (_:(!true)=false)=>?_))
  ·refine fun (h2:aE (aE (decide (0 < (dbl (r.p i) p).2)) _ _ (decide ((dbl (r.p (((i:Int)+1).tmod (r.n:Int)).toNat) p).2<=0)) _) _ _ (decide (crs (dbl (r.p i) p) (dbl (r.p (((i:Int)+1).tmod (r.n:Int)).toNat) p) < 0)) _=true)=>?_
   rw [aF,aF] at h2
   simp only [Bool.and_eq_true,decide_eq_true_eq] at h2
   have e1:wdI r p i=-1:=by rw [ew]; unfold wnd; rw [if_neg h1',if_pos ⟨h2.1.1,h2.1.2,h2.2⟩]
   have es:fI (wdI r p) i - 1=fI (wdI r p) (i+1):=by simp only [fI]; rw [e1]; omega
   have g1:-9223372036854775808<=fI (wdI r p) i - 1:=by omega
   have g2:fI (wdI r p) i - 1<=9223372036854775807:=by omega
   repeat' (first|with_reducible exact g1|with_reducible exact g2|with_reducible exact b1|with_reducible exact b2|apply And.intro|exact trivial|exact rfl|exact lz fun _=>rfl|exact fun (h:(!true)=true)=>Bool.noConfusion h|(refine fun (_:(!true)=false)=>?_))
   refine Exists.intro (i+1) ?_
   refine And.intro (show i+1<=r.n from hil) ?_
   repeat' (first|with_reducible exact es|exact eon _ _ _ _|apply And.intro|exact trivial|exact rfl|exact lz fun _=>rfl)
   show r.n - (i+1) < r.n - i
   omega
  refine fun (h2:aE (aE (decide (0 < (dbl (r.p i) p).2)) _ _ (decide ((dbl (r.p (((i:Int)+1).tmod (r.n:Int)).toNat) p).2<=0)) _) _ _ (decide (crs (dbl (r.p i) p) (dbl (r.p (((i:Int)+1).tmod (r.n:Int)).toNat) p) < 0)) _=false)=>?_
  rw [aF,aF] at h2
  have h2':¬ (0 < (dbl (r.p i) p).2/\(dbl (r.p (((i:Int)+1).tmod (r.n:Int)).toNat) p).2<=0/\crs (dbl (r.p i) p) (dbl (r.p (((i:Int)+1).tmod (r.n:Int)).toNat) p) < 0):=by
   rintro ⟨q1,q2,q3⟩
   rw [decide_eq_true q1,decide_eq_true q2,decide_eq_true q3] at h2
   cases h2
  have e1:wdI r p i=0:=by rw [ew]; unfold wnd; rw [if_neg h1',if_neg h2']
  have es:fI (wdI r p) i=fI (wdI r p) (i+1):=by simp only [fI]; rw [e1]; omega
  repeat' (first|with_reducible exact b1|with_reducible exact b2|apply And.intro|exact trivial|exact rfl|exact lz fun _=>rfl|exact fun (h:(!true)=true)=>Bool.noConfusion h|(refine fun (_:(!true)=false)=>?_))
  refine Exists.intro (i+1) ?_
  refine And.intro (show i+1<=r.n from hil) ?_
  repeat' (first|with_reducible exact es|exact eon _ _ _ _|apply And.intro|exact trivial|exact rfl|exact lz fun _=>rfl)
  show r.n - (i+1) < r.n - i
  omega
 ·refine fun (h:decide ((i:Int) < (r.n:Int))=false)=>?_
  have hi1:¬ (i:Int) < (r.n:Int):=of_decide_eq_false h
  have e:i=r.n:=by omega
  subst e
  repeat' (first|apply And.intro|exact trivial|exact rfl|exact lz fun _=>rfl)
def E9 (r:Pts) (p:Pt):Bool:=!decide (wdV r p=0) && !onV r p
def Fq (r:Pts) (p:Pt):Bool:=decide (wdV r p=0) && !onV r p
def inside:Eng.Spec where
 X:=Pts×Pt
 args:=fun x=>.cons (rgE x.1) (.cons (ptE x.2) .nil)
 pre:=fun x=>(x.1.n<=50/\OnR x.1)/\OnH x.2
 res:=fun x=>.bool (E9 x.1 x.2)
 inst:=Ed
def g224:List Nat:=[1,0,3,5,6,4]
def c224:aH :=
 .seq (.region g224 [(zo 3 (.box 53 (.s 1))),(zo 4 (.move cF))]) (.seq (.region g224 [(mv 8 0),(zo 9 (.load 2 true (.s 3))),(zo 10 (.call (.c (.fn 248)) [.s 8,.s 9])),(mv 7 10),(zo 11 (.extract 0 (.s 7))),(zo 12 (.extract 1 (.s 7))),(mv 5 11),(mv 6 12)]) (.seq (.region g224 [(mv 13 5),(zo 14 (.bin (.neq) (.s 13) (cj 0))),(mv 15 14),(mg 16 15 true 6),(zg 17 15 true (.not (.s 16))),(zo 18 (.pick (.s 15) (.s 17) cF)),(mv 4 18)]) .ret))
theorem e224:aI Tryz.prog 224 g224 [] [] []=some (c224,[.slot 4],19):=by kernel_rfl
theorem Fa:inside.Ok Tryz.prog 224:=by
 refine Eng.Spec.okR e224 .nil (fun _=>[(248,.p half)]) (fun _ _=>aA.p D3 aA.nil) ?_
 rintro ⟨r,p⟩ h
 have e:∀ i j,aE (!decide (wdV r p=0)) (.s i) cF (!onV r p) j=E9 r p:=fun i j=>aF _ _ _ _
 refine ⟨trivial,?_⟩
 repeat' (first|exact h|exact e _ _|apply And.intro|exact trivial|exact rfl|exact lz fun _=>rfl)
def outside:Eng.Spec where
 X:=Pts×Pt
 args:=fun x=>.cons (rgE x.1) (.cons (ptE x.2) .nil)
 pre:=fun x=>(x.1.n<=50/\OnR x.1)/\OnH x.2
 res:=fun x=>.bool (Fq x.1 x.2)
 inst:=Ed
def g223:List Nat:=[1,0,3,5,6,4]
def c223:aH :=
 .seq (.region g223 [(zo 3 (.box 53 (.s 1))),(zo 4 (.move cF))]) (.seq (.region g223 [(mv 8 0),(zo 9 (.load 2 true (.s 3))),(zo 10 (.call (.c (.fn 248)) [.s 8,.s 9])),(mv 7 10),(zo 11 (.extract 0 (.s 7))),(zo 12 (.extract 1 (.s 7))),(mv 5 11),(mv 6 12)]) (.seq (.region g223 [(mv 13 5),(zo 14 (.bin (.eql) (.s 13) (cj 0))),(mv 15 14),(mg 16 15 true 6),(zg 17 15 true (.not (.s 16))),(zo 18 (.pick (.s 15) (.s 17) cF)),(mv 4 18)]) .ret))
theorem e223:aI Tryz.prog 223 g223 [] [] []=some (c223,[.slot 4],19):=by kernel_rfl
theorem Cn:outside.Ok Tryz.prog 223:=by
 refine Eng.Spec.okR e223 .nil (fun _=>[(248,.p half)]) (fun _ _=>aA.p D3 aA.nil) ?_
 rintro ⟨r,p⟩ h
 have e:∀ i j,aE (decide (wdV r p=0)) (.s i) cF (!onV r p) j=Fq r p:=fun i j=>aF _ _ _ _
 refine ⟨trivial,?_⟩
 repeat' (first|exact h|exact e _ _|apply And.intro|exact trivial|exact rfl|exact lz fun _=>rfl)
def dbP (p:Pt):Pt:=(2 * p.1,2 * p.2)
def mE (r:Pts) (p:Pt):Int:=if (qF r && onB p)=true then (if Fq r (dbP p)=true then -1 else if E9 r (dbP p)=true then 1 else 0) else -1
def Where:Eng.Spec where
 X:=Pts×Pt
 args:=fun x=>.cons (rgE x.1) (.cons (ptE x.2) .nil)
 pre:=fun x=>(x.1.n:Int)<=9223372036854775806
 res:=fun x=>.int .i64 (mE x.1 x.2)
 inst:=Ed
def g178:List Nat:=[1,0,3,15,5,6,28,4]
def c178:aH :=
 .seq (.region g178 [(zo 3 (.box 53 (.s 1))),(zo 4 (.move (cj 0)))]) (.seq (.drawn g178 (.pure 0 (mv 7 0) (.pure 1 (fa 8 0 3) (.pure 2 (ld 9 8) (.pure 3 (zo 10 (.bin (.mul) (cj 2) (.s 9))) (.pure 4 (fa 11 1 3) (.pure 5 (ld 12 11) (.pure 6 (zo 13 (.bin (.mul) (cj 2) (.s 12))) (.pure 7 (zo 14 (.build zPt [(0,1,.s 10),(1,1,.s 13)])) (.eff 8 (zo 6 (.alloc 53 zPt)) [(ld 12 11),(ld 9 8)] (.pure 9 (mv 5 7) (.eff 10 ⟨none,none,.store 2 (.s 6) (.s 14),[]⟩ [] .done .none)) .none)))))))))) (.seq (.block 0 (.seq (.region g178 [(mv 16 0),(zo 17 (.call (.c (.fn 141)) [.s 16])),(zo 18 (.not (.s 17))),(mv 19 18),(zg 20 19 false (.load 2 true (.s 3))),(zg 21 19 false (.call (.c (.fn 199)) [.s 20])),(zo 22 (.pick (.s 19) cT (.s 21))),(mv 23 22),(mg 24 23 false 5),(zg 25 23 false (.load 2 true (.s 6))),(zg 26 23 false (.call (.c (.fn 223)) [.s 24,.s 25])),(zo 27 (.pick (.s 23) cT (.s 26))),(mv 15 27)]) (.cond (.s 15) (.seq (.region g178 [(zo 4 (.move (cj (-1))))]) .ret) (.seq (.region g178 [(mv 29 5),(zo 30 (.load 2 true (.s 6))),(zo 31 (.call (.c (.fn 224)) [.s 29,.s 30])),(mv 28 31)]) (.cond (.s 28) (.seq (.region g178 [(zo 4 (.move (cj 1)))]) .ret) .skip))))) (.seq (.region g178 [(zo 4 (.move (cj 0)))]) .ret)))
theorem e178:aI Tryz.prog 178 g178 [] [] []=some (c178,[.slot 4],32):=by kernel_rfl
theorem wrap2 {x:Int} (h:0<=x/\x<=32767):IntKind.i64.wrap (2 * x)=2 * x:=InR.wrap ⟨by show -9223372036854775808<=_; omega,by show _<=9223372036854775807; omega⟩
theorem Aw {p:Pt} (h:onB p=true):(IntKind.i64.wrap (2 * p.1),IntKind.i64.wrap (2 * p.2))=dbP p:=by
 have:=fF.1 h
 rw [wrap2 ⟨this.1,this.2.1⟩,wrap2 ⟨this.2.2.1,this.2.2.2⟩]
 rfl
theorem Rv {p:Pt} (h:onB p=true):OnH (dbP p):=by
 have:=fF.1 h
 unfold OnH dbP
 dsimp only
 omega
theorem O2 {p:Pt} (h:onB p=true):OnH (IntKind.i64.wrap (2 * p.1),IntKind.i64.wrap (2 * p.2)):=by
 rw [Aw h]
 exact Rv h
theorem G5:Where.Ok Tryz.prog 178:=by
 refine Eng.Spec.okR e178 .nil (fun _=>[(2097153,.own),(141,.p Valid),(199,.p Rs),(223,.p outside),(224,.p inside)]) (fun _ _=>aA.o (aA.p nN (aA.p Jj (aA.p Cn (aA.p Fa aA.nil))))) ?_
 rintro ⟨r,p⟩ hn
 replace hn:(r.n:Int)<=9223372036854775806:=hn
 refine ⟨trivial,?_⟩
 repeat' (first|exact hn|apply And.intro|exact trivial|exact rfl|exact lz fun _=>rfl)
 ·refine fun (_:bD _ _ _ _)=>?_
  repeat' (first|apply And.intro|exact trivial|exact rfl|exact lz fun _=>rfl)
 ·refine fun (h:aE (!qF r) _ _ _ (!onB p)=false)=>?_
  rw [aD] at h
  simp only [Bool.or_eq_false_iff] at h
  have hv:=(Ky (qT h.1)).1
  have h50:=hv.1
  have hon:=hv.2
  have ho:=O2 (qT h.2)
  repeat' (first|exact h50|exact hon|exact ho|apply And.intro|exact trivial|exact rfl|exact lz fun _=>rfl)
 ·refine fun (h:aE (aE (!qF r) _ _ _ (!onB p)) _ _ _ (Fq r (IntKind.i64.wrap (2 * p.1),IntKind.i64.wrap (2 * p.2)))=true)=>?_
  rw [aD,aD] at h
  have e:-1=mE r p:=by
   unfold mE
   split
   ·rename_i hv
    simp only [Bool.and_eq_true] at hv
    rw [hv.1,hv.2,Aw hv.2] at h
    have h':Fq r (dbP p)=true:=h
    rw [if_pos h']
   ·rfl
  repeat' (first|exact e|apply And.intro|exact trivial|exact rfl|exact lz fun _=>rfl)
 ·refine fun (h:aE (aE (!qF r) _ _ _ (!onB p)) _ _ _ (Fq r (IntKind.i64.wrap (2 * p.1),IntKind.i64.wrap (2 * p.2)))=false)=>?_
  rw [aD,aD] at h
  simp only [Bool.or_eq_false_iff] at h
  have hv:=(Ky (qT h.1.1)).1
  have hb:=qT h.1.2
  have h50:=hv.1
  have hon:=hv.2
  have ho:=O2 hb
  have h2:=h.2
  rw [Aw hb] at h2
  have e0:mE r p=if E9 r (dbP p)=true then 1 else 0:=by
   unfold mE
   rw [qT h.1.1,hb,h2]
   rfl
  repeat' (first|exact h50|exact hon|exact ho|apply And.intro|exact trivial|exact rfl|exact lz fun _=>rfl)
  ·refine fun (hi:E9 r (IntKind.i64.wrap (2 * p.1),IntKind.i64.wrap (2 * p.2))=true)=>?_
   rw [Aw hb] at hi
   have e:1=mE r p:=by rw [e0,if_pos hi]
   repeat' (first|exact e|apply And.intro|exact trivial|exact rfl|exact lz fun _=>rfl)
  ·refine fun (hi:E9 r (IntKind.i64.wrap (2 * p.1),IntKind.i64.wrap (2 * p.2))=false)=>?_
   rw [Aw hb] at hi
   have e:0=mE r p:=by rw [e0,hi]; rfl
   repeat' (first|exact e|apply And.intro|exact trivial|exact rfl|exact lz fun _=>rfl)
end S24
end
section
open Go Go.Eng Go.Proofs G1 G2 G3 G4 G6 G7 EV0 F1 F2 F6 L10 S1 S14 S19 S21 S22 S23 S24
set_option maxRecDepth 100000
namespace S25
def lkL (l:Sq Ar) (kd:Int) (p:Pt):Nat->List B
 | 0=>[]
 | k+1=>if (l.f k).kind=kd/\0<=mE (l.f k).ring p then lkL l kd p k++[(l.f k).id] else lkL l kd p k
theorem D8 {l:Sq Ar} {kd:Int} {p:Pt}:(lkL l kd p 0).length=0:=rfl
theorem Q2 {l:Sq Ar} {kd:Int} {p:Pt} {k:Nat} (h:(l.f k).kind=kd/\0<=mE (l.f k).ring p):lkL l kd p k++[(l.f k).id]=lkL l kd p (k+1):=by simp only [lkL]; rw [if_pos h]
theorem Ol {l:Sq Ar} {kd:Int} {p:Pt} {k:Nat} (h:¬ ((l.f k).kind=kd/\0<=mE (l.f k).ring p)):lkL l kd p k=lkL l kd p (k+1):=by simp only [lkL]; rw [if_neg h]
theorem I3 {l:Sq Ar} {kd:Int} {p:Pt}:∀ k,(lkL l kd p k).length<=k:=by
 intro k
 induction k with
 | zero=>exact Nat.le_refl _
 | succ k ih =>
  simp only [lkL]
  split
  ·rw [List.length_append]
   simp only [List.length_cons,List.length_nil]
   omega
  ·omega
def lkI (l:Sq Ar) (kd:Int) (p:Pt) (i:Nat):Bool:=decide ((l.f i).kind=kd) && decide (0 < mE (l.f i).ring p)
def lkK (x:Sq Ar×Int×Pt):Bool:=(zvV x.1 && bI x.2.1 1 3) && onB x.2.2
def lkR (x:Sq Ar×Int×Pt):List B:=if lkK x=true then bE (lkL x.1 x.2.1 x.2.2 x.1.n) else []
def lkN (x:Sq Ar×Int×Pt):Bool:=lkK x && orB (lkI x.1 x.2.1 x.2.2) x.1.n
def Uu:Eng.bZ where
 X:=Sq Ar×Int×Pt
 Y:=Unit
 args:=fun x=>.cons (arE x.1) (.cons (.int .i64 x.2.1) (.cons (ptE x.2.2) .nil))
 pre:=fun x=>x.1.n<=1000000/\∀ i,i < x.1.n->okA (x.1.f i)
 h0:=fun _=>[]
 nx0:=0
 post:=fun _ _=>True
 res:=fun x _=>.tup (.cons (.lsl 0 1 (lkR x).length) (.cons (.bool (lkN x)) (.cons (.int .i64 (if lkK x=true then 0 else 1)) .nil)))
 h1:=fun x _=>[(0,.arr 9 1 (lkR x).length (mC (lkR x)))]
 nx1:=1
def g222:List Nat:=[1,7,9,6,2,0,5,21,8]
def c222:aH :=
 .seq (.region g222 [(ld 6 1),(zo 7 (.lenSl (.s 6))),(zo 8 (.move (cj 0)))]) (.block 0 (.loop 0 [9,10,11,5,12,13,14,15,16,17,18,19,20,21,22,8] (.seq (.region g222 [(zo 9 (.bin (.lss) (.s 8) (.s 7)))]) (.seq (.cond (.s 9) .skip (.exit 0)) (.seq (.block 1 (.seq (.region g222 [(zo 10 (.idxSl 3 (.s 6) (.s 8))),(zo 11 (.load 3 true (.s 10))),(zo 5 (.alloc 130 (.cons (.str []) (.cons (.int .i64 0) (.cons (.nilsl) .nil))))),⟨none,none,.store 3 (.s 5) (.s 11),[]⟩]) (.seq (.region g222 [(fa 12 1 5),(ld 13 12),(ld 14 2),(zo 15 (.bin (.eql) (.s 13) (.s 14))),(mv 16 15),(mg 17 16 true 0),(zg 18 16 true (.load 3 true (.s 5))),(zg 19 16 true (.call (.s 17) [.s 18])),(zg 20 16 true (.not (.s 19))),(zo 21 (.pick (.s 16) (.s 20) cF))]) (.cond (.s 21) .ret .skip)))) (.region g222 [(zo 22 (.bin (.add) (.s 8) (cj 1))),(mv 8 22)]))))))
theorem e222:aI Tryz.prog 222 g222 [] [] []=some (c222,[],23):=by kernel_rfl
def g107:List Nat:=[2,25,0,1,28,29,5,35,11,12,9,10,6,7,8]
def c107:aH :=
 .seq (.region g107 [(zo 5 (.box 53 (.s 2))),(zo 6 (.move (.c (.nilsl)))),(zo 7 (.move cF)),(zo 8 (.move (cj 0)))]) (.seq (.seq (.region g107 [(mv 13 0),(zo 14 (.call (.c (.fn 175)) [.s 13])),(zo 15 (.not (.s 14))),(mv 16 15),(mg 17 16 false 1),(zg 18 16 false (.call (.c (.fn 176)) [.s 17])),(zg 19 16 false (.not (.s 18))),(zo 20 (.pick (.s 16) cT (.s 19))),(mv 21 20),(zg 22 21 false (.load 2 true (.s 5))),(zg 23 21 false (.call (.c (.fn 151)) [.s 22])),(zg 24 21 false (.not (.s 23))),(zo 25 (.pick (.s 21) cT (.s 24)))]) (.cond (.s 25) (.seq (.region g107 [(zo 6 (.move (.c (.nilsl)))),(zo 7 (.move cF)),(zo 8 (.move (cj 1)))]) .ret) .skip)) (.seq (.region g107 [(zo 9 (.alloc 42 (.cons (.nilsl) .nil)))]) (.seq (.region g107 [(zo 10 (.alloc 4 (.cons (.bool false) .nil))),⟨none,none,.store 1 (.s 10) cF,[]⟩]) (.seq (.seq (.region g107 [(mv 26 0),(mv 27 1),(zo 28 (.call (.c (.fn 177)) [.s 26,.s 27]))]) (.block 0 (.range 0 (.s 28) 222 (c222) 23 [29] (.region g107 [(zo 11 (.alloc 130 (.cons (.str []) (.cons (.int .i64 0) (.cons (.nilsl) .nil))))),⟨none,none,.store 3 (.s 11) (.s 29),[]⟩]) (.block 1 (.seq (.region g107 [(fa 30 2 11),(ld 31 30),(zo 32 (.load 2 true (.s 5))),(zo 33 (.call (.c (.fn 178)) [.s 31,.s 32])),(mv 12 33)]) (.seq (.seq (.region g107 [(mv 34 12),(zo 35 (.bin (.geq) (.s 34) (cj 0)))]) (.cond (.s 35) (.region g107 [(ld 36 9),(fa 37 0 11),(ld 38 37),(zo 39 (.buildSl 9 1 1 (.cons (.str []) .nil) [(0,1,.s 38)])),(zo 40 (.app 9 1 16 (.s 36) (.s 39))),⟨none,none,.store 1 (.s 9) (.s 40),[]⟩]) .skip)) (.region g107 [(ld 41 10),(mv 42 41),(mg 43 42 false 12),(zg 44 42 false (.bin (.gtr) (.s 43) (cj 0))),(zo 45 (.pick (.s 42) cT (.s 44))),⟨none,none,.store 1 (.s 10) (.s 45),[]⟩]))))))) (.seq (.region g107 [(ld 46 9),(zo 47 (.call (.c (.fn 70)) [.s 46]))]) (.seq (.drawn g107 (.pure 0 (ld 48 9) (.pure 1 (ld 49 10) (.pure 2 (mv 6 48) (.pure 3 (mv 7 49) (.pure 4 (zo 8 (.move (cj 0))) .done)))))) .ret))))))
def r107:List fY:=[.slot 6,.slot 7,.slot 8]
def k107:List (Nat×Nat×aH×Nat):=[(0,222,c222,23)]
theorem e107:aI Tryz.prog 107 g107 [] [] k107=some (c107,r107,50):=by kernel_rfl
theorem q107:eZ Tryz.prog k107:=eZ.cons (eZ.nil) .nil e222
attribute [local irreducible] lkL
set_option maxHeartbeats 4000000 in
theorem Q3:Uu.Ok Tryz.prog 107:=by
 refine Eng.bZ.okR e107 q107 (fun _=>[(175,.p zvS),(176,.p Qy),(151,.p On),(177,.m Vm),(178,.p Where),(70,.m Gz)]) (fun _ _=>aA.p Wy (aA.p Iu (aA.p rR (aA.m Rt (aA.p G5 (aA.m xY aA.nil)))))) ?_
 rintro ⟨l,kd,p⟩ ⟨(hn:l.n<=1000000),hel⟩
 refine ⟨trivial,?_⟩
 repeat' (first|exact hn|exact hel|apply And.intro|exact trivial|exact rfl|exact lz fun _=>rfl|exact fun (j:Nat) (hj:j < _)=>Or.inl (aW _ _ _ _ rfl)|refine gd ?_)
 ·refine fun (hc:(aE (aE (!zvV l) cT (.s 19) true (!bI kd 1 3)) cT (.s 24) true (!onB p))=true)=>?_
  have hk:lkK (l,kd,p)=false:=by
   rw [aD,aD] at hc
   unfold lkK
   dsimp only
   cases h1:zvV l <;> cases h2:bI kd 1 3 <;> cases h3:onB p <;> rw [h1,h2,h3] at hc <;> first|rfl|exact Bool.noConfusion hc
  have e1:0=(lkR (l,kd,p)).length:=by unfold lkR; rw [if_neg (by rw [hk]; decide)]; rfl
  have e2:false=lkN (l,kd,p):=by unfold lkN; rw [hk]; rfl
  have e3:(1:Int)=if lkK (l,kd,p)=true then 0 else 1:=by rw [if_neg (by rw [hk]; decide)]
  repeat' (first|apply And.intro|exact trivial|exact rfl|exact lz fun _=>rfl|exact fun (j:Nat) (hj:j < _)=>Or.inl (aW _ _ _ _ rfl)|refine gd ?_)
  refine Exists.intro () ?_
  repeat' (first|exact e1|exact e1.symm|exact e2|exact e3|apply And.intro|exact trivial|exact rfl|exact lz fun _=>rfl|exact fun (j:Nat) (hj:j < _)=>Or.inl (aW _ _ _ _ rfl)|refine gd ?_)
 ·refine fun (hc:(aE (aE (!zvV l) cT (.s 19) true (!bI kd 1 3)) cT (.s 24) true (!onB p))=false)=>?_
  have hk:lkK (l,kd,p)=true:=by
   rw [aD,aD] at hc
   unfold lkK
   dsimp only
   cases h1:zvV l <;> cases h2:bI kd 1 3 <;> cases h3:onB p <;> rw [h1,h2,h3] at hc <;> first|rfl|exact Bool.noConfusion hc
  repeat' (first|apply And.intro|exact trivial|exact rfl|exact lz fun _=>rfl|exact fun (j:Nat) (hj:j < _)=>Or.inl (aW _ _ _ _ rfl)|refine gd ?_)
  refine Exists.intro (l,kd) (Exists.intro [] ?_)
  repeat' (first|apply And.intro|exact trivial|exact rfl|exact lz fun _=>rfl|exact fun (j:Nat) (hj:j < _)=>Or.inl (aW _ _ _ _ rfl)|refine gd ?_)
  refine fun (_:Unit) (_:True)=>?_
  repeat' (first|apply And.intro|exact trivial|exact rfl|exact lz fun _=>rfl|exact fun (j:Nat) (hj:j < _)=>Or.inl (aW _ _ _ _ rfl)|refine gd ?_)
  refine ⟨⟨Nat,fun i=>i<=l.n,fun i=>[(8,.int .i64 (i:Int))],
   fun i=>[(1,.cells 42 (.cons (.lsl 20 1 (lkL l kd p i).length) .nil)),(2,.cells 4 (.cons (.bool (orB (lkI l kd p) i)) .nil)),(20,.arr 9 1 (lkL l kd p i).length fun j=>stL ((lkL l kd p i).getD j []))],fun i=>l.n - i⟩,0,Nat.zero_le _,?_,?_⟩
  ·repeat' (first|exact D8|exact D8.symm|apply And.intro|exact trivial|exact rfl|exact lz fun _=>rfl|exact fun (j:Nat) (hj:j < _)=>Or.inl (aW _ _ _ _ rfl)|refine gd ?_)
  rintro (i:Nat) (hi:i<=l.n)
  repeat' (first|apply And.intro|exact trivial|exact rfl|exact lz fun _=>rfl|exact fun (j:Nat) (hj:j < _)=>Or.inl (aW _ _ _ _ rfl)|refine gd ?_)
  ·refine fun (h:decide ((i:Int) < (l.n:Int))=true)=>?_
   have hil:i < l.n:=by have:=of_decide_eq_true h; omega
   have b0:(0:Int)<=(i:Int):=by omega
   have b1:(i:Int) < (l.n:Int):=by omega
   have b2:-9223372036854775808<=(i:Int)+1:=by omega
   have b3:(i:Int)+1<=9223372036854775807:=by omega
   have em:l.n - (i+1) < l.n - i:=by omega
   have hr:((l.f i).ring.n:Int)<=9223372036854775806:=by have:=(hel i hil).2; dsimp only at this; omega
   repeat' (first|with_reducible exact b0|with_reducible exact b1|with_reducible exact b2|with_reducible exact b3|exact hr|apply And.intro|exact trivial|exact rfl|exact lz fun _=>rfl|exact fun (j:Nat) (hj:j < _)=>Or.inl (aW _ _ _ _ rfl)|refine gd ?_)
   ·refine fun (hx:decide ((l.f i).kind=kd)=true)=>?_
    have hk1:(l.f i).kind=kd:=of_decide_eq_true hx
    have hal:=I3 (l:=l) (kd:=kd) (p:=p) i
    have eb:∀ a:Nat,aE (orB (lkI l kd p) i) cT (.s a) true (decide (0 < mE (l.f i).ring p))=orB (lkI l kd p) (i+1):=fun a=>by rw [aD]; simp only [orB]; unfold lkI; rw [hx,Bool.true_and]
    repeat' (first|with_reducible exact b2|with_reducible exact b3|exact hr|exact hx|apply And.intro|exact trivial|exact rfl|exact lz fun _=>rfl|exact fun (j:Nat) (hj:j < _)=>Or.inl (aW _ _ _ _ rfl)|refine gd ?_)
    ·refine fun (hw:decide (0<=mE (l.f i).ring p)=true)=>?_
     have hw1:0<=mE (l.f i).ring p:=of_decide_eq_true hw
     have ea:lkL l kd p i++[(l.f i).id]=lkL l kd p (i+1):=Q2 ⟨hk1,hw1⟩
     have el:(lkL l kd p i).length+1=(lkL l kd p (i+1)).length:=by rw [<- ea,List.length_append]; rfl
     have m1:(lkL l kd p i).length+1<=9223372036854775807:=by omega
     have m2:((lkL l kd p i).length+1) * 16<=140737488355328:=by omega
     repeat' (first|with_reducible exact b2|with_reducible exact b3|exact m1|exact m2|exact hx|apply And.intro|exact trivial|exact rfl|exact lz fun _=>rfl|exact fun (j:Nat) (hj:j < _)=>Or.inl (aW _ _ _ _ rfl)|refine gd ?_)
     ·intro hz
      have hz1:=hz
      rw [aF] at hz1
      exact absurd hz1 (by show ¬ (decide ((l.f i).kind=kd) && false)=true; rw [Bool.and_false]; decide)
     ·refine fun _=>?_
      repeat' (first|with_reducible exact b2|with_reducible exact b3|exact hx|apply And.intro|exact trivial|exact rfl|exact lz fun _=>rfl|exact fun (j:Nat) (hj:j < _)=>Or.inl (aW _ _ _ _ rfl)|refine gd ?_)
      refine Exists.intro (i+1) (And.intro hil ?_)
      repeat' (first|exact em|exact el|exact el.symm|exact eb _|exact fun (j:Nat) (hj:j < (lkL l kd p i).length+1)=>EL.aV ((N2 (c:=stL) (a:=(l.f i).id) (d:=[]) rfl hj).trans (congrArg (fun l=>stL (l.getD j [])) ea)) (bX _ _ _ _)|apply And.intro|exact trivial|exact rfl|exact lz fun _=>rfl|exact fun (j:Nat) (hj:j < _)=>Or.inl (aW _ _ _ _ rfl)|refine gd ?_)
    ·refine fun (hw:decide (0<=mE (l.f i).ring p)=false)=>?_
     have hw1:¬ 0<=mE (l.f i).ring p:=of_decide_eq_false hw
     have ea:lkL l kd p i=lkL l kd p (i+1):=Ol (fun h=>hw1 h.2)
     have el:(lkL l kd p i).length=(lkL l kd p (i+1)).length:=by rw [ea]
     have m1:(lkL l kd p i).length+1<=9223372036854775807:=by omega
     have m2:((lkL l kd p i).length+1) * 16<=140737488355328:=by omega
     repeat' (first|with_reducible exact b2|with_reducible exact b3|exact m1|exact m2|exact hx|apply And.intro|exact trivial|exact rfl|exact lz fun _=>rfl|exact fun (j:Nat) (hj:j < _)=>Or.inl (aW _ _ _ _ rfl)|refine gd ?_)
     ·intro hz
      have hz1:=hz
      rw [aF] at hz1
      exact absurd hz1 (by show ¬ (decide ((l.f i).kind=kd) && false)=true; rw [Bool.and_false]; decide)
     ·refine fun _=>?_
      repeat' (first|with_reducible exact b2|with_reducible exact b3|exact hx|apply And.intro|exact trivial|exact rfl|exact lz fun _=>rfl|exact fun (j:Nat) (hj:j < _)=>Or.inl (aW _ _ _ _ rfl)|refine gd ?_)
      refine Exists.intro (i+1) (And.intro hil ?_)
      repeat' (first|exact em|exact el|exact el.symm|exact eb _|exact fun (j:Nat) (hj:j < (lkL l kd p i).length)=>EL.aV (congrArg (fun l=>stL (l.getD j [])) ea) (bX _ _ _ _)|apply And.intro|exact trivial|exact rfl|exact lz fun _=>rfl|exact fun (j:Nat) (hj:j < _)=>Or.inl (aW _ _ _ _ rfl)|refine gd ?_)
   ·refine fun (hx:decide ((l.f i).kind=kd)=!true)=>?_
    have hx':decide ((l.f i).kind=kd)=false:=hx
    have hk1:¬ (l.f i).kind=kd:=of_decide_eq_false hx'
    have ea:lkL l kd p i=lkL l kd p (i+1):=Ol (fun h=>hk1 h.1)
    have el:(lkL l kd p i).length=(lkL l kd p (i+1)).length:=by rw [ea]
    have eb:orB (lkI l kd p) i=orB (lkI l kd p) (i+1):=by simp only [orB]; unfold lkI; rw [hx',Bool.false_and,Bool.or_false]
    repeat' (first|with_reducible exact b2|with_reducible exact b3|exact hx'|exact hx|exact fun (h:decide ((l.f i).kind=kd)=true)=>Bool.noConfusion (hx'.symm.trans h)|apply And.intro|exact trivial|exact rfl|exact lz fun _=>rfl|exact fun (j:Nat) (hj:j < _)=>Or.inl (aW _ _ _ _ rfl)|refine gd ?_)
    ·intro hz
     exact absurd (hz:false=true) (by decide)
    ·refine fun _=>?_
     repeat' (first|with_reducible exact b2|with_reducible exact b3|exact hx'|apply And.intro|exact trivial|exact rfl|exact lz fun _=>rfl|exact fun (j:Nat) (hj:j < _)=>Or.inl (aW _ _ _ _ rfl)|refine gd ?_)
     refine Exists.intro (i+1) (And.intro hil ?_)
     repeat' (first|exact em|exact el|exact el.symm|exact eb|exact fun (j:Nat) (hj:j < (lkL l kd p i).length)=>EL.aV (congrArg (fun l=>stL (l.getD j [])) ea) (bX _ _ _ _)|apply And.intro|exact trivial|exact rfl|exact lz fun _=>rfl|exact fun (j:Nat) (hj:j < _)=>Or.inl (aW _ _ _ _ rfl)|refine gd ?_)
  refine fun (h:decide ((i:Int) < (l.n:Int))=false)=>?_
  have hil:i=l.n:=by have:=of_decide_eq_false h; omega
  subst hil
  have hal:=I3 (l:=l) (kd:=kd) (p:=p) l.n
  have hp:(lkL l kd p l.n).length < 4611686018427387904:=by omega
  repeat' (first|apply And.intro|exact trivial|exact rfl|exact lz fun _=>rfl|exact fun (j:Nat) (hj:j < _)=>Or.inl (aW _ _ _ _ rfl)|refine gd ?_)
  refine Exists.intro (lkL l kd p l.n) (Exists.intro [20] ?_)
  repeat' (first|exact hp|apply And.intro|exact trivial|exact rfl|exact lz fun _=>rfl|exact fun (j:Nat) (hj:j < _)=>Or.inl (aW _ _ _ _ rfl)|refine gd ?_)
  refine fun (_:Unit) (_:True)=>?_
  have er:lkR (l,kd,p)=bE (lkL l kd p l.n):=if_pos hk
  have e1:(lkL l kd p l.n).length=(lkR (l,kd,p)).length:=by rw [er,S20.xL]
  have e1':(bE (lkL l kd p l.n)).length=(lkR (l,kd,p)).length:=by rw [er]
  have e2:orB (lkI l kd p) l.n=lkN (l,kd,p):=by unfold lkN; rw [hk]; rfl
  have e3:(0:Int)=if lkK (l,kd,p)=true then 0 else 1:=by rw [if_pos hk]
  repeat' (first|apply And.intro|exact trivial|exact rfl|exact lz fun _=>rfl|exact fun (j:Nat) (hj:j < _)=>Or.inl (aW _ _ _ _ rfl)|refine gd ?_)
  refine Exists.intro () ?_
  repeat' (first|exact e1|exact e1.symm|exact e1'|exact e1'.symm|exact e2|exact e3|apply And.intro|exact trivial|exact rfl|exact lz fun _=>rfl|exact fun (j:Nat) (hj:j < _)=>Or.inl (aW _ _ _ _ rfl)|refine gd ?_)
  exact fun (j:Nat) (hj:j < _)=>EL.aV (congrArg (fun l=>mC l j) er.symm) (bX _ _ _ ((lkR (l,kd,p)).getD j []))
end S25
end
section
open Go Go.Eng Go.Proofs G1 G2 G3 G4 G6 G7 EV0 F1 F2 F6 L10 S1 S14 S19 S21 S22 S23 S24 S25
set_option maxRecDepth 100000
namespace S26
def lF (x:Sq Ar×Int×Pt):B:=if lkK x=true then if (lkR x).length=0 then [] else if 1 < (lkR x).length/\lkN x=true then [] else (lkR x).getD 0 [] else []
def sY (x:Sq Ar×Int×Pt):Int:=if lkK x=true then if (lkR x).length=0 then 10 else if 1 < (lkR x).length/\lkN x=true then 8 else 0 else 1
def Vn:Eng.Spec where
 X:=Sq Ar×Int×Pt
 args:=fun x=>.cons (arE x.1) (.cons (.int .i64 x.2.1) (.cons (ptE x.2.2) .nil))
 pre:=fun x=>x.1.n<=1000000/\∀ i,i < x.1.n->okA (x.1.f i)
 res:=fun x=>.tup (.cons (.str (lF x)) (.cons (.int .i64 (sY x)) .nil))
 inst:=fun
  | .cons a (.cons (.int _ k) (.cons p .nil))=>match arD a,ptD p with
   | some l,some p=>some (l,k,p)
   | _,_=>none
  | _=>none
def g75:List Nat:=[2,0,1,5,22,10,26,9,30,8,6,7]
def c75:aH :=
 .seq (.region g75 [(zo 5 (.box 53 (.s 2))),(zo 6 (.move (.c (.str [])))),(zo 7 (.move (cj 0)))]) (.seq (.region g75 [(mv 12 0),(mv 13 1),(zo 14 (.load 2 true (.s 5))),(zo 15 (.call (.c (.fn 107)) [.s 12,.s 13,.s 14])),(mv 11 15),(zo 16 (.extract 0 (.s 11))),(zo 17 (.extract 1 (.s 11))),(zo 18 (.extract 2 (.s 11))),(mv 8 16),(mv 9 17),(mv 10 18)]) (.block 0 (.seq (.region g75 [(mv 23 10),(zo 24 (.bin (.neq) (.s 23) (cj 0))),(mv 22 24)]) (.cond (.s 22) (.seq (.region g75 [(mv 25 10),(zo 6 (.move (.c (.str [])))),(mv 7 25)]) .ret) (.seq (.region g75 [(mv 27 8),(zo 28 (.lenSl (.s 27))),(zo 29 (.bin (.eql) (.s 28) (cj 0))),(mv 26 29)]) (.cond (.s 26) (.seq (.region g75 [(zo 6 (.move (.c (.str [])))),(zo 7 (.move (cj 10)))]) .ret) (.seq (.region g75 [(mv 31 8),(zo 32 (.lenSl (.s 31))),(zo 33 (.bin (.gtr) (.s 32) (cj 1))),(mv 34 33),(mg 35 34 true 9),(zo 36 (.pick (.s 34) (.s 35) cF)),(mv 30 36)]) (.cond (.s 30) (.seq (.region g75 [(zo 6 (.move (.c (.str [])))),(zo 7 (.move (cj 8)))]) .ret) (.seq (.region g75 [(mv 19 8),(zo 20 (.idxSl 1 (.s 19) (cj 0))),(ld 21 20),(mv 6 21),(zo 7 (.move (cj 0)))]) .ret)))))))))
theorem e75:aI Tryz.prog 75 g75 [] [] []=some (c75,[.slot 6,.slot 7],37):=by kernel_rfl
theorem Rw:Vn.Ok Tryz.prog 75:=by
 refine Eng.Spec.okR e75 .nil (fun _=>[(107,.m Uu)]) (fun _ _=>aA.m Q3 aA.nil) ?_
 rintro ⟨l,kd,p⟩ ⟨(hn:l.n<=1000000),hel⟩
 refine ⟨trivial,?_⟩
 repeat' (first|exact hn|exact hel|apply And.intro|exact trivial|exact rfl|exact lz fun _=>rfl|exact fun (j:Nat) (hj:j < _)=>Or.inl (aW _ _ _ _ rfl)|refine gd ?_)
 refine Exists.intro (l,kd,p) (Exists.intro [] ?_)
 repeat' (first|exact hn|exact hel|apply And.intro|exact trivial|exact rfl|exact lz fun _=>rfl|exact fun (j:Nat) (hj:j < _)=>Or.inl (aW _ _ _ _ rfl)|refine gd ?_)
 refine fun (_:Unit) (_:True)=>?_
 repeat' (first|apply And.intro|exact trivial|exact rfl|exact lz fun _=>rfl|exact fun (j:Nat) (hj:j < _)=>Or.inl (aW _ _ _ _ rfl)|refine gd ?_)
 ·refine fun (h:(!decide ((if lkK (l,kd,p)=true then (0:Int) else 1)=0))=true)=>?_
  have hk:¬ lkK (l,kd,p)=true:=fun k=>by rw [if_pos k] at h; exact absurd h (by decide)
  have e1:[]=lF (l,kd,p):=by unfold lF; rw [if_neg hk]
  have e2:(if lkK (l,kd,p)=true then (0:Int) else 1)=sY (l,kd,p):=by unfold sY; rw [if_neg hk,if_neg hk]
  repeat' (first|exact e1|exact e2|apply And.intro|exact trivial|exact rfl|exact lz fun _=>rfl|exact fun (j:Nat) (hj:j < _)=>Or.inl (aW _ _ _ _ rfl)|refine gd ?_)
 ·refine fun (h:(!decide ((if lkK (l,kd,p)=true then (0:Int) else 1)=0))=false)=>?_
  have hk:lkK (l,kd,p)=true:=by
   by_cases k:lkK (l,kd,p)=true
   ·exact k
   ·rw [if_neg k] at h; exact absurd h (by decide)
  repeat' (first|apply And.intro|exact trivial|exact rfl|exact lz fun _=>rfl|exact fun (j:Nat) (hj:j < _)=>Or.inl (aW _ _ _ _ rfl)|refine gd ?_)
  ·refine fun (h0:decide (((lkR (l,kd,p)).length:Int)=0)=true)=>?_
   have hz:(lkR (l,kd,p)).length=0:=by have:=of_decide_eq_true h0; omega
   have e1:[]=lF (l,kd,p):=by unfold lF; rw [if_pos hk,if_pos hz]
   have e2:(10:Int)=sY (l,kd,p):=by unfold sY; rw [if_pos hk,if_pos hz]
   repeat' (first|exact e1|exact e2|apply And.intro|exact trivial|exact rfl|exact lz fun _=>rfl|exact fun (j:Nat) (hj:j < _)=>Or.inl (aW _ _ _ _ rfl)|refine gd ?_)
  ·refine fun (h0:decide (((lkR (l,kd,p)).length:Int)=0)=false)=>?_
   have hz:¬ (lkR (l,kd,p)).length=0:=by have:=of_decide_eq_false h0; omega
   have g1:(0:Int) < ((lkR (l,kd,p)).length:Int):=by omega
   have g2:(0:Int).toNat < (lkR (l,kd,p)).length:=by show 0 < _; omega
   repeat' (first|apply And.intro|exact trivial|exact rfl|exact lz fun _=>rfl|exact fun (j:Nat) (hj:j < _)=>Or.inl (aW _ _ _ _ rfl)|refine gd ?_)
   ·intro hc
    have hc1:=hc
    rw [aF] at hc1
    have hb:1 < (lkR (l,kd,p)).length/\lkN (l,kd,p)=true:=by
     simp only [Bool.and_eq_true,decide_eq_true_eq] at hc1
     exact ⟨by have:=hc1.1; omega,hc1.2⟩
    have e1:[]=lF (l,kd,p):=by unfold lF; rw [if_pos hk,if_neg hz,if_pos hb]
    have e2:(8:Int)=sY (l,kd,p):=by unfold sY; rw [if_pos hk,if_neg hz,if_pos hb]
    repeat' (first|exact e1|exact e2|apply And.intro|exact trivial|exact rfl|exact lz fun _=>rfl|exact fun (j:Nat) (hj:j < _)=>Or.inl (aW _ _ _ _ rfl)|refine gd ?_)
   ·intro hc
    have hc1:=hc
    rw [aF] at hc1
    have hb:¬ (1 < (lkR (l,kd,p)).length/\lkN (l,kd,p)=true):=by
     intro hb
     have k1:decide ((1:Int) < ((lkR (l,kd,p)).length:Int))=true:=decide_eq_true (by omega)
     have k2:=hb.2
     have:(decide ((1:Int) < ((lkR (l,kd,p)).length:Int)) && lkN (l,kd,p))=false:=hc1
     rw [k1,k2] at this
     exact Bool.noConfusion this
    have e1:(lkR (l,kd,p)).getD 0 []=lF (l,kd,p):=by unfold lF; rw [if_pos hk,if_neg hz,if_neg hb]
    have e2:(0:Int)=sY (l,kd,p):=by unfold sY; rw [if_pos hk,if_neg hz,if_neg hb]
    repeat' (first|exact g1|exact g2|exact Int.le_refl 0|exact e1|exact e2|apply And.intro|exact trivial|exact rfl|exact lz fun _=>rfl|exact fun (j:Nat) (hj:j < _)=>Or.inl (aW _ _ _ _ rfl)|refine gd ?_)
end S26
end
section
open Go Go.Eng Go.Proofs G1 G2 G3 G4 G6 G7 EV0 F1 F2 F6 L10 S1 S10 S14 S19 S21 S22 S23 S24 S25 S26
set_option maxRecDepth 100000
namespace S27
attribute [local irreducible] lkR lkK lkN lF sY
def g74:List Nat:=[1,0,2,5,4]
def c74:aH :=
 .seq (.region g74 [(zo 4 (.move (.c (.str []))))]) (.seq (.region g74 [(ld 8 1),(mv 9 0),(fa 10 8 2),(zo 11 (.load 2 true (.s 10))),(zo 12 (.call (.c (.fn 75)) [.s 8,.s 9,.s 11])),(mv 7 12),(zo 13 (.extract 0 (.s 7))),(zo 14 (.extract 1 (.s 7))),(mv 5 13),(mv 6 14)]) (.seq (.region g74 [(mv 15 5),(mv 4 15)]) .ret))
theorem e74:aI Tryz.prog 74 g74 [] [] []=some (c74,[.slot 4],16):=by kernel_rfl
def Tq:Eng.Spec where
 X:=Int×Sq Ar×Dr
 args:=fun x=>.cons (.int .i64 x.1) (.cons (.cptr (.cons (arE x.2.1) .nil)) (.cons (.cptr (drL x.2.2)) .nil))
 pre:=fun x=>x.2.1.n<=1000000/\∀ i,i < x.2.1.n->okA (x.2.1.f i)
 res:=fun x=>.str (lF (x.2.1,x.1,x.2.2.pt))
 inst:=fun
  | .cons (.int _ k) (.cons (.cptr (.cons a _)) (.cons (.cptr c) .nil))=>match arD a with
   | some l=>some (k,l,⟨bH (aJ c 0),bH (aJ c 1),bH (aJ c 2),aP (aJ c 3),hnA c 4,(aP (aJ c 8),aP (aJ c 9)),aP (aJ c 10),aP (aJ c 11),sqT ⟨0,fun _=>[]⟩ stD (aJ c 12),aP (aJ c 13),aP (aJ c 14),bH (aJ c 15)⟩)
   | _=>none
  | _=>none
theorem Pb:Tq.Ok Tryz.prog 74:=by
 refine Eng.Spec.okR e74 .nil (fun _=>[(75,.p Vn)]) (fun _ _=>aA.p Rw aA.nil) ?_
 rintro ⟨k,l,d⟩ ⟨(hn:l.n<=1000000),hel⟩
 refine ⟨trivial,?_⟩
 repeat' (first|exact hn|exact hel|apply And.intro|exact trivial|exact rfl|exact lz fun _=>rfl|exact S1.zz rfl|refine gd ?_)
end S27
end
