/- A part of the proof. -/
import Derived.Test.YtijddkljgihcnaaGreatDoorS1
import Derived.Test.YtijddkljgihcnaaGreatDoorL10
open Go Go.Eng Go.Proofs L1 L2 L3 L4 L6 L8 L9 L10 G1 G3 EV0
set_option maxRecDepth 100000
namespace S3
def g41:List Nat:=[4,3,0,2]
def c41:aH :=
 .seq (.region g41 [(zo 2 (.move cF))]) (.seq (.region g41 [(mv 7 0),(zo 8 (.call (.c (.fn 63)) [.s 7])),(mv 6 8),(zo 9 (.extract 0 (.s 6))),(zo 10 (.extract 1 (.s 6))),(zo 11 (.extract 2 (.s 6))),(mv 3 9),(mv 4 10),(mv 5 11)]) (.seq (.region g41 [(mv 12 4),(zo 13 (.bin (.eql) (.s 12) (cj 0))),(mv 14 13),(mg 15 14 true 3),(zg 16 14 true (.lenSl (.s 15))),(zg 17 14 true (.bin (.eql) (.s 16) (cj 1))),(zo 18 (.pick (.s 14) (.s 17) cF)),(mv 19 18),(mg 20 19 true 3),(zg 21 19 true (.idxSl 4 (.s 20) (cj 0))),(fg 22 19 true 0 21),(lg 23 19 true 22),(zg 24 19 true (.bin (.eql) (.s 23) (cj 1))),(zo 25 (.pick (.s 19) (.s 24) cF)),(mv 26 25),(mg 27 26 true 3),(zg 28 26 true (.idxSl 4 (.s 27) (cj 0))),(fg 29 26 true 3 28),(lg 30 26 true 29),(mg 31 26 true 0),(zg 32 26 true (.bin (.eql) (.s 30) (.s 31))),(zo 33 (.pick (.s 26) (.s 32) cF)),(mv 2 33)]) .ret))
theorem e41:aI Tryz.prog 41 g41 [] [] []=some (c41,[.slot 2],34):=by kernel_rfl
theorem P5:pY.Ok Tryz.prog 41:=by
 refine Eng.Spec.okR e41 .nil (fun _=>[(63,.p Hu)]) (fun _ _=>aA.p Bh aA.nil) ?_
 intro (t:List UInt8) (h0:t.length<=1000000)
 refine ⟨trivial,?_⟩
 have gl:aE (decide ((cC t).2.1=0)) (.s 17) cF (decide (((cC t).1.length:Int)=1)) false=true->0<=(0:Int)/\(0:Int) < ((cC t).1.length:Int):=fun h=>by
  rw [aD,Bool.and_eq_true,decide_eq_true_eq,decide_eq_true_eq] at h
  omega
 have gl2:∀ b:Bool,aE (aE (decide ((cC t).2.1=0)) (.s 17) cF (decide (((cC t).1.length:Int)=1)) false) (.s 24) cF b false=true->0<=(0:Int)/\(0:Int) < ((cC t).1.length:Int):=fun b h=>by
  rw [aD,Bool.and_eq_true] at h
  exact gl h.1
 have e:aE (aE (aE (decide ((cC t).2.1=0)) (.s 17) cF (decide (((cC t).1.length:Int)=1)) false) (.s 24) cF (decide (((cC t).1.getD 0 tk0).kind=1)) false) (.s 32) cF (decide (((cC t).1.getD 0 tk0).text=t)) false=dW t:=by
  rw [aD,aD,aD]; rfl
 repeat' (first|apply And.intro|exact trivial|exact rfl|exact h0)
 ·exact gl
 ·exact gl2 _
def g221:List Nat:=[4,3,0,2]
def c221:aH :=
 .seq (.region g221 [(zo 2 (.move cF))]) (.seq (.region g221 [(mv 7 0),(zo 8 (.call (.c (.fn 63)) [.s 7])),(mv 6 8),(zo 9 (.extract 0 (.s 6))),(zo 10 (.extract 1 (.s 6))),(zo 11 (.extract 2 (.s 6))),(mv 3 9),(mv 4 10),(mv 5 11)]) (.seq (.region g221 [(mv 12 4),(zo 13 (.bin (.eql) (.s 12) (cj 0))),(mv 14 13),(mg 15 14 true 3),(zg 16 14 true (.lenSl (.s 15))),(zg 17 14 true (.bin (.eql) (.s 16) (cj 1))),(zo 18 (.pick (.s 14) (.s 17) cF)),(mv 19 18),(mg 20 19 true 3),(zg 21 19 true (.idxSl 4 (.s 20) (cj 0))),(fg 22 19 true 0 21),(lg 23 19 true 22),(zg 24 19 true (.bin (.eql) (.s 23) (cj 1))),(zo 25 (.pick (.s 19) (.s 24) cF)),(mv 26 25),(mg 27 26 true 3),(zg 28 26 true (.idxSl 4 (.s 27) (cj 0))),(fg 29 26 true 3 28),(lg 30 26 true 29),(mg 31 26 true 0),(zg 32 26 true (.bin (.eql) (.s 30) (.s 31))),(zo 33 (.pick (.s 26) (.s 32) cF)),(mv 2 33)]) .ret))
theorem e221:aI Tryz.prog 221 g221 [] [] []=some (c221,[.slot 2],34):=by kernel_rfl
theorem P6:pY.Ok Tryz.prog 221:=by
 refine Eng.Spec.okR e221 .nil (fun _=>[(63,.p Hu)]) (fun _ _=>aA.p Bh aA.nil) ?_
 intro (t:List UInt8) (h0:t.length<=1000000)
 refine ⟨trivial,?_⟩
 have gl:aE (decide ((cC t).2.1=0)) (.s 17) cF (decide (((cC t).1.length:Int)=1)) false=true->0<=(0:Int)/\(0:Int) < ((cC t).1.length:Int):=fun h=>by
  rw [aD,Bool.and_eq_true,decide_eq_true_eq,decide_eq_true_eq] at h
  omega
 have gl2:∀ b:Bool,aE (aE (decide ((cC t).2.1=0)) (.s 17) cF (decide (((cC t).1.length:Int)=1)) false) (.s 24) cF b false=true->0<=(0:Int)/\(0:Int) < ((cC t).1.length:Int):=fun b h=>by
  rw [aD,Bool.and_eq_true] at h
  exact gl h.1
 have e:aE (aE (aE (decide ((cC t).2.1=0)) (.s 17) cF (decide (((cC t).1.length:Int)=1)) false) (.s 24) cF (decide (((cC t).1.getD 0 tk0).kind=1)) false) (.s 32) cF (decide (((cC t).1.getD 0 tk0).text=t)) false=dW t:=by
  rw [aD,aD,aD]; rfl
 repeat' (first|apply And.intro|exact trivial|exact rfl|exact h0)
 ·exact gl
 ·exact gl2 _
def sZ (f:Nat->B) (v:B) (n:Nat):Int:=match (List.range n).find? (fun i=>decide (v=f i)) with
 | some i=>i
 | none=>-1
theorem O3 {f:Nat->B} {v:B} {n k:Nat} (hk:k < n) (he:v=f k) (h:∀ j,j < k->v≠f j):sZ f v n=k:=by
 unfold sZ
 rw [List.find?_range_eq_some.2 ⟨by simpa using he,by simpa using hk,fun j hj=>by simpa using h j hj⟩]
theorem O4 {f:Nat->B} {v:B} {n:Nat} (h:∀ j,j < n->v≠f j):sZ f v n=-1:=by
 unfold sZ
 rw [List.find?_eq_none.2 fun j hj=>by simpa using h j (by simpa using hj)]
theorem Kz {f:Nat->B} {v:B} {n:Nat}:decide (sZ f v n>=0)=decide (∃ i,i < n/\f i=v):=by
 rw [Bool.eq_iff_iff,decide_eq_true_iff,decide_eq_true_iff]
 unfold sZ
 split
 ·rename_i i hi
  have:=List.find?_range_eq_some.1 hi
  exact ⟨fun _=>⟨i,by simpa using this.2.1,by simpa using (of_decide_eq_true this.1).symm⟩,fun _=>Int.natCast_nonneg i⟩
 ·rename_i hi
  have:=List.find?_eq_none.1 hi
  constructor
  ·intro h; exact absurd h (by decide)
  ·rintro ⟨i,h1,h2⟩
   exact absurd (this i (by simpa using h1)) (by simp [h2])
def g77:List Nat:=[7,9,1,0,16,5,8,4]
def c77:aH :=
 .seq (.region g77 [(zo 4 (.move (cj 0)))]) (.seq (.seq (.region g77 [(mv 6 0),(zo 7 (.lenSl (.s 6))),(zo 8 (.move (cj 0)))]) (.block 0 (.loop 0 [9,10,5,11,12,13,14,15,16,17,4,18,8] (.seq (.region g77 [(zo 9 (.bin (.lss) (.s 8) (.s 7)))]) (.seq (.cond (.s 9) .skip (.exit 0)) (.seq (.block 1 (.seq (.region g77 [(mv 10 8),(mv 5 10)]) (.seq (.region g77 [(mv 11 1),(mv 12 0),(mv 13 5),(zo 14 (.idxSl 1 (.s 12) (.s 13))),(ld 15 14),(zo 16 (.bin (.eql) (.s 11) (.s 15)))]) (.cond (.s 16) (.seq (.region g77 [(mv 17 5),(mv 4 17)]) .ret) .skip)))) (.region g77 [(zo 18 (.bin (.add) (.s 8) (cj 1))),(mv 8 18)]))))))) (.seq (.region g77 [(zo 4 (.move (cj (-1))))]) .ret))
theorem e77:aI Tryz.prog 77 g77 [] [] []=some (c77,[.slot 4],19):=by kernel_rfl
def Pg:Eng.Spec where
 X:=Sq B×B
 args:=fun x=>.cons (stE x.1) (.cons (.str x.2) .nil)
 pre:=fun x=>x.1.n<=1000000
 res:=fun x=>.int .i64 (sZ x.1.f x.2 x.1.n)
 inst:=EV0.two stD nS
theorem Ph:Pg.Ok Tryz.prog 77:=by
 refine Eng.Spec.okR e77 .nil (fun _=>[]) (fun _ _=>aA.nil) ?_
 rintro ⟨⟨n,f⟩,v⟩ (hn:n<=1000000)
 refine ⟨trivial,?_⟩
 repeat' (first|apply And.intro|exact trivial|exact rfl)
 refine ⟨⟨Nat,fun k=>k<=n/\∀ j,j < k->v≠f j,fun k=>[(8,.int .i64 (k:Int))],fun _=>[],fun k=>n - k⟩,0,⟨Nat.zero_le _,fun j hj=>absurd hj (Nat.not_lt_zero j)⟩,?_,?_⟩
 ·repeat' (first|apply And.intro|exact trivial|exact rfl|exact lz fun _=>rfl)
 rintro (k:Nat) ⟨(hk:k<=n),(hf:∀ j,j < k->v≠f j)⟩
 repeat' (first|apply And.intro|exact trivial|exact rfl)
 ·refine fun (hg:decide ((k:Int) < (n:Int))=true)=>?_
  have h1:(k:Int) < (n:Int):=of_decide_eq_true hg
  have h0:(0:Int)<=(k:Int):=by omega
  have b1:-9223372036854775808<=(k:Int)+1:=by omega
  have b2:(k:Int)+1<=9223372036854775807:=by omega
  have hkl:k < n:=by omega
  repeat' (first|apply And.intro|exact trivial|exact rfl)
  ·exact h0
  ·exact h1
  ·refine fun (hv:decide (v=f (k:Int).toNat)=true)=>?_
   have e:(k:Int)=sZ f v n:=(O3 hkl (of_decide_eq_true hv) hf).symm
   repeat' (first|apply And.intro|exact trivial|exact rfl|exact e)
  ·refine fun (hv:decide (v=f (k:Int).toNat)=false)=>?_
   have hne:v≠f k:=of_decide_eq_false hv
   repeat' (first|apply And.intro|exact trivial|exact rfl)
   ·exact b1
   ·exact b2
   refine Exists.intro (k+1) ?_
   repeat' (first|apply And.intro|exact trivial|exact rfl)
   ·exact hkl
   ·refine fun j hj=>?_
    by_cases e:j=k
    ·rw [e]; exact hne
    ·exact hf j (by omega)
   ·exact lz fun _=>rfl
   ·show n - (k+1) < n - k
    omega
 ·refine fun (hg:decide ((k:Int) < (n:Int))=false)=>?_
  have h1:¬ (k:Int) < (n:Int):=of_decide_eq_false hg
  have hkl:k=n:=by omega
  subst hkl
  have e:-1=sZ f v k:=(O4 hf).symm
  repeat' (first|apply And.intro|exact trivial|exact rfl|exact e)
def g56:List Nat:=[0,1,4]
def c56:aH :=
 .seq (.region g56 [(zo 4 (.move cF))]) (.seq (.region g56 [(mv 5 0),(mv 6 1),(zo 7 (.call (.c (.fn 77)) [.s 5,.s 6])),(zo 8 (.bin (.geq) (.s 7) (cj 0))),(mv 4 8)]) .ret)
theorem e56:aI Tryz.prog 56 g56 [] [] []=some (c56,[.slot 4],9):=by kernel_rfl
def Sa:Eng.Spec where
 X:=Sq B×B
 args:=fun x=>.cons (stE x.1) (.cons (.str x.2) .nil)
 pre:=fun x=>x.1.n<=1000000
 res:=fun x=>.bool (decide (∃ i,i < x.1.n/\x.1.f i=x.2))
 inst:=Pg.inst
theorem Oi:Sa.Ok Tryz.prog 56:=by
 refine Eng.Spec.okR e56 .nil (fun _=>[(77,.p Pg)]) (fun _ _=>aA.p Ph aA.nil) ?_
 rintro ⟨⟨n,f⟩,v⟩ (hn:n<=1000000)
 refine ⟨trivial,?_⟩
 have e:decide (sZ f v n>=0)=decide (∃ i,i < n/\f i=v):=Kz
 repeat' (first|apply And.intro|exact trivial|exact rfl|exact lz fun _=>rfl|exact hn|exact e)
end S3
