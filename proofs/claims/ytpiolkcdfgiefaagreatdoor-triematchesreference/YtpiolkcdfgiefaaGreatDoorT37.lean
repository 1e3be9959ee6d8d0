/- A part of the proof. -/
import Derived.Test.YtpiolkcdfgiefaaGreatDoorT34
import Derived.Test.YtpiolkcdfgiefaaGreatDoorD14
open Go Go.Eng Go.Proofs A0 T1 T2 T3 T4 T5 T6 T7 T8 T9 T10 T11 T12 T13 T14 T17 T18 T19 T20 T21 T22 T23 T24 T25 T26 T27 T28 T30 T31 T33 D3 D6 D9 D10 D11 D12 D13 D14 T34 T35
set_option maxRecDepth 100000
namespace T37
def Sz:bC:=Zn.mof Bool (λx y=>y=Ae x) (λ_ y=>.bool y)
theorem Gz:Sz.Ok Tryz.prog 12:=Eng.Spec.jW Xj λ_ _=>⟨_,rfl,rfl⟩
theorem Ec{S:List Ky}{v:Ky}(h:v∈S):∃i,i<S.length/\S.getD i k0=v/\jJ S v=(i:Int):=by
 cases e:(List.range S.length).find? (λi=>decide (S.getD i k0=v)) with
 |none =>
  obtain⟨i,hi,rfl⟩:=bG h;have:=kA.1 e i (eP.2 hi);simp[hi]at this
 |some i =>
  obtain⟨h1,h2,_⟩:=List.find?_range_eq_some.1 e;refine⟨i,eP.1 h2,of_decide_eq_true h1,?_⟩;unfold jJ;rw[e]
theorem Lu{S:List Ky}{v:Ky}(h:v∉S):jJ S v=-1:=Ry λj hj e=>h (by
 rw[<- e,aK,aM hj];exact eM hj)
theorem aAy{k:Keep}{hp:List (Nat×aL)}{S:List Ky}{i n:Nat}(hi:i<S.length):∀j,j<n->lM k (sub k hp 200) (gH (i:Int).toNat (λj=>jN (S.getD (0+j) k0)) (λj=>jN (S.getD (0+((i:Int)+1).toNat+j) k0)) j) (jN ((S.take i++S.drop (i+1)).getD j k0)):=by
 intro j _;have e:gH (i:Int).toNat (λj=>jN (S.getD (0+j) k0)) (λj=>jN (S.getD (0+((i:Int)+1).toNat+j) k0)) j=jN ((S.take i++S.drop (i+1)).getD j k0):=by
  have t0:(i:Int).toNat=i:=by omega
  have t1:((i:Int)+1).toNat=i+1:=by omega
  unfold gH;rw[wX,t0,t1];split
  .rename_i h;show jN (S.getD (0+j) k0)=_;rw[aP,aK,aK,cH (by rw[eN]; omega),List.getElem?_take_of_lt h]
  .show jN (S.getD (0+(i+1)+(j-i)) k0)=_;rw[aK,aK,dA (by rw[eN]; omega),cY,eN,Nat.min_eq_left (Nat.le_of_lt hi),aP]
 rw[e];exact Or.inl (kI _ _ _ _)
attribute [local irreducible] D9.Dd D6.mQ iK T19.fK
end T37
