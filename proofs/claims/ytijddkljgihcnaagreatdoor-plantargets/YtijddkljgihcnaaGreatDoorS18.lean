/- A part of the proof. -/
import Derived.Test.YtijddkljgihcnaaGreatDoorS14
import Derived.Test.YtijddkljgihcnaaGreatDoorF6
section
open Go Go.Eng Go.Proofs F1 F6 F10 G7 G4 L3 L10 G1 G3 EV0 S1 S10 S11 S12 S13 S14
set_option maxRecDepth 100000
namespace S15
def g69:List Nat:=[4,0,2]
def c69:aH :=
 .seq (.region g69 [(zo 2 (.move (.c (.nilsl))))]) (.seq (.seq (.region g69 [(mv 3 0),(zo 4 (.slNil false (.s 3) (.c (.nilsl))))]) (.cond (.s 4) (.seq (.region g69 [(zo 2 (.move (.c (.nilsl))))]) .ret) .skip)) (.seq (.region g69 [(zo 5 (.buildSl 9 1 0 (.cons (.str []) .nil) [])),(mv 6 0),(zo 7 (.app 9 1 16 (.s 5) (.s 6))),(mv 2 7)]) .ret))
theorem e69:aI Tryz.prog 69 g69 [] [] []=some (c69,[.slot 2],8):=by kernel_rfl
def Tw:Eng.bZ where
 X:=Sq B
 Y:=Unit
 args:=fun x=>.cons (stE x) .nil
 pre:=fun x=>x.n<=10000000
 h0:=fun _=>[]
 nx0:=0
 post:=fun _ _=>True
 res:=fun x _=>.lsl 0 1 x.n
 h1:=fun x _=>[(0,.arr 9 1 x.n fun j=>stL (x.f j))]
 nx1:=1
theorem Pr:Tw.Ok Tryz.prog 69:=by
 refine Eng.bZ.okR e69 .nil (fun _=>[]) (fun _ _=>aA.nil) ?_
 rintro (r:Sq B) (hn:r.n<=10000000)
 have m1:r.n<=9223372036854775807:=by omega
 have m2:r.n * 16<=140737488355328:=by omega
 refine ⟨trivial,?_⟩
 repeat' (first|apply And.intro|exact trivial|exact rfl|exact lz fun _=>rfl)
 refine fun (b:Bool) (hb:0 < r.n->b=false)=>?_
 refine And.intro (fun (h:b=true)=>?_) (fun (h:b=false)=>?_)
 ·have h0:0=r.n:=by
   rcases Nat.eq_zero_or_pos r.n with e|e
   ·exact e.symm
   ·rw [hb e] at h; cases h
  refine Exists.intro () ?_
  repeat' (first|exact h0|exact h0.symm|apply And.intro|exact trivial|exact rfl|exact lz fun _=>rfl)
 ·repeat' (first|exact m1|exact m2|exact fun (j:Nat) (_:j < _)=>(rfl:dX (stL _)=true)|apply And.intro|exact trivial|exact rfl|exact lz fun _=>rfl)
  refine Exists.intro () ?_
  repeat' (first|exact m1|exact m2|apply And.intro|exact trivial|exact rfl|exact lz fun _=>rfl)
end S15
end
section
open Go Go.Eng Go.Proofs F1 F6 F10 G7 G4 L3 L10 G1 G3 EV0 S1 S10 S11 S12 S13 S14 S15
set_option maxRecDepth 100000
namespace S16
theorem uZ {b:Bool} (h:(!b)=true):b=false:=by simpa using h
theorem qT {b:Bool} (h:(!b)=false):b=true:=by simpa using h
def ddL (f:Nat->B):Nat->List B
 | 0=>[]
 | m+1=>if m=0 then [f 0] else if f m=f (m - 1) then ddL f m else ddL f m++[f m]
def lsR (f:Nat->B) (n:Nat):List B:=(List.range n).map f
theorem zK (f:Nat->B) (n:Nat):lsR f (n+1)=lsR f n++[f n]:=by
 unfold lsR
 rw [List.range_succ,List.map_append]
 rfl
theorem Fk {f g:Nat->B} {n:Nat} (h:∀ i,i < n->f i=g i):lsR f n=lsR g n:=List.map_congr_left fun i hi=>h i (List.mem_range.1 hi)
def xQ (c:Nat->B) (k:Nat) (q:B):Nat->B:=fun j=>bif Nat.beq j k then q else c j
theorem Tf (c:Nat->B) (k:Nat) (q:B):xQ c k q k=q:=by unfold xQ; rw [Nat.beq_refl]; rfl
theorem Kx (c:Nat->B) {k j:Nat} (q:B) (h:j≠k):xQ c k q j=c j:=by
 unfold xQ
 cases hb:Nat.beq j k with
 | false=>rfl
 | true=>exact absurd (Nat.eq_of_beq_eq_true hb) h
theorem cC {K:Keep} {hp:List (Nat×aG)} {m n k:Nat} {c:Nat->B} {q:B}:∀ j,j < n->oQ K (sub K hp (m+4)) (bif Nat.beq j k then stL q else stL (c j)) (stL (xQ c k q j)):=by
 intro j _
 unfold xQ
 cases Nat.beq j k with
 | true=>exact Or.inl (bX _ _ _ _)
 | false=>exact Or.inl (bX _ _ _ _)
structure C2 where
 k2:Nat
 k:Nat
 c:Nat->B
structure Iv (r:(Sq B)) (k0:Nat) (x:C2):Prop where
 a1:1<=x.k2
 a2:k0+x.k2<=r.n
 b1:1<=x.k
 b2:x.k+1<=k0+x.k2
 eq:lsR x.c x.k=ddL r.f (k0+x.k2)
 rest:∀ j,k0+x.k2<=j+1->j < r.n->x.c j=r.f j
noncomputable def T4:Eng.bZ where
 X:=(Sq B)
 Y:=(Sq B)
 args:=fun r=>.cons (.lsl 0 1 r.n) .nil
 pre:=fun r=>r.n<=10000000
 h0:=fun r=>[(0,.arr 9 1 r.n fun i=>stL (r.f i))]
 nx0:=1
 post:=fun r y=>y.n<=r.n/\lsR y.f y.n=ddL r.f r.n
 res:=fun _ y=>.osl 0 1 0 y.n
 h1:=fun _ y=>[(0,.arr 9 1 y.n fun i=>stL (y.f i))]
 nx1:=1
def g71:List Nat:=[8,13,25,32,44,4,5,3,0,2]
def c71:aH :=
 .seq (.region g71 [(zo 2 (.move (.c (.nilsl))))]) (.seq (.seq (.region g71 [(mv 6 0),(zo 7 (.lenSl (.s 6))),(zo 8 (.bin (.lss) (.s 7) (cj 2)))]) (.cond (.s 8) (.seq (.region g71 [(mv 9 0),(mv 2 9)]) .ret) .skip)) (.seq (.seq (.region g71 [(zo 3 (.move (cj 1)))]) (.block 0 (.loop 0 [10,11,12,13,16,17,18,19,20,21,22,23,24,25,26,27,28,4,29,30,31,32,35,36,37,38,39,40,41,42,43,44,45,46,47,48,49,50,51,52,53,33,34,5,54,55,56,57,58,59,2,14,15,3] (.seq (.seq (.region g71 [(mv 10 3),(mv 11 0),(zo 12 (.lenSl (.s 11))),(zo 13 (.bin (.lss) (.s 10) (.s 12)))]) (.cond (.s 13) .skip (.exit 0))) (.seq (.block 1 (.seq (.drawn g71 (.pure 0 (mv 16 0) (.pure 1 (mv 17 3) (.pure 2 (zo 18 (.idxSl 1 (.s 16) (.s 17))) (.pure 3 (ld 19 18) (.pure 4 (mv 20 0) (.pure 5 (mv 21 3) (.pure 6 (zo 22 (.bin (.sub) (.s 21) (cj 1))) (.pure 7 (zo 23 (.idxSl 1 (.s 20) (.s 22))) (.pure 8 (ld 24 23) (.pure 9 (zo 25 (.bin (.eql) (.s 19) (.s 24))) .done))))))))))) (.cond (.s 25) (.seq (.region g71 [(mv 26 0),(mv 27 3),(zo 28 (.sliceSl 1 (.s 26) (some (.s 27)) none)),(mv 4 28)]) (.seq (.seq (.region g71 [(zo 5 (.move (cj 1)))]) (.block 2 (.loop 1 [29,30,31,32,35,36,37,38,39,40,41,42,43,44,45,46,47,48,49,50,51,52,53,3,33,34,5] (.seq (.seq (.region g71 [(mv 29 5),(mv 30 4),(zo 31 (.lenSl (.s 30))),(zo 32 (.bin (.lss) (.s 29) (.s 31)))]) (.cond (.s 32) .skip (.exit 2))) (.seq (.block 3 (.seq (.drawn g71 (.pure 0 (mv 35 4) (.pure 1 (mv 36 5) (.pure 2 (zo 37 (.idxSl 1 (.s 35) (.s 36))) (.pure 3 (ld 38 37) (.pure 4 (mv 39 4) (.pure 5 (mv 40 5) (.pure 6 (zo 41 (.bin (.sub) (.s 40) (cj 1))) (.pure 7 (zo 42 (.idxSl 1 (.s 39) (.s 41))) (.pure 8 (ld 43 42) (.pure 9 (zo 44 (.bin (.neq) (.s 38) (.s 43))) .done))))))))))) (.cond (.s 44) (.seq (.region g71 [(mv 45 0),(mv 46 3),(mv 47 4),(mv 48 5),(zo 49 (.idxSl 1 (.s 47) (.s 48))),(ld 50 49),(zo 51 (.idxSl 1 (.s 45) (.s 46))),⟨none,none,.store 1 (.s 51) (.s 50),[]⟩]) (.region g71 [(mv 52 3),(zo 53 (.bin (.add) (.s 52) (cj 1))),(mv 3 53)])) .skip))) (.region g71 [(mv 33 5),(zo 34 (.bin (.add) (.s 33) (cj 1))),(mv 5 34)])))))) (.seq (.region g71 [(mv 54 0),(mv 55 3),(zo 56 (.sliceSl 1 (.s 54) (some (.s 55)) none)),⟨none,none,.clr 1 (.s 56),[]⟩]) (.seq (.region g71 [(mv 57 0),(mv 58 3),(zo 59 (.sliceSl 1 (.s 57) none (some (.s 58)))),(mv 2 59)]) .ret)))) .skip))) (.region g71 [(mv 14 3),(zo 15 (.bin (.add) (.s 14) (cj 1))),(mv 3 15)])))))) (.seq (.region g71 [(mv 60 0),(mv 2 60)]) .ret)))
theorem e71:aI Tryz.prog 71 g71 [] [] []=some (c71,[.slot 2],61):=by kernel_rfl
theorem Py:T4.Ok Tryz.prog 71:=by
 refine Eng.bZ.okR e71 .nil (fun _=>[]) (fun _ _=>aA.nil) ?_
 rintro (r:Sq B) (hn:r.n<=10000000)
 refine ⟨trivial,?_⟩
 repeat' (first|apply And.intro|exact trivial|exact rfl|exact lz fun _=>rfl|exact cC)
 ·refine fun (h:decide ((r.n:Int) < 2)=true)=>?_
  have h2:(r.n:Int) < 2:=of_decide_eq_true h
  have hp:r.n<=r.n/\lsR r.f r.n=ddL r.f r.n:=by
   refine ⟨Nat.le_refl _,?_⟩
   have:r.n=0\/r.n=1:=by omega
   rcases this with e|e <;> rw [e] <;> rfl
  repeat' (first|apply And.intro|exact trivial|exact rfl|exact lz fun _=>rfl|exact cC)
  refine Exists.intro r (And.intro hp ?_)
  repeat' (first|apply And.intro|exact trivial|exact rfl|exact lz fun _=>rfl|exact cC)
 refine fun (h:decide ((r.n:Int) < 2)=false)=>?_
 have h2:2<=r.n:=by have:=of_decide_eq_false h; omega
 clear h
 repeat' (first|apply And.intro|exact trivial|exact rfl|exact lz fun _=>rfl|exact cC)
 refine ⟨⟨Nat,fun k=>(1<=k/\k<=r.n)/\ddL r.f k=lsR r.f k,fun k=>[(3,.int .i64 (k:Int))],fun _=>[],fun k=>r.n - k⟩,1,⟨⟨Nat.le_refl _,by omega⟩,rfl⟩,?_,?_⟩
 ·repeat' (first|apply And.intro|exact trivial|exact rfl|exact lz fun _=>rfl|exact cC)
 rintro (k:Nat) ⟨⟨(hk1:1<=k),(hk2:k<=r.n)⟩,(hk3:ddL r.f k=lsR r.f k)⟩
 repeat' (first|apply And.intro|exact trivial|exact rfl|exact lz fun _=>rfl|exact cC)
 ·refine fun (h:decide ((k:Int) < (r.n:Int))=true)=>?_
  have hi1:(k:Int) < (r.n:Int):=of_decide_eq_true h
  have hkl:k < r.n:=by omega
  have hi0:(0:Int)<=(k:Int):=by omega
  have b1:-9223372036854775808<=(k:Int)+1:=by omega
  have b2:(k:Int)+1<=9223372036854775807:=by omega
  have c1:-9223372036854775808<=(k:Int) - 1:=by omega
  have c2:(k:Int) - 1<=9223372036854775807:=by omega
  have c3:0<=(k:Int) - 1:=by omega
  have c4:(k:Int) - 1 < (r.n:Int):=by omega
  have hi2:(k:Int)<=(r.n:Int):=by omega
  have d1:0+(k:Int).toNat < r.n:=by omega
  have d2:0+((k:Int) - 1).toNat < r.n:=by omega
  have t1:0+(k:Int).toNat=k:=by omega
  have t2:0+((k:Int) - 1).toNat=k - 1:=by omega
  repeat' (first|with_reducible exact hi1|with_reducible exact hi0|with_reducible exact c1|with_reducible exact c2|with_reducible exact c3|with_reducible exact c4|with_reducible exact d1|with_reducible exact d2|apply And.intro|exact trivial|exact rfl|exact lz fun _=>rfl|exact cC)
  ·refine fun (h:decide (r.f (0+(k:Int).toNat)=r.f (0+((k:Int) - 1).toNat))=true)=>?_
   replace h:=of_decide_eq_true h
   rw [t1,t2] at h
   have hst:ddL r.f (k+1)=lsR r.f k:=by
    rw [<- hk3]
    simp only [ddL]
    rw [if_neg (by omega),if_pos h]
   have hlt:0<=(k:Int)/\(k:Int)<=(r.n:Int):=⟨hi0,hi2⟩
   repeat' (first|with_reducible exact hi0|with_reducible exact hi2|apply And.intro|exact trivial|exact rfl|exact lz fun _=>rfl|exact cC)
   refine ⟨⟨C2,Iv r k,fun x=>[(3,.int .i64 (x.k:Int)),(5,.int .i64 (x.k2:Int))],fun x=>[(0,.arr 9 1 r.n fun j=>stL (x.c j))],fun x=>r.n - x.k2⟩,⟨1,k,r.f⟩,⟨Nat.le_refl _,hkl,hk1,Nat.le_refl _,hst.symm,fun _ _ _=>rfl⟩,?_,?_⟩
   ·repeat' (first|apply And.intro|exact trivial|exact rfl|exact lz fun _=>rfl|exact cC)
   rintro ⟨k2,kw,c⟩ ⟨ha1,ha2,hb1,hb2,heq,hrest⟩
   replace ha1:1<=k2:=ha1
   replace ha2:k+k2<=r.n:=ha2
   replace hb1:1<=kw:=hb1
   replace hb2:kw+1<=k+k2:=hb2
   replace heq:lsR c kw=ddL r.f (k+k2):=heq
   replace hrest:∀ j,k+k2<=j+1->j < r.n->c j=r.f j:=hrest
   repeat' (first|apply And.intro|exact trivial|exact rfl|exact lz fun _=>rfl|exact cC)
   ·refine fun (h:decide ((k2:Int) < ((r.n - (k:Int).toNat:Nat):Int))=true)=>?_
    have g0:(k2:Int) < ((r.n - (k:Int).toNat:Nat):Int):=of_decide_eq_true h
    have g1:(0:Int)<=(k2:Int):=by omega
    have g2:-9223372036854775808<=(k2:Int) - 1:=by omega
    have g3:(k2:Int) - 1<=9223372036854775807:=by omega
    have g4:0<=(k2:Int) - 1:=by omega
    have g5:(k2:Int) - 1 < ((r.n - (k:Int).toNat:Nat):Int):=by omega
    have g6:-9223372036854775808<=(k2:Int)+1:=by omega
    have g7:(k2:Int)+1<=9223372036854775807:=by omega
    have g8:0+(k:Int).toNat+(k2:Int).toNat < r.n:=by omega
    have g9:0+(k:Int).toNat+((k2:Int) - 1).toNat < r.n:=by omega
    have s1:0+(k:Int).toNat+(k2:Int).toNat=k+k2:=by omega
    have s2:0+(k:Int).toNat+((k2:Int) - 1).toNat=k+k2 - 1:=by omega
    have w1:c (k+k2)=r.f (k+k2):=hrest _ (by omega) (by omega)
    have w2:c (k+k2 - 1)=r.f (k+k2 - 1):=hrest _ (by omega) (by omega)
    repeat' (first|with_reducible exact g0|with_reducible exact g1|with_reducible exact g2|with_reducible exact g3|with_reducible exact g4|with_reducible exact g5|with_reducible exact g8|with_reducible exact g9|apply And.intro|exact trivial|exact rfl|exact lz fun _=>rfl|exact cC)
    ·refine fun (h:(!decide (c (0+(k:Int).toNat+(k2:Int).toNat)=c (0+(k:Int).toNat+((k2:Int) - 1).toNat)))=true)=>?_
     have hne:r.f (k+k2)≠r.f (k+k2 - 1):=fun e=>by
      have:=of_decide_eq_false (uZ h)
      rw [s1,s2,w1,w2] at this
      exact this e
     have v1:(0:Int)<=(kw:Int):=by omega
     have v2:(kw:Int) < (r.n:Int):=by omega
     have v3:0+(kw:Int).toNat < r.n:=by omega
     have v4:-9223372036854775808<=(kw:Int)+1:=by omega
     have v5:(kw:Int)+1<=9223372036854775807:=by omega
     repeat' (first|with_reducible exact g0|with_reducible exact g1|with_reducible exact g6|with_reducible exact g7|with_reducible exact g8|with_reducible exact v1|with_reducible exact v2|with_reducible exact v3|with_reducible exact v4|with_reducible exact v5|apply And.intro|exact trivial|exact rfl|exact lz fun _=>rfl|exact cC)
     refine Exists.intro (C2.mk (k2+1) (kw+1) (xQ c (0+(kw:Int).toNat) (c (0+(k:Int).toNat+(k2:Int).toNat)))) ?_
     have t3:0+(kw:Int).toNat=kw:=by omega
     refine And.intro ⟨by dsimp only; omega,by dsimp only; omega,by dsimp only; omega,by dsimp only; omega,?_,?_⟩ ?_
     ·show lsR (xQ c (0+(kw:Int).toNat) (c (0+(k:Int).toNat+(k2:Int).toNat))) (kw+1)=ddL r.f (k+(k2+1))
      rw [t3,s1,zK,Tf,Fk (g:=c) (fun i hi=>Kx c _ (by omega)),heq,w1]
      show _=ddL r.f (k+k2+1)
      simp only [ddL]
      rw [if_neg (by omega),if_neg hne]
     ·intro j hj hjn
      replace hj:k+(k2+1)<=j+1:=hj
      show xQ c (0+(kw:Int).toNat) (c (0+(k:Int).toNat+(k2:Int).toNat)) j=r.f j
      rw [t3,Kx c _ (by omega)]
      exact hrest j (by omega) hjn
     repeat' (first|apply And.intro|exact trivial|exact rfl|exact lz fun _=>rfl|exact cC)
     show r.n - (k2+1) < r.n - k2
     omega
    ·refine fun (h:(!decide (c (0+(k:Int).toNat+(k2:Int).toNat)=c (0+(k:Int).toNat+((k2:Int) - 1).toNat)))=false)=>?_
     have he:r.f (k+k2)=r.f (k+k2 - 1):=by
      have:=of_decide_eq_true (qT h)
      rw [s1,s2,w1,w2] at this
      exact this
     repeat' (first|with_reducible exact g6|with_reducible exact g7|apply And.intro|exact trivial|exact rfl|exact lz fun _=>rfl|exact cC)
     refine Exists.intro (C2.mk (k2+1) kw c) ?_
     refine And.intro ⟨by dsimp only; omega,by dsimp only; omega,hb1,by dsimp only; omega,?_,fun j hj hjn=>hrest j (by replace hj:k+(k2+1)<=j+1:=hj; omega) hjn⟩ ?_
     ·show lsR c kw=ddL r.f (k+k2+1)
      rw [heq]
      simp only [ddL]
      rw [if_neg (by omega),if_pos he]
     repeat' (first|apply And.intro|exact trivial|exact rfl|exact lz fun _=>rfl|exact cC)
     show r.n - (k2+1) < r.n - k2
     omega
   ·refine fun (h:decide ((k2:Int) < ((r.n - (k:Int).toNat:Nat):Int))=false)=>?_
    have g0:¬ (k2:Int) < ((r.n - (k:Int).toNat:Nat):Int):=of_decide_eq_false h
    have e2:k+k2=r.n:=by omega
    have v1:(0:Int)<=(kw:Int):=by omega
    have v2:(kw:Int)<=(r.n:Int):=by omega
    have v3:0 < 0+(kw:Int).toNat:=by omega
    have v4:0+(kw:Int).toNat<=r.n:=by omega
    have v5:0+(kw:Int).toNat=kw:=by omega
    repeat' (first|with_reducible exact v1|with_reducible exact v2|with_reducible exact v3|with_reducible exact v4|apply And.intro|exact trivial|exact rfl|exact lz fun _=>rfl|exact cC)
    refine Exists.intro (Sq.mk kw c) (And.intro ⟨show kw<=r.n by omega,?_⟩ ?_)
    ·show lsR c kw=ddL r.f r.n
     rw [heq,e2]
    repeat' (first|with_reducible exact v5|apply And.intro|exact trivial|exact rfl|exact lz fun _=>rfl|exact cC)
  ·refine fun (h:decide (r.f (0+(k:Int).toNat)=r.f (0+((k:Int) - 1).toNat))=false)=>?_
   have hne:r.f k≠r.f (k - 1):=fun e=>by
    have:=of_decide_eq_false h
    rw [t1,t2] at this
    exact this e
   have hst:ddL r.f (k+1)=lsR r.f (k+1):=by
    rw [zK,<- hk3]
    simp only [ddL]
    rw [if_neg (by omega),if_neg hne]
   repeat' (first|with_reducible exact b1|with_reducible exact b2|apply And.intro|exact trivial|exact rfl|exact lz fun _=>rfl|exact cC)
   refine Exists.intro (k+1) ?_
   refine And.intro (And.intro ⟨Nat.le_add_left _ _,hkl⟩ hst) ?_
   repeat' (first|apply And.intro|exact trivial|exact rfl|exact lz fun _=>rfl|exact cC)
   show r.n - (k+1) < r.n - k
   omega
 ·refine fun (h:decide ((k:Int) < (r.n:Int))=false)=>?_
  have hi1:¬ (k:Int) < (r.n:Int):=of_decide_eq_false h
  have ek:k=r.n:=by omega
  repeat' (first|apply And.intro|exact trivial|exact rfl|exact lz fun _=>rfl|exact cC)
  refine Exists.intro r (And.intro ⟨Nat.le_refl _,?_⟩ ?_)
  ·show lsR r.f r.n=ddL r.f r.n
   rw [<- ek]
   exact hk3.symm
  repeat' (first|apply And.intro|exact trivial|exact rfl|exact lz fun _=>rfl|exact cC)
end S16
end
section
open Go Go.Eng Go.Proofs F1 F6 F10 G7 G4 L3 L10 G1 G3 EV0 S1 S10 S11 S12 S13 S14 S15
set_option maxRecDepth 100000
namespace S17
theorem lR (f:Nat->Bool):∀ n:Nat,aZ f n < (n:Int):=by
 intro n
 induction n with
 | zero=>exact (by decide:(-1:Int) < 0)
 | succ n ih =>
  simp only [aZ]
  split
  ·omega
  ·split <;> omega
def g106:List Nat:=[0,2,1,3]
def c106:aH :=
 .seq (.region g106 [(zo 2 (.box 122 (.s 0))),(zo 3 (.move cF))]) (.seq (.region g106 [(zo 4 (.idxArr 2 1 (.s 2) (cj 1))),(ld 5 4),(ld 6 1),(zo 7 (.bin (.eql) (.s 5) (.s 6))),(mv 3 7)]) .ret)
theorem e106:aI Tryz.prog 106 g106 [] [] []=some (c106,[.slot 3],8):=by kernel_rfl
def tkP (c:Int) (x:Pt):Bool:=decide (x.2=c)
def tk0:Eng.Spec where
 X:=Pt×Int
 args:=fun x=>.cons (.agg (ptL x.1)) (.cons (.cptr (.cons (.int .i64 x.2) .nil)) .nil)
 pre:=fun _=>True
 res:=fun x=>.bool (tkP x.2 x.1)
 inst:=fun
  | .cons (.agg c) (.cons (.cptr (.cons (.int _ z) _)) _)=>some ((aP (aJ c 0),aP (aJ c 1)),z)
  | _=>none
theorem Sz:tk0.Ok Tryz.prog 106:=by
 refine Eng.Spec.okR e106 .nil (fun _=>[]) (fun _ _=>aA.nil) ?_
 rintro ⟨x,c⟩ _
 refine ⟨trivial,?_⟩
 repeat' (first|apply And.intro|exact trivial|exact rfl|exact lz fun _=>rfl)
def g174:List Nat:=[7,9,1,0,16,5,8,4]
def c174:aH :=
 .seq (.region g174 [(zo 4 (.move (cj 0)))]) (.seq (.seq (.region g174 [(mv 6 0),(zo 7 (.lenSl (.s 6))),(zo 8 (.move (cj 0)))]) (.block 0 (.loop 0 [9,10,5,11,12,13,14,15,16,17,4,18,8] (.seq (.region g174 [(zo 9 (.bin (.lss) (.s 8) (.s 7)))]) (.seq (.cond (.s 9) .skip (.exit 0)) (.seq (.block 1 (.seq (.region g174 [(mv 10 8),(mv 5 10)]) (.seq (.region g174 [(mv 11 1),(mv 12 0),(mv 13 5),(zo 14 (.idxSl 2 (.s 12) (.s 13))),(zo 15 (.load 2 true (.s 14))),(zo 16 (.call (.s 11) [.s 15]))]) (.cond (.s 16) (.seq (.region g174 [(mv 17 5),(mv 4 17)]) .ret) .skip)))) (.region g174 [(zo 18 (.bin (.add) (.s 8) (cj 1))),(mv 8 18)]))))))) (.seq (.region g174 [(zo 4 (.move (cj (-1))))]) .ret))
theorem e174:aI Tryz.prog 174 g174 [] [] []=some (c174,[.slot 4],19):=by kernel_rfl
def g105:List Nat:=[0,1,4]
def c105:aH :=
 .seq (.region g105 [(zo 4 (.move (cj 0)))]) (.seq (.region g105 [(mv 5 0),(mv 6 1),(zo 7 (.call (.c (.fn 174)) [.s 5,.s 6])),(mv 4 7)]) .ret)
theorem e105:aI Tryz.prog 105 g105 [] [] []=some (c105,[.slot 4],8):=by kernel_rfl
def tkI:Eng.Spec where
 X:=Pts×Int
 args:=fun x=>.cons (rgE x.1) (.cons (.fn 106 (.cons (.cptr (.cons (.int .i64 x.2) .nil)) .nil)) .nil)
 pre:=fun x=>x.1.n<=1000000
 res:=fun x=>.int .i64 (aZ (fun i=>tkP x.2 (x.1.p i)) x.1.n)
 inst:=fun
  | .cons a (.cons (.fn _ (.cons (.cptr (.cons c _)) _)) .nil)=>match pW a,tY c with
   | some r,some c=>some (r,c)
   | _,_=>none
  | _=>none
theorem S0:tkI.Ok Tryz.prog 174:=by
 refine Eng.Spec.okR e174 .nil (fun _=>[(106,.p tk0)]) (fun _ _=>aA.p Sz aA.nil) ?_
 rintro ⟨r,c⟩ (hn:r.n<=1000000)
 refine ⟨trivial,?_⟩
 repeat' (first|apply And.intro|exact trivial|exact rfl|exact lz fun _=>rfl|exact fun (j:Nat) (hj:j < _)=>Or.inl (aN _ _ _ _ ))
 refine ⟨⟨Nat,fun i=>i<=r.n/\orB (fun i=>tkP c (r.p i)) i=false,fun i=>[(8,.int .i64 (i:Int))],fun _=>[],fun i=>r.n - i⟩,0,⟨Nat.zero_le _,rfl⟩,?_,?_⟩
 ·repeat' (first|apply And.intro|exact trivial|exact rfl|exact lz fun _=>rfl|exact fun (j:Nat) (hj:j < _)=>Or.inl (aN _ _ _ _ ))
 rintro (i:Nat) ⟨(hi:i<=r.n),(hf:orB (fun i=>tkP c (r.p i)) i=false)⟩
 repeat' (first|apply And.intro|exact trivial|exact rfl|exact lz fun _=>rfl|exact fun (j:Nat) (hj:j < _)=>Or.inl (aN _ _ _ _ ))
 ·refine fun (h:decide ((i:Int) < (r.n:Int))=true)=>?_
  have hi1:(i:Int) < (r.n:Int):=of_decide_eq_true h
  have hil:i < r.n:=by omega
  have hi0:(0:Int)<=(i:Int):=by omega
  have b1:-9223372036854775808<=(i:Int)+1:=by omega
  have b2:(i:Int)+1<=9223372036854775807:=by omega
  repeat' (first|with_reducible exact hi1|with_reducible exact hi0|apply And.intro|exact trivial|exact rfl|exact lz fun _=>rfl)
  ·refine fun (hc:tkP c (r.p i)=true)=>?_
   have e:(i:Int)=aZ (fun i=>tkP c (r.p i)) r.n:=(cI hf hc hil).symm
   repeat' (first|exact e|apply And.intro|exact trivial|exact rfl|exact lz fun _=>rfl)
  ·refine fun (hc:tkP c (r.p i)=false)=>?_
   have hf1:orB (fun i=>tkP c (r.p i)) (i+1)=false:=by
    simp only [orB]
    rw [hf]
    exact hc
   repeat' (first|with_reducible exact b1|with_reducible exact b2|apply And.intro|exact trivial|exact rfl|exact lz fun _=>rfl)
   refine Exists.intro (i+1) ?_
   refine And.intro (And.intro hil hf1) ?_
   repeat' (first|apply And.intro|exact trivial|exact rfl|exact lz fun _=>rfl|exact fun (j:Nat) (hj:j < _)=>Or.inl (aN _ _ _ _ ))
   show r.n - (i+1) < r.n - i
   omega
 ·refine fun (h:decide ((i:Int) < (r.n:Int))=false)=>?_
  have hi1:¬ (i:Int) < (r.n:Int):=of_decide_eq_false h
  have e:i=r.n:=by omega
  have ef:-1=aZ (fun i=>tkP c (r.p i)) r.n:=by rw [<- e,cA hf]
  repeat' (first|exact ef|apply And.intro|exact trivial|exact rfl|exact lz fun _=>rfl)
def tkS:Eng.Spec where
 X:=Pts×Int
 args:=tkI.args
 pre:=fun x=>x.1.n<=1000000
 res:=tkI.res
 inst:=tkI.inst
theorem Wr:tkS.Ok Tryz.prog 105:=by
 refine Eng.Spec.okR e105 .nil (fun _=>[(174,.p tkI)]) (fun _ _=>aA.p S0 aA.nil) ?_
 rintro ⟨r,c⟩ (hn:r.n<=1000000)
 refine ⟨trivial,?_⟩
 repeat' (first|exact hn|apply And.intro|exact trivial|exact rfl|exact lz fun _=>rfl|exact fun (j:Nat) (hj:j < _)=>Or.inl (aN _ _ _ _ ))
def g72:List Nat:=[0,1,3,11,2,5,4]
def c72:aH :=
 .seq (.region g72 [(zo 2 (.box 30 (.s 0))),(zo 3 (.box 3 (.s 1))),(zo 4 (.move (cj 0)))]) (.seq (.seq (.region g72 [(fa 6 5 2),(ld 7 6),(zo 8 (.mkfn 106 [.s 3])),(zo 9 (.call (.c (.fn 105)) [.s 7,.s 8])),(mv 5 9)]) (.seq (.region g72 [(mv 10 5),(zo 11 (.bin (.geq) (.s 10) (cj 0)))]) (.cond (.s 11) (.seq (.region g72 [(fa 12 5 2),(ld 13 12),(mv 14 5),(zo 15 (.idxSl 2 (.s 13) (.s 14))),(zo 16 (.idxArr 2 1 (.s 15) (cj 0))),(ld 17 16),(mv 4 17)]) .ret) .skip))) (.seq (.region g72 [(zo 4 (.move (cj (-1))))]) .ret))
theorem e72:aI Tryz.prog 72 g72 [] [] []=some (c72,[.slot 4],18):=by kernel_rfl
def tkJ (s:Sta) (a:Int):Int:=aZ (fun i=>tkP a (s.merged.p i)) s.merged.n
def tkV (s:Sta) (a:Int):Int:=if 0<=tkJ s a then (s.merged.p (tkJ s a).toNat).1 else -1
def Ws:Eng.Spec where
 X:=Sta×Int
 args:=fun x=>.cons (kM x.1) (.cons (.int .i64 x.2) .nil)
 pre:=fun x=>x.1.merged.n<=1000000
 res:=fun x=>.int .i64 (tkV x.1 x.2)
 inst:=EV0.two rF tY
theorem Ta:Ws.Ok Tryz.prog 72:=by
 refine Eng.Spec.okR e72 .nil (fun _=>[(105,.p tkS)]) (fun _ _=>aA.p Wr aA.nil) ?_
 rintro ⟨s,a⟩ (hn:s.merged.n<=1000000)
 refine ⟨trivial,?_⟩
 repeat' (first|exact hn|apply And.intro|exact trivial|exact rfl|exact lz fun _=>rfl|exact S1.zz rfl)
 ·refine fun (h:decide (0<=tkJ s a)=true)=>?_
  have h0:0<=tkJ s a:=of_decide_eq_true h
  have h1:tkJ s a < (s.merged.n:Int):=lR _ _
  have e:(s.merged.p (0+(tkJ s a).toNat)).1=tkV s a:=by unfold tkV; rw [if_pos h0,Nat.zero_add]
  have e':(s.merged.p (tkJ s a).toNat).1=tkV s a:=by unfold tkV; rw [if_pos h0]
  repeat' (first|exact h0|exact h1|exact e|exact e'|apply And.intro|exact trivial|exact rfl|exact lz fun _=>rfl|exact S1.zz rfl)
 ·refine fun (h:decide (0<=tkJ s a)=false)=>?_
  have h0:¬ 0<=tkJ s a:=of_decide_eq_false h
  have e:-1=tkV s a:=by unfold tkV; rw [if_neg h0]
  repeat' (first|exact e|apply And.intro|exact trivial|exact rfl|exact lz fun _=>rfl|exact S1.zz rfl)
end S17
end
section
open Go Go.Eng Go.Proofs F1 F2 F6 F10 G7 G4 L3 L10 G1 G3 EV0 S1 S10 S11 S12 S13 S14 S15
set_option maxRecDepth 100000
namespace S18
def nuS (x:Dr):Bool:=!decide (x.ended=-1) || !decide (x.veil=[])
def nuK (x:Dr):aK:=.t [.s x.str,.n .i64 x.num.n,.s x.num.l,.n .i64 x.num.num,.n .i64 x.num.den]
def nuL (l:Sq Dr):Nat->List (aK×Unit×Nat)
 | 0=>[]
 | k+1=>if nuS (l.f k)=true then nuL l k else nuL l k++[(nuK (l.f k),(),(nuL l k).length)]
def nuB (l:Sq Dr) (i:Nat):Bool:=!nuS (l.f i) && (mget (nuL l i) (nuK (l.f i))).isSome
def rC (s:Sta):Bool:=!orB (nuB s.doors) s.doors.n
theorem Jf {l:Sq Dr} {k:Nat} (h:nuS (l.f k)=true):nuL l (k+1)=nuL l k:=by simp only [nuL]; rw [if_pos h]
theorem Jg {l:Sq Dr} {k:Nat} (h:nuS (l.f k)=false):nuL l (k+1)=nuL l k++[(nuK (l.f k),(),(nuL l k).length)]:=by simp only [nuL]; rw [if_neg (by rw [h]; decide)]
theorem Je {l:Sq Dr} {k:Nat} (h:nuS (l.f k)=true):nuB l k=false:=by unfold nuB; rw [h]; rfl
theorem M7 {l:Sq Dr} {k:Nat} (h:nuS (l.f k)=false) {u:Unit} {t:Nat} (hm:mget (nuL l k) (nuK (l.f k))=some (u,t)):nuB l k=true:=by unfold nuB; rw [h,hm]; rfl
theorem Jd {l:Sq Dr} {k:Nat} (hm:mget (nuL l k) (nuK (l.f k))=none):nuB l k=false:=by unfold nuB; rw [hm]; cases nuS (l.f k) <;> rfl
theorem wV {f:Nat->Bool} {n:Nat} (h:orB f n=false) (hc:f n=false):orB f (n+1)=false:=by
 simp only [orB]
 rw [h,hc]
 rfl
def g50:List Nat:=[0,1,10,12,9,5,27,30,3,6,11,2]
def c50:aH :=
 .seq (.region g50 [(zo 1 (.box 30 (.s 0))),(zo 2 (.move cF))]) (.seq (.region g50 [(zo 7 (.mkmap (.t [KPK.s,KPK.n .i64,KPK.s,KPK.n .i64,KPK.n .i64]))),(mv 3 7)]) (.seq (.seq (.region g50 [(fa 8 3 1),(ld 9 8),(zo 10 (.lenSl (.s 9))),(zo 11 (.move (cj 0)))]) (.block 0 (.loop 0 [12,13,14,5,15,16,17,18,19,6,20,21,22,23,24,25,26,27,28,29,30,2,31,32,33,11] (.seq (.region g50 [(zo 12 (.bin (.lss) (.s 11) (.s 10)))]) (.seq (.cond (.s 12) .skip (.exit 0)) (.seq (.block 1 (.seq (.region g50 [(zo 13 (.idxSl 16 (.s 9) (.s 11))),(zo 14 (.load 16 true (.s 13))),(zo 5 (.alloc 55 (.cons (.str []) (.cons (.str []) (.cons (.str []) (.cons (.int .i64 0) (.cons (.int .i64 0) (.cons (.str []) (.cons (.int .i64 0) (.cons (.int .i64 0) (.cons (.int .i64 0) (.cons (.int .i64 0) (.cons (.int .i64 0) (.cons (.int .i64 0) (.cons (.nilsl) (.cons (.int .i64 0) (.cons (.int .i64 0) (.cons (.str []) .nil)))))))))))))))))),⟨none,none,.store 16 (.s 5) (.s 14),[]⟩]) (.seq (.region g50 [(fa 15 2 5),(ld 16 15),(fa 17 4 5),(zo 18 (.load 4 true (.s 17))),(zo 19 (.build (.cons (.str []) (.cons (.int .i64 0) (.cons (.str []) (.cons (.int .i64 0) (.cons (.int .i64 0) .nil))))) [(0,1,.s 16),(1,4,.s 18)])),(zo 6 (.alloc 120 (.cons (.str []) (.cons (.int .i64 0) (.cons (.str []) (.cons (.int .i64 0) (.cons (.int .i64 0) .nil))))))),⟨none,none,.store 5 (.s 6) (.s 19),[]⟩]) (.seq (.seq (.region g50 [(fa 20 11 5),(ld 21 20),(zo 22 (.bin (.neq) (.s 21) (cj (-1)))),(mv 23 22),(fg 24 23 false 15 5),(lg 25 23 false 24),(zg 26 23 false (.bin (.neq) (.s 25) (.c (.str [])))),(zo 27 (.pick (.s 23) cT (.s 26)))]) (.cond (.s 27) (.exit 1) .skip)) (.seq (.seq (.region g50 [(mv 28 3),(zo 29 (.load 5 true (.s 6))),(zo 30 (.mlook (.bool false) false (.t [KPK.s,KPK.n .i64,KPK.s,KPK.n .i64,KPK.n .i64]) (.s 28) (.s 29)))]) (.cond (.s 30) (.seq (.region g50 [(zo 2 (.move cF))]) .ret) .skip)) (.region g50 [(mv 31 3),(zo 32 (.load 5 true (.s 6))),⟨none,none,.mupd (.t [KPK.s,KPK.n .i64,KPK.s,KPK.n .i64,KPK.n .i64]) (.s 31) (.s 32) cT,[]⟩])))))) (.region g50 [(zo 33 (.bin (.add) (.s 11) (cj 1))),(mv 11 33)]))))))) (.seq (.region g50 [(zo 2 (.move cT))]) .ret)))
theorem e50:aI Tryz.prog 50 g50 [] [] []=some (c50,[.slot 2],34):=by kernel_rfl
def Vi:Eng.Spec where
 X:=Sta
 args:=fun x=>.cons (kM x) .nil
 pre:=fun x=>x.doors.n<=1000000
 res:=fun x=>.bool (rC x)
 inst:=EV0.one rF
theorem Rp:Vi.Ok Tryz.prog 50:=by
 refine Eng.Spec.okR e50 .nil (fun _=>[]) (fun _ _=>aA.nil) ?_
 rintro (s:Sta) (hn:s.doors.n<=1000000)
 refine ⟨trivial,?_⟩
 repeat' (first|apply And.intro|exact trivial|exact rfl|exact lz fun _=>rfl|exact S1.zz rfl|refine gd ?_)
 refine ⟨⟨Nat,fun k=>k<=s.doors.n/\orB (nuB s.doors) k=false,fun k=>[(11,.int .i64 (k:Int))],fun k=>[(1,.map Unit (.t [KPK.s,KPK.n .i64,KPK.s,KPK.n .i64,KPK.n .i64]) (nuL s.doors k) (nuL s.doors k).length (fun _=>.bool true) Aq)],fun k=>s.doors.n - k⟩,0,⟨Nat.zero_le _,rfl⟩,?_,?_⟩
 ·repeat' (first|apply And.intro|exact trivial|exact rfl|exact lz fun _=>rfl|exact S1.zz rfl|refine gd ?_)
  exact fun i x y (hx:([]:List (aK×SV×Nat))[i]?=some x)=>by cases hx
 rintro (k:Nat) ⟨(hk:k<=s.doors.n),(hf:orB (nuB s.doors) k=false)⟩
 repeat' (first|apply And.intro|exact trivial|exact rfl|exact lz fun _=>rfl|exact S1.zz rfl|refine gd ?_)
 ·refine fun (h:decide ((k:Int) < (s.doors.n:Int))=true)=>?_
  have hi1:(k:Int) < (s.doors.n:Int):=of_decide_eq_true h
  have hil:k < s.doors.n:=by omega
  have hi0:(0:Int)<=(k:Int):=by omega
  have b1:-9223372036854775808<=(k:Int)+1:=by omega
  have b2:(k:Int)+1<=9223372036854775807:=by omega
  have em:s.doors.n - (k+1) < s.doors.n - k:=by omega
  repeat' (first|with_reducible exact hi1|with_reducible exact hi0|apply And.intro|exact trivial|exact rfl|exact lz fun _=>rfl|exact S1.zz rfl|refine gd ?_)
  ·refine fun hc0=>?_
   have hs:nuS (s.doors.f k)=true:=by
    have:=hc0
    rw [aD] at this
    exact this
   have e1:nuL s.doors k=nuL s.doors (k+1):=(Jf hs).symm
   have e2:(nuL s.doors k).length=(nuL s.doors (k+1)).length:=by rw [<- e1]
   have e3:=congrArg List.length e1
   repeat' (first|with_reducible exact b1|with_reducible exact b2|apply And.intro|exact trivial|exact rfl|exact lz fun _=>rfl|exact S1.zz rfl|refine gd ?_)
   refine Exists.intro (k+1) (And.intro (And.intro hil (wV hf (Je hs))) ?_)
   repeat' (first|with_reducible exact em|apply And.intro|exact trivial|exact rfl|exact lz fun _=>rfl|exact S1.zz rfl|refine gd ?_|exact e2|exact e3|exact jA e1 _ _ _)
  ·refine fun hc0=>?_
   have hs:nuS (s.doors.f k)=false:=by
    have:=hc0
    rw [aD] at this
    exact this
   repeat' (first|apply And.intro|exact trivial|exact rfl|exact lz fun _=>rfl|exact S1.zz rfl|refine gd ?_)
   refine dC.mk (fun (u:Unit) (t:Nat) (hm:mget (nuL s.doors k) (nuK (s.doors.f k))=some (u,t))=>?_) (fun (hm:mget (nuL s.doors k) (nuK (s.doors.f k))=none)=>?_)
   ·have e:false=rC s:=by unfold rC; rw [aO.2 ⟨k,hil,M7 hs hm⟩]; rfl
    repeat' (first|exact e|exact fun (h:true=false)=>Bool.noConfusion h|(refine fun (_:true=true)=>?_)|apply And.intro|exact trivial|exact rfl|exact lz fun _=>rfl|exact S1.zz rfl|refine gd ?_)
   ·have e1:nuL s.doors k++[(nuK (s.doors.f k),(),(nuL s.doors k).length)]=nuL s.doors (k+1):=(Jg hs).symm
    have e2:(nuL s.doors k).length+1=(nuL s.doors (k+1)).length:=by rw [<- e1,List.length_append]; rfl
    have e3:=congrArg List.length e1
    repeat' (first|exact fun (h:false=true)=>Bool.noConfusion h|(refine fun (_:false=false)=>?_)|apply And.intro|exact trivial|exact rfl|exact lz fun _=>rfl|exact S1.zz rfl|refine gd ?_)
    refine dC.jU hm ?_
    repeat' (first|with_reducible exact b1|with_reducible exact b2|apply And.intro|exact trivial|exact rfl|exact lz fun _=>rfl|exact S1.zz rfl|refine gd ?_)
    refine Exists.intro (k+1) (And.intro (And.intro hil (wV hf (Jd hm))) ?_)
    repeat' (first|with_reducible exact em|apply And.intro|exact trivial|exact rfl|exact lz fun _=>rfl|exact S1.zz rfl|refine gd ?_|exact e2|exact e3|exact jA e1 _ _ _)
 ·refine fun (h:decide ((k:Int) < (s.doors.n:Int))=false)=>?_
  obtain rfl:k=s.doors.n:=by have:=of_decide_eq_false h; omega
  have e:true=rC s:=by unfold rC; rw [hf]; rfl
  repeat' (first|exact e|apply And.intro|exact trivial|exact rfl|exact lz fun _=>rfl|exact S1.zz rfl|refine gd ?_)
end S18
end
