/- A part of the proof. -/
import Derived.Test.YtijddkljgihcnaaGreatDoorS2
import Derived.Test.YtijddkljgihcnaaGreatDoorS27
import Derived.Test.YtijddkljgihcnaaGreatDoorEV0
open Go Go.Eng Go.Proofs G4 L3 L10 G1 G3 EV0 B1 B2 S1 S2 S3
set_option maxRecDepth 100000
namespace S4
attribute [local irreducible] dst
def g20:List Nat:=[18,20,22,19,28,30,27,56,7,5,29,61,63,60,8,9,83,62,3,86,4,90,21,0,10,2]
def c20:aH :=
 .seq (.region g20 [(zo 2 (.move cF))]) (.seq (.seq (.region g20 [(mv 11 0),(zo 12 (.lenSl (.s 11))),(zo 13 (.bin (.lss) (.s 12) (cj 1))),(mv 14 13),(mg 15 14 false 0),(zg 16 14 false (.lenSl (.s 15))),(zg 17 14 false (.bin (.gtr) (.s 16) (cj 64))),(zo 18 (.pick (.s 14) cT (.s 17)))]) (.cond (.s 18) (.seq (.region g20 [(zo 2 (.move cF))]) .ret) .skip)) (.seq .skip (.seq (.seq (.region g20 [(mv 19 0),(zo 20 (.lenSl (.s 19))),(zo 21 (.move (cj 0)))]) (.block 0 (.loop 0 [22,23,24,25,4,3,26,27,28,30,31,32,7,33,34,35,36,37,38,39,40,41,42,43,44,45,46,47,48,49,50,51,52,53,54,55,56,57,5,58,29,59,60,61,63,64,65,66,8,9,67,68,69,70,71,72,73,74,75,76,77,78,79,80,81,82,83,84,62,85,86,87,88,89,90,2,91,21] (.seq (.region g20 [(zo 22 (.bin (.lss) (.s 21) (.s 20)))]) (.seq (.cond (.s 22) .skip (.exit 0)) (.seq (.block 1 (.seq (.region g20 [(mv 23 21),(zo 24 (.idxSl 2 (.s 19) (.s 21))),(zo 25 (.load 2 true (.s 24))),(zo 4 (.alloc 44 (.cons (.nilsl) (.cons (.nilsl) .nil)))),(mv 3 23),⟨none,none,.store 2 (.s 4) (.s 25),[]⟩]) (.seq (.region g20 [(zo 5 (.move (cj (-1))))]) (.seq (.seq (.region g20 [(fa 26 0 4),(ld 27 26),(zo 28 (.lenSl (.s 27))),(zo 29 (.move (cj 0)))]) (.block 2 (.loop 1 [30,31,32,7,33,34,35,36,37,38,39,40,41,42,43,44,45,46,47,48,49,50,51,52,53,54,55,56,2,57,5,58,29] (.seq (.region g20 [(zo 30 (.bin (.lss) (.s 29) (.s 28)))]) (.seq (.cond (.s 30) .skip (.exit 2)) (.seq (.block 3 (.seq (.region g20 [(zo 31 (.idxSl 1 (.s 27) (.s 29))),(ld 32 31),(mv 7 32)]) (.seq (.seq (.region g20 [(mv 33 7),(mv 34 5),(zo 35 (.bin (.leq) (.s 33) (.s 34))),(mv 36 35),(mg 37 36 false 7),(mg 38 36 false 0),(zg 39 36 false (.lenSl (.s 38))),(zg 40 36 false (.bin (.geq) (.s 37) (.s 39))),(zo 41 (.pick (.s 36) cT (.s 40))),(mv 42 41),(mg 43 42 false 7),(mg 44 42 false 3),(zg 45 42 false (.bin (.eql) (.s 43) (.s 44))),(zo 46 (.pick (.s 42) cT (.s 45))),(mv 47 46),(mg 48 47 false 0),(mg 49 47 false 7),(zg 50 47 false (.idxSl 2 (.s 48) (.s 49))),(fg 51 47 false 0 50),(lg 52 47 false 51),(mg 53 47 false 3),(zg 54 47 false (.call (.c (.fn 40)) [.s 52,.s 53])),(zg 55 47 false (.not (.s 54))),(zo 56 (.pick (.s 47) cT (.s 55)))]) (.cond (.s 56) (.seq (.region g20 [(zo 2 (.move cF))]) .ret) .skip)) (.region g20 [(mv 57 7),(mv 5 57)])))) (.region g20 [(zo 58 (.bin (.add) (.s 29) (cj 1))),(mv 29 58)]))))))) (.seq (.seq (.region g20 [(fa 59 1 4),(ld 60 59),(zo 61 (.lenSl (.s 60))),(zo 62 (.move (cj 0)))]) (.block 4 (.loop 2 [63,64,65,66,8,9,67,68,69,70,71,72,73,74,75,76,77,78,79,80,81,82,83,2,84,62] (.seq (.region g20 [(zo 63 (.bin (.lss) (.s 62) (.s 61)))]) (.seq (.cond (.s 63) .skip (.exit 4)) (.seq (.block 5 (.seq (.region g20 [(mv 64 62),(zo 65 (.idxSl 1 (.s 60) (.s 62))),(ld 66 65),(mv 8 64),(mv 9 66)]) (.seq (.region g20 [(mv 67 9),(zo 68 (.call (.c (.fn 41)) [.s 67])),(zo 69 (.not (.s 68))),(mv 70 69),(mg 71 70 false 8),(zg 72 70 false (.bin (.gtr) (.s 71) (cj 0))),(mg 73 70 false 72),(fg 74 73 true 1 4),(lg 75 73 true 74),(mg 76 73 true 8),(zg 77 73 true (.bin (.sub) (.s 76) (cj 1))),(zg 78 73 true (.idxSl 1 (.s 75) (.s 77))),(lg 79 73 true 78),(mg 80 73 true 9),(zg 81 73 true (.bin (.geq) (.s 79) (.s 80))),(zg 82 70 false (.pick (.s 73) (.s 81) cF)),(zo 83 (.pick (.s 70) cT (.s 82)))]) (.cond (.s 83) (.seq (.region g20 [(zo 2 (.move cF))]) .ret) .skip)))) (.region g20 [(zo 84 (.bin (.add) (.s 62) (cj 1))),(mv 62 84)]))))))) (.seq (.seq (.region g20 [(mv 85 3),(zo 86 (.bin (.eql) (.s 85) (cj 0)))]) (.cond (.s 86) (.exit 1) .skip)) (.seq (.region g20 [(fa 87 0 4),(ld 88 87),(zo 89 (.lenSl (.s 88))),(zo 90 (.bin (.eql) (.s 89) (cj 0)))]) (.cond (.s 90) (.seq (.region g20 [(zo 2 (.move cF))]) .ret) .skip)))))))) (.region g20 [(zo 91 (.bin (.add) (.s 21) (cj 1))),(mv 21 91)]))))))) (.seq (.region g20 [(mv 92 0),(zo 93 (.call (.c (.fn 31)) [.s 92,cj 0])),(zo 10 (.alloc 76 (.zeros .i64 64 .nil))),⟨none,none,.store 64 (.s 10) (.s 93),[]⟩]) (.seq (.region g20 [(mv 94 0),(zo 95 (.lenSl (.s 94))),(zo 96 (.arrCut 64 (.s 10) (.s 95))),(zo 97 (.call (.c (.fn 40)) [.s 96,cj 64])),(zo 98 (.not (.s 97))),(mv 2 98)]) .ret)))))
theorem e20:aI Tryz.prog 20 g20 [] [] []=some (c20,[.slot 2],99):=by kernel_rfl
structure okO (l:Sq Of):Prop where
 ln:∀ i,i < l.n->(l.f i).links.n<=1000000
 cn:∀ i,i < l.n->okS (l.f i).codes okT
def lst (s:Sq Int) (j:Nat):Int:=if j=0 then -1 else s.f (j - 1)
def lkB (l:Sq Of) (i j:Nat):Bool:=((decide ((l.f i).links.f j<=lst (l.f i).links j) || decide ((l.n:Int)<=(l.f i).links.f j)) || decide ((l.f i).links.f j=(i:Int))) || !decide (∃ q,q < (l.f ((l.f i).links.f j).toNat).links.n/\(l.f ((l.f i).links.f j).toNat).links.f q=(i:Int))
def coB (s:Sq B) (j:Nat):Bool:=!dL (s.f j) || (decide ((0:Int) < (j:Int)) && !Op.bytesLess (s.f ((j:Int) - 1).toNat) (s.f j))
def lE (l:Sq Of) (i:Nat):Bool:=orB (lkB l i) (l.f i).links.n || (orB (coB (l.f i).codes) (l.f i).codes.n || (!decide ((i:Int)=0) && decide (((l.f i).links.n:Int)=0)))
noncomputable def vdV (l:Sq Of):Bool:=!((decide ((l.n:Int) < 1) || decide ((64:Int) < (l.n:Int))) || orB (lE l) l.n) && !decide (∃ i,i < l.n/\((dst (EO l) 0 i:Nat):Int)=64)
noncomputable def vdS:Eng.Spec where
 X:=Sq Of
 args:=fun x=>.cons (ofE x) .nil
 pre:=fun x=>x.n<=1000000/\(x.n<=64->okO x)
 res:=fun x=>.bool (vdV x)
 inst:=EV0.one ofD
theorem I4 {l:Sq Of} {i:Nat} (h:orB (lkB l i) (l.f i).links.n=false):∀ j,j < (l.f i).links.n->0<=(l.f i).links.f j/\(l.f i).links.f j < (l.n:Int):=by
 have all:∀ j,j < (l.f i).links.n->lst (l.f i).links j < (l.f i).links.f j/\(l.f i).links.f j < (l.n:Int):=fun j hj=>by
  have:=aS.1 h j hj
  unfold lkB at this
  simp only [Bool.or_eq_false_iff,decide_eq_false_iff_not] at this
  omega
 intro j
 induction j with
 | zero =>
  intro hj
  have:=all 0 hj
  unfold lst at this
  rw [if_pos rfl] at this
  omega
 | succ j ih =>
  intro hj
  have h1:=all (j+1) hj
  have h2:=ih (by omega)
  unfold lst at h1
  rw [if_neg (by omega),show j+1 - 1=j by omega] at h1
  omega
theorem Q4 {l:Sq Of} {i j:Nat} (h:orB (lkB l i) j=false) (_:j<=(l.f i).links.n):-1<=lst (l.f i).links j:=by
 unfold lst
 split
 ·exact Int.le_refl _
 ·have key:∀ m,m < j->0<=(l.f i).links.f m:=by
   intro m
   induction m with
   | zero =>
    intro hm
    have:=aS.1 h 0 hm
    unfold lkB lst at this
    simp only [Bool.or_eq_false_iff,decide_eq_false_iff_not,if_true] at this
    omega
   | succ m ih =>
    intro hm
    have h1:=aS.1 h (m+1) hm
    have h2:=ih (by omega)
    unfold lkB lst at h1
    simp only [Bool.or_eq_false_iff,decide_eq_false_iff_not] at h1
    rw [if_neg (by omega),show m+1 - 1=m by omega] at h1
    omega
  have:=key (j - 1) (by omega)
  omega
theorem I6 (s:Sq Int) (j:Nat):s.f j=lst s (j+1):=by
 unfold lst
 rw [if_neg (by omega),show j+1 - 1=j by omega]
theorem As:vdS.Ok Tryz.prog 20:=by
 refine Eng.Spec.okR e20 .nil (fun _=>[(40,.p Ls),(41,.p qR),(31,.p Nr)]) (fun _ _=>aA.p Bd (aA.p Ri (aA.p C8 aA.nil))) ?_
 rintro (l:Sq Of) ⟨(hn:l.n<=1000000),hok⟩
 refine ⟨trivial,?_⟩
 repeat' (first|apply And.intro|exact trivial|exact rfl|exact lz fun _=>rfl|exact S1.zz rfl)
 ·refine fun (hc:aE (decide ((l.n:Int) < 1)) cT (.s 17) true (decide ((64:Int) < (l.n:Int)))=true)=>?_
  rw [aD] at hc
  have e:false=vdV l:=by unfold vdV; rw [hc]; rfl
  repeat' (first|exact e|apply And.intro|exact trivial|exact rfl|exact lz fun _=>rfl|exact S1.zz rfl)
 refine fun (hc:aE (decide ((l.n:Int) < 1)) cT (.s 17) true (decide ((64:Int) < (l.n:Int)))=false)=>?_
 rw [aD] at hc
 have h1:1<=l.n:=by have:=of_decide_eq_false (Bool.or_eq_false_iff.1 hc).1; omega
 have h64:l.n<=64:=by have:=of_decide_eq_false (Bool.or_eq_false_iff.1 hc).2; omega
 have ok:=hok h64
 repeat' (first|apply And.intro|exact trivial|exact rfl|exact lz fun _=>rfl|exact S1.zz rfl)
 refine ⟨⟨Nat,fun i=>i<=l.n/\orB (lE l) i=false,fun i=>[(21,.int .i64 (i:Int))],fun _=>[],fun i=>l.n - i⟩,0,⟨Nat.zero_le _,rfl⟩,?_,?_⟩
 ·repeat' (first|apply And.intro|exact trivial|exact rfl|exact lz fun _=>rfl|exact S1.zz rfl)
 rintro (i:Nat) ⟨(hi:i<=l.n),(hf:orB (lE l) i=false)⟩
 repeat' (first|apply And.intro|exact trivial|exact rfl|exact lz fun _=>rfl|exact S1.zz rfl)
 ·refine fun (h:decide ((i:Int) < (l.n:Int))=true)=>?_
  have hil:i < l.n:=by have:=of_decide_eq_true h; omega
  have a0:(0:Int)<=(i:Int):=by omega
  have a1:(i:Int) < (l.n:Int):=by omega
  have a2:-9223372036854775808<=(i:Int)+1:=by omega
  have a3:(i:Int)+1<=9223372036854775807:=by omega
  have hln:=ok.ln i hil
  obtain ⟨hcn,hct⟩:=ok.cn i hil
  have bad:lE l i=true->false=vdV l:=fun ho=>by
   unfold vdV
   rw [aO.2 ⟨i,hil,ho⟩,Bool.or_true]
   rfl
  repeat' (first|with_reducible exact a0|with_reducible exact a1|with_reducible exact a2|with_reducible exact a3|apply And.intro|exact trivial|exact rfl|exact lz fun _=>rfl|exact S1.zz rfl)
  refine ⟨⟨Nat,fun j=>j<=(l.f i).links.n/\orB (lkB l i) j=false,fun j=>[(29,.int .i64 (j:Int)),(5,.int .i64 (lst (l.f i).links j))],fun _=>[],fun j=>(l.f i).links.n - j⟩,0,⟨Nat.zero_le _,rfl⟩,?_,?_⟩
  ·repeat' (first|apply And.intro|exact trivial|exact rfl|exact lz fun _=>rfl|exact S1.zz rfl)
  rintro (j:Nat) ⟨(hj:j<=(l.f i).links.n),(hg:orB (lkB l i) j=false)⟩
  repeat' (first|apply And.intro|exact trivial|exact rfl|exact lz fun _=>rfl|exact S1.zz rfl)
  ·refine fun (h:decide ((j:Int) < ((l.f (i:Int).toNat).links.n:Int))=true)=>?_
   have hjl:j < (l.f i).links.n:=by have:=of_decide_eq_true h; simp at this; omega
   have b0:(0:Int)<=(j:Int):=by omega
   have b1:(j:Int) < ((l.f (i:Int).toNat).links.n:Int):=by simp; omega
   have b2:-9223372036854775808<=(j:Int)+1:=by omega
   have b3:(j:Int)+1<=9223372036854775807:=by omega
   have hlst:=Q4 hg hj
   have rng:∀ k1 k2:Nat,aE (aE (decide ((l.f (i:Int).toNat).links.f (j:Int).toNat<=lst (l.f i).links j)) cT (.s k1) true (decide ((l.n:Int)<=(l.f (i:Int).toNat).links.f (j:Int).toNat))) cT (.s k2) true (decide ((l.f (i:Int).toNat).links.f (j:Int).toNat=(i:Int)))=false ->
     0<=(l.f (i:Int).toNat).links.f (j:Int).toNat/\(l.f (i:Int).toNat).links.f (j:Int).toNat < (l.n:Int):=fun k1 k2 h=>by
    rw [aD,aD] at h
    simp only [Bool.or_eq_false_iff,decide_eq_false_iff_not] at h
    omega
   have eB:∀ k1 k2 k3:Nat,aE (aE (aE (decide ((l.f (i:Int).toNat).links.f (j:Int).toNat<=lst (l.f i).links j)) cT (.s k1) true (decide ((l.n:Int)<=(l.f (i:Int).toNat).links.f (j:Int).toNat))) cT (.s k2) true (decide ((l.f (i:Int).toNat).links.f (j:Int).toNat=(i:Int)))) cT (.s k3) true
     (!decide (∃ q,q < (l.f ((l.f (i:Int).toNat).links.f (j:Int).toNat).toNat).links.n/\(l.f ((l.f (i:Int).toNat).links.f (j:Int).toNat).toNat).links.f q=(i:Int)))=lkB l i j:=fun k1 k2 k3=>by
    rw [aD,aD,aD]; rfl
   repeat' (first|with_reducible exact b0|with_reducible exact b1|with_reducible exact b2|with_reducible exact b3|apply And.intro|exact trivial|exact rfl|exact lz fun _=>rfl|exact S1.zz rfl)
   ·exact fun hp=>rng _ _ hp
   ·exact fun hp=>by
     have:=rng _ _ hp
     refine And.intro (ok.ln _ (by omega)) ?_
     repeat' (first|apply And.intro|exact trivial|exact rfl|exact lz fun _=>rfl|exact S1.zz rfl)
   ·refine fun (hb0:aE _ cT (.s 55) true _=true)=>?_
    have hb:lkB l i j=true:=(eB 40 45 55).symm.trans hb0
    have e:false=vdV l:=bad (by
     unfold lE
     rw [aO.2 ⟨j,hjl,hb⟩]
     rfl)
    repeat' (first|exact e|apply And.intro|exact trivial|exact rfl|exact lz fun _=>rfl|exact S1.zz rfl)
   ·refine fun (hb0:aE _ cT (.s 55) true _=false)=>?_
    have hb:lkB l i j=false:=(eB 40 45 55).symm.trans hb0
    have hg1:orB (lkB l i) (j+1)=false:=by
     simp only [orB]
     rw [hg,hb]
     rfl
    have es:(l.f (i:Int).toNat).links.f (j:Int).toNat=lst (l.f i).links (j+1):=I6 _ _
    have em:(l.f i).links.n - (j+1) < (l.f i).links.n - j:=by omega
    repeat' (first|with_reducible exact b2|with_reducible exact b3|apply And.intro|exact trivial|exact rfl|exact lz fun _=>rfl|exact S1.zz rfl)
    refine Exists.intro (j+1) (And.intro ⟨hjl,hg1⟩ ?_)
    repeat' (first|exact es|exact em|apply And.intro|exact trivial|exact rfl|exact lz fun _=>rfl|exact S1.zz rfl)
  ·refine fun (h:decide ((j:Int) < ((l.f (i:Int).toNat).links.n:Int))=false)=>?_
   have hjl:j=(l.f i).links.n:=by have:=of_decide_eq_false h; simp at this; omega
   subst hjl
   repeat' (first|apply And.intro|exact trivial|exact rfl|exact lz fun _=>rfl|exact S1.zz rfl)
   refine ⟨⟨Nat,fun j=>j<=(l.f i).codes.n/\orB (coB (l.f i).codes) j=false,fun j=>[(62,.int .i64 (j:Int))],fun _=>[],fun j=>(l.f i).codes.n - j⟩,0,⟨Nat.zero_le _,rfl⟩,?_,?_⟩
   ·repeat' (first|apply And.intro|exact trivial|exact rfl|exact lz fun _=>rfl|exact S1.zz rfl)
   rintro (j:Nat) ⟨(hj:j<=(l.f i).codes.n),(hg2:orB (coB (l.f i).codes) j=false)⟩
   repeat' (first|apply And.intro|exact trivial|exact rfl|exact lz fun _=>rfl|exact S1.zz rfl)
   ·refine fun (h:decide ((j:Int) < ((l.f (i:Int).toNat).codes.n:Int))=true)=>?_
    have hjl:j < (l.f i).codes.n:=by have:=of_decide_eq_true h; simp at this; omega
    have hj0:=hct j hjl
    have b0:(0:Int)<=(j:Int):=by omega
    have b1:(j:Int) < ((l.f (i:Int).toNat).codes.n:Int):=by simp; omega
    have b2:-9223372036854775808<=(j:Int)+1:=by omega
    have b3:(j:Int)+1<=9223372036854775807:=by omega
    have eC:∀ k1 k2:Nat,aE (!dL ((l.f (i:Int).toNat).codes.f (j:Int).toNat)) cT (.s k1) true (aE (decide ((0:Int) < (j:Int))) (.s k2) cF (!Op.bytesLess ((l.f (i:Int).toNat).codes.f ((j:Int) - 1).toNat) ((l.f (i:Int).toNat).codes.f (j:Int).toNat)) false)=coB (l.f i).codes j:=fun k1 k2=>by
     rw [aD,aF]; rfl
    repeat' (first|with_reducible exact b0|with_reducible exact b1|with_reducible exact b2|with_reducible exact b3|exact hj0|apply And.intro|exact trivial|exact rfl|exact lz fun _=>rfl|exact S1.zz rfl)
    ·exact fun hg=>by constructor <;> omega
    ·exact fun hg=>by have:=of_decide_eq_true hg.1; constructor <;> omega
    ·refine fun (hb0:aE _ cT (.s 82) true _=true)=>?_
     have hb:coB (l.f i).codes j=true:=(eC 82 81).symm.trans hb0
     have e:false=vdV l:=bad (by
      unfold lE
      rw [aO.2 ⟨j,hjl,hb⟩,Bool.true_or,Bool.or_true])
     repeat' (first|exact e|apply And.intro|exact trivial|exact rfl|exact lz fun _=>rfl|exact S1.zz rfl)
    ·refine fun (hb0:aE _ cT (.s 82) true _=false)=>?_
     have hb:coB (l.f i).codes j=false:=(eC 82 81).symm.trans hb0
     have hg1:orB (coB (l.f i).codes) (j+1)=false:=by
      simp only [orB]
      rw [hg2,hb]
      rfl
     have em:(l.f i).codes.n - (j+1) < (l.f i).codes.n - j:=by omega
     repeat' (first|with_reducible exact b2|with_reducible exact b3|apply And.intro|exact trivial|exact rfl|exact lz fun _=>rfl|exact S1.zz rfl)
     refine Exists.intro (j+1) (And.intro ⟨hjl,hg1⟩ ?_)
     repeat' (first|exact em|apply And.intro|exact trivial|exact rfl|exact lz fun _=>rfl|exact S1.zz rfl)
   ·refine fun (h:decide ((j:Int) < ((l.f (i:Int).toNat).codes.n:Int))=false)=>?_
    have hjl:j=(l.f i).codes.n:=by have:=of_decide_eq_false h; simp at this; omega
    subst hjl
    have em:l.n - (i+1) < l.n - i:=by omega
    have fin:(decide ((i:Int)=0)=true\/decide (((l.f (i:Int).toNat).links.n:Int)=0)=false)->orB (lE l) (i+1)=false:=fun h=>by
     simp only [orB]
     rw [hf,Bool.false_or]
     unfold lE
     rw [hg,hg2,Bool.false_or,Bool.false_or]
     rcases h with h|h
     ·rw [h]; rfl
     ·rw [show decide (((l.f i).links.n:Int)=0)=false from h,Bool.and_false]
    repeat' (first|apply And.intro|exact trivial|exact rfl|exact lz fun _=>rfl|exact S1.zz rfl)
    ·refine fun (hz:decide ((i:Int)=0)=true)=>?_
     have hg1:=fin (.inl hz)
     repeat' (first|with_reducible exact a2|with_reducible exact a3|apply And.intro|exact trivial|exact rfl|exact lz fun _=>rfl|exact S1.zz rfl)
     refine Exists.intro (i+1) (And.intro ⟨hil,hg1⟩ ?_)
     repeat' (first|exact em|apply And.intro|exact trivial|exact rfl|exact lz fun _=>rfl|exact S1.zz rfl)
    ·refine fun (hz:decide ((i:Int)=0)=false)=>?_
     repeat' (first|apply And.intro|exact trivial|exact rfl|exact lz fun _=>rfl|exact S1.zz rfl)
     ·refine fun (hy:decide (((l.f (i:Int).toNat).links.n:Int)=0)=true)=>?_
      have e:false=vdV l:=bad (by
       unfold lE
       rw [hz,show decide (((l.f i).links.n:Int)=0)=true from hy]
       simp)
      repeat' (first|exact e|apply And.intro|exact trivial|exact rfl|exact lz fun _=>rfl|exact S1.zz rfl)
     ·refine fun (hy:decide (((l.f (i:Int).toNat).links.n:Int)=0)=false)=>?_
      have hg1:=fin (.inr hy)
      repeat' (first|with_reducible exact a2|with_reducible exact a3|apply And.intro|exact trivial|exact rfl|exact lz fun _=>rfl|exact S1.zz rfl)
      refine Exists.intro (i+1) (And.intro ⟨hil,hg1⟩ ?_)
      repeat' (first|exact em|apply And.intro|exact trivial|exact rfl|exact lz fun _=>rfl|exact S1.zz rfl)
 ·refine fun (h:decide ((i:Int) < (l.n:Int))=false)=>?_
  have hil:i=l.n:=by have:=of_decide_eq_false h; omega
  subst hil
  have hr:Ac l:=⟨h64,ok.ln,fun i hi j hj=>by
   have h1:=aS.1 hf i hi
   unfold lE at h1
   rw [Bool.or_eq_false_iff] at h1
   exact I4 h1.1 j hj⟩
  have z0:(0:Int)<=0:=Int.le_refl _
  have z1:(0:Int) < (l.n:Int):=by omega
  have z2:(0:Int)<=(l.n:Int):=by omega
  have z3:(l.n:Int)<=((64:Nat):Int):=by omega
  have z4:(l.n:Int).toNat<=1000000:=hn
  have e:(!decide (∃ i,i < (l.n:Int).toNat/\((dst (EO l) (0:Int).toNat i:Nat):Int)=64))=vdV l:=by
   unfold vdV
   rw [hc,hf]
   rfl
  repeat' (first|exact hr|with_reducible exact z0|with_reducible exact z1|with_reducible exact z2|with_reducible exact z3|with_reducible exact z4|exact Nat.le_refl 64|exact e|apply And.intro|exact trivial|exact rfl|exact lz fun _=>rfl|exact S1.zz rfl)
  exact hn
end S4
