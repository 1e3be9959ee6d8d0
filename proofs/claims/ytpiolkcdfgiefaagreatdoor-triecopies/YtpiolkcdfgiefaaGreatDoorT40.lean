/- A part of the proof. -/
import Derived.Test.YtpiolkcdfgiefaaGreatDoorX7
import Derived.Test.YtpiolkcdfgiefaaGreatDoorT37
open Go Go.Eng Go.Proofs A0 T1 T2 T3 T4 T5 T6 T7 T8 T9 T10 T11 T12 T13 T14 T17 T18 T19 T20 T21 T22 T23 T24 T25 T26 T27 T28 T30 T31 T33 D3 D6 D9 D10 D11 D12 D13 D14 T34 T35 T36 T37
set_option maxRecDepth 100000
namespace T40
def g7:List Nat:=[29,0,8,40,69,6,15,79,10,16,90,17,101,11,18,1,5,9,7,13,19,14,4]
def c7:aF :=
 .seq (.region g7 [(zo 4 (.move cF))]) (.seq (.region g7 [(zo 21 (.call (.c (.fn 10)) [])),(mv 5 21)]) (.seq (.seq (.region g7 [(mv 22 0),(zo 23 (.call (.c (.fn 17)) [.s 22,cj 12])),(zo 24 (.not (.s 23))),(mv 25 24),(mg 26 25 false 1),(zg 27 25 false (.lenStr (.s 26))),(zg 28 25 false (.bin (.gtr) (.s 27) (cj 40))),(zo 29 (.pick (.s 25) cT (.s 28)))]) (.cond (.s 29) (.seq (.region g7 [(mv 30 5),(mv 4 30)]) .ret) .skip)) (.seq (.region g7 [(zo 31 (.buildSl 32 2 0 (.cons (.str []) (.cons (.str []) .nil)) [])),(mv 32 0),(zo 33 (.app 32 2 32 (.s 31) (.s 32))),(mv 6 33)]) (.seq (.region g7 [(mv 35 6),(zo 36 (.call (.c (.fn 11)) [.s 35])),(mv 34 36),(zo 37 (.extract 0 (.s 34))),(zo 38 (.extract 1 (.s 34))),(mv 7 37),(mv 8 38)]) (.seq (.seq (.region g7 [(mv 39 8),(zo 40 (.bin (.neq) (.s 39) (cj 0)))]) (.cond (.s 40) (.seq (.region g7 [(mv 41 5),(mv 4 41)]) .ret) .skip)) (.seq (.region g7 [(mv 42 7),(zo 43 (.call (.c (.fn 23)) [.s 42])),(mv 9 43)]) (.seq (.region g7 [(mv 44 7),(zo 45 (.call (.c (.fn 16)) [.s 44])),(mv 10 45)]) (.seq (.region g7 [(mv 47 7),(mv 48 1),(zo 49 (.call (.c (.fn 25)) [.s 47,.s 48])),(mv 46 49),(zo 50 (.extract 0 (.s 46))),(zo 51 (.extract 1 (.s 46))),(zo 11 (.alloc 39 (.cons (.nilsl) (.cons (.str []) (.cons (.nilsl) .nil))))),⟨none,none,.store 3 (.s 11) (.s 50),[]⟩,(mv 12 51)]) (.seq (.region g7 [(zo 52 (.buildSl 32 2 0 (.cons (.str []) (.cons (.str []) .nil)) [])),(mv 53 10),(zo 54 (.app 32 2 32 (.s 52) (.s 53))),(mv 13 54)]) (.seq (.join 0 [55,56,57,58,59,60,61,62,63,64,65,14] (.drawn g7 (.pure 0 (zo 55 (.buildSl 9 1 0 (.cons (.str []) .nil) [])) (.pure 1 (fa 56 0 11) (.pure 2 (ld 57 56) (.pure 4 (fa 59 1 11) (.pure 5 (ld 60 59) (.pure 6 (zo 61 (.buildSl 9 1 0 (.cons (.str []) .nil) [])) (.pure 7 (fa 62 2 11) (.pure 8 (ld 63 62) (.eff 3 (zo 58 (.app 9 1 16 (.s 55) (.s 57))) [(ld 63 62),(ld 60 59)] (.eff 9 (zo 64 (.app 9 1 16 (.s 61) (.s 63))) [(ld 60 59)] (.pure 10 (zo 65 (.build (.cons (.nilsl) (.cons (.str []) (.cons (.nilsl) .nil))) [(0,1,.s 58),(1,1,.s 60),(2,1,.s 64)])) (.eff 11 (zo 14 (.alloc 39 (.cons (.nilsl) (.cons (.str []) (.cons (.nilsl) .nil))))) [(ld 63 62),(ld 60 59),(ld 57 56)] (.eff 12 ⟨none,none,.store 3 (.s 14) (.s 65),[]⟩ [] .done .none) .none)) (.eff 11 (zo 14 (.alloc 39 (.cons (.nilsl) (.cons (.str []) (.cons (.nilsl) .nil))))) [(ld 63 62),(ld 60 59),(ld 57 56)] (.eff 9 (zo 64 (.app 9 1 16 (.s 61) (.s 63))) [(ld 60 59)] (.pure 10 (zo 65 (.build (.cons (.nilsl) (.cons (.str []) (.cons (.nilsl) .nil))) [(0,1,.s 58),(1,1,.s 60),(2,1,.s 64)])) (.eff 12 ⟨none,none,.store 3 (.s 14) (.s 65),[]⟩ [] .done .none)) .none) .none)) (.eff 11 (zo 14 (.alloc 39 (.cons (.nilsl) (.cons (.str []) (.cons (.nilsl) .nil))))) [(ld 63 62),(ld 60 59),(ld 57 56)] (.eff 3 (zo 58 (.app 9 1 16 (.s 55) (.s 57))) [(ld 63 62),(ld 60 59)] (.eff 9 (zo 64 (.app 9 1 16 (.s 61) (.s 63))) [(ld 60 59)] (.pure 10 (zo 65 (.build (.cons (.nilsl) (.cons (.str []) (.cons (.nilsl) .nil))) [(0,1,.s 58),(1,1,.s 60),(2,1,.s 64)])) (.eff 12 ⟨none,none,.store 3 (.s 14) (.s 65),[]⟩ [] .done .none)) .none) .none) .none)))))))))))) (.seq (.seq (.region g7 [(zo 15 (.move (cj 0)))]) (.block 0 (.loop 1 [66,67,68,69,72,73,74,75,70,71,15] (.seq (.seq (.region g7 [(mv 66 15),(mv 67 6),(zo 68 (.lenSl (.s 67))),(zo 69 (.bin (.lss) (.s 66) (.s 68)))]) (.cond (.s 69) .skip (.exit 0))) (.seq (.block 1 (.region g7 [(mv 72 6),(mv 73 15),(zo 74 (.build (.cons (.str []) (.cons (.str []) .nil)) [(0,1,.c (.str [111,116,104,101,114])),(1,1,.c (.str [111,116,104,101,114]))])),(zo 75 (.idxSl 2 (.s 72) (.s 73))),⟨none,none,.store 2 (.s 75) (.s 74),[]⟩])) (.region g7 [(mv 70 15),(zo 71 (.bin (.add) (.s 70) (cj 1))),(mv 15 71)])))))) (.seq (.seq (.region g7 [(zo 16 (.move (cj 0)))]) (.block 2 (.loop 2 [76,77,78,79,82,83,84,85,80,81,16] (.seq (.seq (.region g7 [(mv 76 16),(mv 77 10),(zo 78 (.lenSl (.s 77))),(zo 79 (.bin (.lss) (.s 76) (.s 78)))]) (.cond (.s 79) .skip (.exit 2))) (.seq (.block 3 (.region g7 [(mv 82 10),(mv 83 16),(zo 84 (.build (.cons (.str []) (.cons (.str []) .nil)) [(0,1,.c (.str [111,116,104,101,114])),(1,1,.c (.str [111,116,104,101,114]))])),(zo 85 (.idxSl 2 (.s 82) (.s 83))),⟨none,none,.store 2 (.s 85) (.s 84),[]⟩])) (.region g7 [(mv 80 16),(zo 81 (.bin (.add) (.s 80) (cj 1))),(mv 16 81)])))))) (.seq (.seq (.region g7 [(zo 17 (.move (cj 0)))]) (.block 4 (.loop 3 [86,87,88,89,90,93,94,95,96,91,92,17] (.seq (.seq (.region g7 [(mv 86 17),(fa 87 0 11),(ld 88 87),(zo 89 (.lenSl (.s 88))),(zo 90 (.bin (.lss) (.s 86) (.s 89)))]) (.cond (.s 90) .skip (.exit 4))) (.seq (.block 5 (.region g7 [(fa 93 0 11),(ld 94 93),(mv 95 17),(zo 96 (.idxSl 1 (.s 94) (.s 95))),⟨none,none,.store 1 (.s 96) (.c (.str [111,116,104,101,114])),[]⟩])) (.region g7 [(mv 91 17),(zo 92 (.bin (.add) (.s 91) (cj 1))),(mv 17 92)])))))) (.seq (.seq (.region g7 [(zo 18 (.move (cj 0)))]) (.block 6 (.loop 4 [97,98,99,100,101,104,105,106,107,102,103,18] (.seq (.seq (.region g7 [(mv 97 18),(fa 98 2 11),(ld 99 98),(zo 100 (.lenSl (.s 99))),(zo 101 (.bin (.lss) (.s 97) (.s 100)))]) (.cond (.s 101) .skip (.exit 6))) (.seq (.block 7 (.region g7 [(fa 104 2 11),(ld 105 104),(mv 106 18),(zo 107 (.idxSl 1 (.s 105) (.s 106))),⟨none,none,.store 1 (.s 107) (.c (.str [111,116,104,101,114])),[]⟩])) (.region g7 [(mv 102 18),(zo 103 (.bin (.add) (.s 102) (cj 1))),(mv 18 103)])))))) (.seq (.region g7 [(mv 109 7),(mv 110 1),(zo 111 (.call (.c (.fn 25)) [.s 109,.s 110])),(mv 108 111),(zo 112 (.extract 0 (.s 108))),(zo 113 (.extract 1 (.s 108))),(zo 19 (.alloc 39 (.cons (.nilsl) (.cons (.str []) (.cons (.nilsl) .nil))))),⟨none,none,.store 3 (.s 19) (.s 112),[]⟩,(mv 20 113)]) (.seq (.region g7 [(mv 114 5),(mv 115 114),(mg 116 115 true 7),(zg 117 115 true (.call (.c (.fn 23)) [.s 116])),(mg 118 115 true 9),(zg 119 115 true (.bin (.eql) (.s 117) (.s 118))),(zo 120 (.pick (.s 115) (.s 119) cF)),(mv 121 120),(mg 122 121 true 7),(zg 123 121 true (.call (.c (.fn 16)) [.s 122])),(mg 124 121 true 13),(zg 125 121 true (.call (.c (.fn 28)) [.s 123,.s 124])),(zo 126 (.pick (.s 121) (.s 125) cF)),(mv 127 126),(zg 128 127 true (.load 3 true (.s 19))),(zg 129 127 true (.load 3 true (.s 14))),(zg 130 127 true (.call (.c (.fn 27)) [.s 128,.s 129])),(zo 131 (.pick (.s 127) (.s 130) cF)),(mv 4 131)]) .ret))))))))))))))))
theorem e7:aO Tryz.prog 7 g7 [1000012] [] []=some (c7,[.slot 4],132):=by kernel_rfl
def W7:Eng.Spec where
 X:=List Ky×B
 args:=fun x=>.cons (ksE x.1) (.cons (.str x.2) .nil)
 pre:=fun x=>(x.1.length < 4611686018427387904/\∀ j,j < x.1.length->(x.1.getD j k0).1.length < 4611686018427387904)/\x.2.length < 4611686018427387904
 res:=fun _=>.bool true
 inst:=fun _=>none
theorem Wz {p:B} {T:TT} {N:Nat->NO} {c r:Nat} {K:Int} (k:Tr Dd T N c r K) (hs:szT T<=12):(ndO (cL p T)).ids.length<=100000/\(ndO (cL p T)).kids.length<=100000:=by
 cases h:cL p T with
 | none=>exact ⟨Nat.zero_le _,Nat.zero_le _⟩
 | some s =>
  obtain ⟨f1,_,f3,_,f5⟩:=xU p h k.wf k.facts.1 k.facts.2.1
  exact (Ts f1 (Nat.le_trans f5 hs) f3).1
theorem Ws {T:Type} {enc:T->SV} {o:T} {f:Nat->T} {j n m:Nat} {k:Keep} {hp:List (Nat×aC)} (h:∀ x,sub k hp m (enc x) (enc x)):∀ i,i < n->iC k (sub k hp m) (bif Nat.beq i (0+(j:Int).toNat) then enc o else enc (f i)) (enc (if i=j then o else f i)):=by
 intro i _
 have e:(bif Nat.beq i (0+(j:Int).toNat) then enc o else enc (f i))=enc (if i=j then o else f i):=by
  rw [Nat.zero_add,Int.toNat_natCast]
  by_cases h:i=j
  ·subst h
   rw [Nat.beq_refl,if_pos rfl]
   rfl
  ·have:Nat.beq i j=false:=by
    cases e:Nat.beq i j with
    | false=>rfl
    | true=>exact absurd (Nat.eq_of_beq_eq_true e) h
   rw [this,if_neg h]
   rfl
 rw [e]
 exact Or.inl (h _)
def oth:Ky:=([111,116,104,101,114],[111,116,104,101,114])
theorem zk1 {n:Nat} {k:Keep} {hp:List (Nat×aC)} {l:List Ky} (h:∀ j,j < n->iC k (sub k hp 200) (oL (l.getD j k0)) (oL (l.getD j k0))):∀ j,j < n->iC k (sub k hp 200) (oL (l.getD (0+j) k0)) (oL (l.getD j k0)):=fun j hj=>by rw [Nat.zero_add]; exact h j hj
theorem z0 {n:Nat} {k:Keep} {hp:List (Nat×aC)} {l:List B} (h:∀ j,j < n->iC k (sub k hp 200) (idE (l.getD j [])) (idE (l.getD j []))):∀ j,j < n->iC k (sub k hp 200) (idE (l.getD (0+j) [])) (idE (l.getD j [])):=fun j hj=>by rw [Nat.zero_add]; exact h j hj
attribute [local irreducible] D9.Dd D6.kL oI T19.eZ
set_option maxHeartbeats 16000000 in
theorem Wu:W7.Ok Tryz.prog 7:=by
 refine Eng.Spec.okR e7 .nil (fun _=>[(10,.p Q1),(11,.m (Tt Dd)),(17,.m U7),(23,.m Xb),(16,.m Vj),(28,.m W8),(25,.m W9),(27,.m Rh)]) (fun _ _=>aD.p O6 (aD.m (Mi Dd) (aD.m Ow (aD.m W6 (aD.m Tl (aD.m Wv (aD.m W5 (aD.m M4 aD.nil)))))))) ?_
 rintro ⟨l,p⟩ ⟨(hpn:l.length < 4611686018427387904/\∀ j,j < l.length->(l.getD j k0).1.length < 4611686018427387904),(hp:p.length < 4611686018427387904)⟩
 refine ⟨trivial,?_⟩
 have hl:l.length < 4611686018427387904:=hpn.1
 repeat' (first|apply And.intro|exact trivial|exact rfl|exact zf|exact zh|refine zt ?_|fail)
 refine Exists.intro (l,12) (Exists.intro [] ?_)
 repeat' (first|exact hl|apply And.intro|exact trivial|exact rfl|exact zf|exact zh|refine zt ?_|exact fun (j:Nat) (hj:j < _)=>Or.inl (aT _ _ _ _)|fail)
 refine fun (y:Bool) (hf:y=rR l 12)=>?_
 cases y
 ·repeat' (first|apply And.intro|exact trivial|exact rfl|exact zf|exact zh|refine zt ?_|exact fun (j:Nat) (hj:j < _)=>Or.inl (aT _ _ _ _)|fail)
 have hl12:l.length<=12:=by have:=hf.symm; unfold rR at this; rw [Bool.and_eq_true,decide_eq_true_eq] at this; omega
 repeat' (first|apply And.intro|exact trivial|exact rfl|exact zf|exact zh|refine zt ?_|exact fun (j:Nat) (hj:j < _)=>Or.inl (aT _ _ _ _)|fail)
 ·refine fun (_:aS _ _ _ _ _=true)=>?_
  repeat' (first|apply And.intro|exact trivial|exact rfl|exact zf|exact zh|refine zt ?_|exact fun (j:Nat) (hj:j < _)=>Or.inl (aT _ _ _ _)|fail)
 refine fun (hx:aS _ _ _ _ _=false)=>?_
 have hp40:p.length<=40:=by
  rw [dH,Bool.or_eq_false_iff] at hx
  have h2:¬ (40:Int) < (p.length:Int):=of_decide_eq_false hx.2
  omega
 clear hx
 repeat' (first|apply And.intro|exact trivial|exact rfl|exact zf|exact zh|refine zt ?_|exact fun (j:Nat) (hj:j < _)=>Or.inl (aT _ _ _ _)|exact fun _ _=>rfl|fail)
 ·show l.length<=9223372036854775807
  omega
 ·show l.length * 32<=140737488355328
  omega
 refine Exists.intro l (Exists.intro [] ?_)
 repeat' (first|exact hpn|apply And.intro|exact trivial|exact rfl|exact zf|exact zh|refine zt ?_|exact fun (j:Nat) (hj:j < _)=>Or.inl (aT _ _ _ _)|fail)
 ·exact Nat.le_of_eq (Nat.zero_add _)
 ·exact (fun (j:Nat) _=>by rw [Nat.zero_add j]; exact Or.inl (aT _ _ _ _))
 refine fun (y:NY) (hy:(y.e=(T19.eZ l).1/\y.o=decide (y.e=0))/\(y.o=true->Tr Dd (T19.eZ l).2 y.N y.c y.r y.K/\0<=y.K/\y.K<=20000000))=>?_
 obtain ⟨e,o,N,c,r,K⟩:=y
 obtain ⟨⟨(he:e=(T19.eZ l).1),(ho:o=decide (e=0))⟩,htr⟩:=hy
 cases o with
 | false =>
  have hne:decide (e=0)=false:=ho.symm
  repeat' (first|apply And.intro|exact trivial|exact rfl|exact zf|exact zh|refine zt ?_|fail)
  ·refine fun (_:(!decide (e=0))=true)=>?_
   repeat' (first|apply And.intro|exact trivial|exact rfl|exact zf|exact zh|refine zt ?_|fail)
  ·refine fun (h:(!decide (e=0))=false)=>?_
   rw [hne] at h
   exact Bool.noConfusion (show true=false from h)
 | true =>
  have he0:e=0:=of_decide_eq_true ho.symm
  subst he0
  obtain ⟨(htr:Tr Dd (T19.eZ l).2 N c r K),(hK0:0<=K),(hK1:K<=20000000)⟩:=htr rfl
  obtain ⟨T,hT⟩:∃ T,T19.eZ l=(0,T):=⟨(T19.eZ l).2,by rw [he]⟩
  rw [hT] at htr
  obtain ⟨w,hsz,_⟩:=Ww hT
  have hs12:szT T<=12:=by rw [hsz]; exact hl12
  have hu1:UOk ⟨T,N,c,r,K,[]⟩:=⟨htr,hs12,by show 0<=_; decide⟩
  repeat' (first|apply And.intro|exact trivial|exact rfl|exact zf|exact zh|refine zt ?_|exact zm N rfl|exact zr N rfl rfl|fail)
  refine Exists.intro ⟨T,N,c,r,K,[]⟩ (Exists.intro [1,2] ?_)
  repeat' (first|exact hu1|apply And.intro|exact trivial|exact rfl|exact zf|exact zh|refine zt ?_|exact zm N rfl|exact zr N rfl rfl|fail)
  refine fun (N1:Nat->NO) (h1:Tr Dd T N1 c r K)=>?_
  have hu2:UOk ⟨T,N1,c,r,K,[]⟩:=⟨h1,hs12,by show 0<=_; decide⟩
  repeat' (first|apply And.intro|exact trivial|exact rfl|exact zf|exact zh|refine zt ?_|exact zm N1 rfl|exact zr N1 rfl rfl|fail)
  refine Exists.intro ⟨T,N1,c,r,K,[]⟩ (Exists.intro [1,2] ?_)
  repeat' (first|exact hu2|apply And.intro|exact trivial|exact rfl|exact zf|exact zh|refine zt ?_|exact zm N1 rfl|exact zr N1 rfl rfl|fail)
  refine fun (L:List Ky) (hL:L=bS [] T)=>?_
  have hu3:UOk ⟨T,N1,c,r,K,p⟩:=⟨h1,hs12,by show p.length<=_; omega⟩
  have hL12:L.length<=12:=by rw [hL,qP]; exact hs12
  repeat' (first|apply And.intro|exact trivial|exact rfl|exact zf|exact zh|refine zt ?_|exact zm N1 rfl|exact zr N1 rfl rfl|fail)
  refine Exists.intro ⟨T,N1,c,r,K,p⟩ (Exists.intro [1,2] ?_)
  repeat' (first|exact hu3|apply And.intro|exact trivial|exact rfl|exact zf|exact zh|refine zt ?_|exact zm N1 rfl|exact zr N1 rfl rfl|fail)
  refine fun (y:(Nat->NO)×ND×Bool) (hy:Tr Dd T y.1 c r K/\y.2.1=ndO (cL p T)/\y.2.2=(cL p T).isSome)=>?_
  obtain ⟨N2,nd,b⟩:=y
  obtain ⟨(h2:Tr Dd T N2 c r K),(hnd:nd=ndO (cL p T)),(hb:b=(cL p T).isSome)⟩:=hy
  repeat' (first|apply And.intro|exact trivial|exact rfl|exact zf|exact zh|refine zt ?_|exact zm N2 rfl|exact zr N2 rfl rfl|fail)
  ·exact Nat.le_of_eq (Nat.zero_add _)
  ·exact fun _ _=>rfl
  ·show L.length<=9223372036854775807
   omega
  ·show L.length * 32<=140737488355328
   omega
  have hq:=Wz (p:=p) h2 hs12
  rw [<- hnd] at hq
  have hq0:(0+nd.ids.length<=nd.ids.length/\0+nd.kids.length<=nd.kids.length)/\(nd.ids.length<=9223372036854775807/\nd.ids.length * 16<=140737488355328)/\nd.kids.length<=9223372036854775807/\nd.kids.length * 16<=140737488355328:=by omega
  refine Exists.intro ⟨Unit,fun _=>True,fun _=>[(14,.own 60 0)],fun _=>(60,.cells 39 (.cons (.lsl 61 1 nd.ids.length) (.cons (.str nd.bys) (.cons (.lsl 62 1 nd.kids.length) .nil))))::lsH 61 nd.ids::lsH 62 nd.kids::ksH 7 L::tH 1 2 r N2,fun _=>0⟩ (And.intro ?_ ?_)
  ·repeat' (first|apply And.intro|exact trivial|exact rfl|exact zf|exact zh|refine zt ?_|exact zm N2 rfl|exact zr N2 rfl rfl|exact hq0.1.1|exact hq0.1.2|exact hq0.2.1.1|exact hq0.2.1.2|exact hq0.2.2.1|exact hq0.2.2.2|exact fun _ _=>rfl|fail)
   all_goals refine Exists.intro () ?_
   all_goals repeat' (first|apply And.intro|exact trivial|exact rfl|exact zf|exact zh|refine zt ?_|exact zm N2 rfl|exact zr N2 rfl rfl|exact fun (j:Nat) _=>Or.inl (aL _ _ _ (nd.kids.getD j []))|exact fun (j:Nat) _=>Or.inl (aL _ _ _ (nd.ids.getD j []))|exact fun (j:Nat) _=>Or.inl (aT _ _ _ (l.getD j k0))|exact fun (j:Nat) _=>Or.inl (aT _ _ _ (L.getD (0+j) k0))|exact fun (j:Nat) _=>Or.inl (aT _ _ _ (L.getD j k0))|exact z0 (fun (j:Nat) _=>Or.inl (aL _ _ _ (nd.kids.getD j [])))|exact z0 (fun (j:Nat) _=>Or.inl (aL _ _ _ (nd.ids.getD j [])))|fail)
   all_goals exact zk1 (fun (j:Nat) _=>Or.inl (aT _ _ _ (L.getD j k0)))
  rintro ⟨⟩ _
  repeat' (first|apply And.intro|exact trivial|exact rfl|exact zf|exact zh|refine zt ?_|exact zm N2 rfl|exact zr N2 rfl rfl|fail)
  refine ⟨⟨Nat×(Nat->Ky),fun s=>s.1<=l.length,fun s=>[(15,.int .i64 (s.1:Int))],fun s=>(0,.arr 32 2 l.length fun j=>oL (s.2 j))::tH 1 2 r N2,fun s=>l.length - s.1⟩,(0,fun j=>l.getD j k0),Nat.zero_le _,?_,?_⟩
  ·repeat' (first|apply And.intro|exact trivial|exact rfl|exact zf|exact zh|refine zt ?_|exact zm N2 rfl|exact zr N2 rfl rfl|exact fun (j:Nat) _=>Or.inl (aL _ _ _ (nd.kids.getD j []))|exact fun (j:Nat) _=>Or.inl (aL _ _ _ (nd.ids.getD j []))|exact fun (j:Nat) _=>Or.inl (aT _ _ _ (l.getD j k0))|exact fun (j:Nat) _=>Or.inl (aT _ _ _ (L.getD (0+j) k0))|exact fun (j:Nat) _=>Or.inl (aT _ _ _ (L.getD j k0))|exact z0 (fun (j:Nat) _=>Or.inl (aL _ _ _ (nd.kids.getD j [])))|exact z0 (fun (j:Nat) _=>Or.inl (aL _ _ _ (nd.ids.getD j [])))|fail)
  rintro ⟨j,f⟩ (hj0:j<=l.length)
  repeat' (first|apply And.intro|exact trivial|exact rfl|exact zf|exact zh|refine zt ?_|exact zm N2 rfl|exact zr N2 rfl rfl|fail)
  ·refine fun (hg:decide ((j:Int) < (l.length:Int))=true)=>?_
   have g1:(j:Int) < (l.length:Int):=of_decide_eq_true hg
   have hj:j+1<=l.length:=by omega
   have g0:(0:Int)<=(j:Int):=by omega
   have g2:-9223372036854775808<=(j:Int)+1:=by omega
   have g3:(j:Int)+1<=9223372036854775807:=by omega
   have g4:l.length - (j+1) < l.length - j:=by omega
   have g5:0+(j:Int).toNat < l.length:=by omega
   repeat' (first|apply And.intro|exact trivial|exact rfl|exact zf|exact zh|refine zt ?_|exact zm N2 rfl|exact zr N2 rfl rfl|(with_reducible first|exact g0|exact g1|exact g2|exact g3)|exact g5|fail)
   refine Exists.intro (j+1,fun i=>if i=j then oth else f i) ?_
   repeat' (first|exact hj|exact g4|apply And.intro|exact trivial|exact rfl|exact zf|exact zh|refine zt ?_|exact zm N2 rfl|exact zr N2 rfl rfl|exact fun (j:Nat) _=>Or.inl (aL _ _ _ (nd.kids.getD j []))|exact fun (j:Nat) _=>Or.inl (aL _ _ _ (nd.ids.getD j []))|exact fun (j:Nat) _=>Or.inl (aT _ _ _ (l.getD j k0))|exact fun (j:Nat) _=>Or.inl (aT _ _ _ (L.getD (0+j) k0))|exact fun (j:Nat) _=>Or.inl (aT _ _ _ (L.getD j k0))|exact z0 (fun (j:Nat) _=>Or.inl (aL _ _ _ (nd.kids.getD j [])))|exact z0 (fun (j:Nat) _=>Or.inl (aL _ _ _ (nd.ids.getD j [])))|exact fun (i:Nat) _=>Or.inl (aT _ _ _ (f i))|exact fun (i:Nat) _=>Or.inl (aT _ _ _ (f2 i))|exact fun (i:Nat) _=>Or.inl (aL _ _ _ (f3 i))|exact fun (i:Nat) _=>Or.inl (aL _ _ _ (f4 i))|fail)
   ·exact Ws (enc:=oL) (o:=oth) (fun x=>aT _ _ _ x)
  refine fun (_:decide ((j:Int) < (l.length:Int))=false)=>?_
  repeat' (first|apply And.intro|exact trivial|exact rfl|exact zf|exact zh|refine zt ?_|exact zm N2 rfl|exact zr N2 rfl rfl|fail)
  refine ⟨⟨Nat×(Nat->Ky),fun s=>s.1<=L.length,fun s=>[(16,.int .i64 (s.1:Int))],fun s=>(3,.arr 32 2 L.length fun j=>oL (s.2 j))::tH 1 2 r N2,fun s=>L.length - s.1⟩,(0,fun j=>L.getD j k0),Nat.zero_le _,?_,?_⟩
  ·repeat' (first|apply And.intro|exact trivial|exact rfl|exact zf|exact zh|refine zt ?_|exact zm N2 rfl|exact zr N2 rfl rfl|exact fun (j:Nat) _=>Or.inl (aL _ _ _ (nd.kids.getD j []))|exact fun (j:Nat) _=>Or.inl (aL _ _ _ (nd.ids.getD j []))|exact fun (j:Nat) _=>Or.inl (aT _ _ _ (l.getD j k0))|exact fun (j:Nat) _=>Or.inl (aT _ _ _ (L.getD (0+j) k0))|exact fun (j:Nat) _=>Or.inl (aT _ _ _ (L.getD j k0))|exact z0 (fun (j:Nat) _=>Or.inl (aL _ _ _ (nd.kids.getD j [])))|exact z0 (fun (j:Nat) _=>Or.inl (aL _ _ _ (nd.ids.getD j [])))|exact fun (i:Nat) _=>Or.inl (aT _ _ _ (f i))|fail)
  rintro ⟨j,f2⟩ (hj0:j<=L.length)
  repeat' (first|apply And.intro|exact trivial|exact rfl|exact zf|exact zh|refine zt ?_|exact zm N2 rfl|exact zr N2 rfl rfl|fail)
  ·refine fun (hg:decide ((j:Int) < (L.length:Int))=true)=>?_
   have g1:(j:Int) < (L.length:Int):=of_decide_eq_true hg
   have hj:j+1<=L.length:=by omega
   have g0:(0:Int)<=(j:Int):=by omega
   have g2:-9223372036854775808<=(j:Int)+1:=by omega
   have g3:(j:Int)+1<=9223372036854775807:=by omega
   have g4:L.length - (j+1) < L.length - j:=by omega
   have g5:0+(j:Int).toNat < L.length:=by omega
   repeat' (first|apply And.intro|exact trivial|exact rfl|exact zf|exact zh|refine zt ?_|exact zm N2 rfl|exact zr N2 rfl rfl|(with_reducible first|exact g0|exact g1|exact g2|exact g3)|exact g5|fail)
   refine Exists.intro (j+1,fun i=>if i=j then oth else f2 i) ?_
   repeat' (first|exact hj|exact g4|apply And.intro|exact trivial|exact rfl|exact zf|exact zh|refine zt ?_|exact zm N2 rfl|exact zr N2 rfl rfl|exact fun (j:Nat) _=>Or.inl (aL _ _ _ (nd.kids.getD j []))|exact fun (j:Nat) _=>Or.inl (aL _ _ _ (nd.ids.getD j []))|exact fun (j:Nat) _=>Or.inl (aT _ _ _ (l.getD j k0))|exact fun (j:Nat) _=>Or.inl (aT _ _ _ (L.getD (0+j) k0))|exact fun (j:Nat) _=>Or.inl (aT _ _ _ (L.getD j k0))|exact z0 (fun (j:Nat) _=>Or.inl (aL _ _ _ (nd.kids.getD j [])))|exact z0 (fun (j:Nat) _=>Or.inl (aL _ _ _ (nd.ids.getD j [])))|exact fun (i:Nat) _=>Or.inl (aT _ _ _ (f i))|exact fun (i:Nat) _=>Or.inl (aT _ _ _ (f2 i))|exact fun (i:Nat) _=>Or.inl (aL _ _ _ (f3 i))|exact fun (i:Nat) _=>Or.inl (aL _ _ _ (f4 i))|fail)
   ·exact Ws (enc:=oL) (o:=oth) (fun x=>aT _ _ _ x)
  refine fun (_:decide ((j:Int) < (L.length:Int))=false)=>?_
  repeat' (first|apply And.intro|exact trivial|exact rfl|exact zf|exact zh|refine zt ?_|exact zm N2 rfl|exact zr N2 rfl rfl|fail)
  refine ⟨⟨Nat×(Nat->B),fun s=>s.1<=nd.ids.length,fun s=>[(17,.int .i64 (s.1:Int))],fun s=>(4,.arr 9 1 nd.ids.length fun j=>idE (s.2 j))::tH 1 2 r N2,fun s=>nd.ids.length - s.1⟩,(0,fun j=>nd.ids.getD j []),Nat.zero_le _,?_,?_⟩
  ·repeat' (first|apply And.intro|exact trivial|exact rfl|exact zf|exact zh|refine zt ?_|exact zm N2 rfl|exact zr N2 rfl rfl|exact fun (j:Nat) _=>Or.inl (aL _ _ _ (nd.kids.getD j []))|exact fun (j:Nat) _=>Or.inl (aL _ _ _ (nd.ids.getD j []))|exact fun (j:Nat) _=>Or.inl (aT _ _ _ (l.getD j k0))|exact fun (j:Nat) _=>Or.inl (aT _ _ _ (L.getD (0+j) k0))|exact fun (j:Nat) _=>Or.inl (aT _ _ _ (L.getD j k0))|exact z0 (fun (j:Nat) _=>Or.inl (aL _ _ _ (nd.kids.getD j [])))|exact z0 (fun (j:Nat) _=>Or.inl (aL _ _ _ (nd.ids.getD j [])))|exact fun (i:Nat) _=>Or.inl (aT _ _ _ (f i))|exact fun (i:Nat) _=>Or.inl (aT _ _ _ (f2 i))|exact fun (i:Nat) _=>Or.inl (aL _ _ _ (f3 i))|exact fun (i:Nat) _=>Or.inl (aL _ _ _ (f4 i))|fail)
  rintro ⟨j,f3⟩ (hj0:j<=nd.ids.length)
  repeat' (first|apply And.intro|exact trivial|exact rfl|exact zf|exact zh|refine zt ?_|exact zm N2 rfl|exact zr N2 rfl rfl|fail)
  ·refine fun (hg:decide ((j:Int) < (nd.ids.length:Int))=true)=>?_
   have g1:(j:Int) < (nd.ids.length:Int):=of_decide_eq_true hg
   have hj:j+1<=nd.ids.length:=by omega
   have g0:(0:Int)<=(j:Int):=by omega
   have g2:-9223372036854775808<=(j:Int)+1:=by omega
   have g3:(j:Int)+1<=9223372036854775807:=by omega
   have g4:nd.ids.length - (j+1) < nd.ids.length - j:=by omega
   have g5:0+(j:Int).toNat < nd.ids.length:=by omega
   repeat' (first|apply And.intro|exact trivial|exact rfl|exact zf|exact zh|refine zt ?_|exact zm N2 rfl|exact zr N2 rfl rfl|(with_reducible first|exact g0|exact g1|exact g2|exact g3)|exact g5|fail)
   refine Exists.intro (j+1,fun i=>if i=j then oth.1 else f3 i) ?_
   repeat' (first|exact hj|exact g4|apply And.intro|exact trivial|exact rfl|exact zf|exact zh|refine zt ?_|exact zm N2 rfl|exact zr N2 rfl rfl|exact fun (j:Nat) _=>Or.inl (aL _ _ _ (nd.kids.getD j []))|exact fun (j:Nat) _=>Or.inl (aL _ _ _ (nd.ids.getD j []))|exact fun (j:Nat) _=>Or.inl (aT _ _ _ (l.getD j k0))|exact fun (j:Nat) _=>Or.inl (aT _ _ _ (L.getD (0+j) k0))|exact fun (j:Nat) _=>Or.inl (aT _ _ _ (L.getD j k0))|exact z0 (fun (j:Nat) _=>Or.inl (aL _ _ _ (nd.kids.getD j [])))|exact z0 (fun (j:Nat) _=>Or.inl (aL _ _ _ (nd.ids.getD j [])))|exact fun (i:Nat) _=>Or.inl (aT _ _ _ (f i))|exact fun (i:Nat) _=>Or.inl (aT _ _ _ (f2 i))|exact fun (i:Nat) _=>Or.inl (aL _ _ _ (f3 i))|exact fun (i:Nat) _=>Or.inl (aL _ _ _ (f4 i))|fail)
   ·exact Ws (enc:=idE) (o:=oth.1) (fun x=>aL _ _ _ x)
  refine fun (_:decide ((j:Int) < (nd.ids.length:Int))=false)=>?_
  repeat' (first|apply And.intro|exact trivial|exact rfl|exact zf|exact zh|refine zt ?_|exact zm N2 rfl|exact zr N2 rfl rfl|fail)
  refine ⟨⟨Nat×(Nat->B),fun s=>s.1<=nd.kids.length,fun s=>[(18,.int .i64 (s.1:Int))],fun s=>(5,.arr 9 1 nd.kids.length fun j=>idE (s.2 j))::tH 1 2 r N2,fun s=>nd.kids.length - s.1⟩,(0,fun j=>nd.kids.getD j []),Nat.zero_le _,?_,?_⟩
  ·repeat' (first|apply And.intro|exact trivial|exact rfl|exact zf|exact zh|refine zt ?_|exact zm N2 rfl|exact zr N2 rfl rfl|exact fun (j:Nat) _=>Or.inl (aL _ _ _ (nd.kids.getD j []))|exact fun (j:Nat) _=>Or.inl (aL _ _ _ (nd.ids.getD j []))|exact fun (j:Nat) _=>Or.inl (aT _ _ _ (l.getD j k0))|exact fun (j:Nat) _=>Or.inl (aT _ _ _ (L.getD (0+j) k0))|exact fun (j:Nat) _=>Or.inl (aT _ _ _ (L.getD j k0))|exact z0 (fun (j:Nat) _=>Or.inl (aL _ _ _ (nd.kids.getD j [])))|exact z0 (fun (j:Nat) _=>Or.inl (aL _ _ _ (nd.ids.getD j [])))|exact fun (i:Nat) _=>Or.inl (aT _ _ _ (f i))|exact fun (i:Nat) _=>Or.inl (aT _ _ _ (f2 i))|exact fun (i:Nat) _=>Or.inl (aL _ _ _ (f3 i))|exact fun (i:Nat) _=>Or.inl (aL _ _ _ (f4 i))|fail)
  rintro ⟨j,f4⟩ (hj0:j<=nd.kids.length)
  repeat' (first|apply And.intro|exact trivial|exact rfl|exact zf|exact zh|refine zt ?_|exact zm N2 rfl|exact zr N2 rfl rfl|fail)
  ·refine fun (hg:decide ((j:Int) < (nd.kids.length:Int))=true)=>?_
   have g1:(j:Int) < (nd.kids.length:Int):=of_decide_eq_true hg
   have hj:j+1<=nd.kids.length:=by omega
   have g0:(0:Int)<=(j:Int):=by omega
   have g2:-9223372036854775808<=(j:Int)+1:=by omega
   have g3:(j:Int)+1<=9223372036854775807:=by omega
   have g4:nd.kids.length - (j+1) < nd.kids.length - j:=by omega
   have g5:0+(j:Int).toNat < nd.kids.length:=by omega
   repeat' (first|apply And.intro|exact trivial|exact rfl|exact zf|exact zh|refine zt ?_|exact zm N2 rfl|exact zr N2 rfl rfl|(with_reducible first|exact g0|exact g1|exact g2|exact g3)|exact g5|fail)
   refine Exists.intro (j+1,fun i=>if i=j then oth.1 else f4 i) ?_
   repeat' (first|exact hj|exact g4|apply And.intro|exact trivial|exact rfl|exact zf|exact zh|refine zt ?_|exact zm N2 rfl|exact zr N2 rfl rfl|exact fun (j:Nat) _=>Or.inl (aL _ _ _ (nd.kids.getD j []))|exact fun (j:Nat) _=>Or.inl (aL _ _ _ (nd.ids.getD j []))|exact fun (j:Nat) _=>Or.inl (aT _ _ _ (l.getD j k0))|exact fun (j:Nat) _=>Or.inl (aT _ _ _ (L.getD (0+j) k0))|exact fun (j:Nat) _=>Or.inl (aT _ _ _ (L.getD j k0))|exact z0 (fun (j:Nat) _=>Or.inl (aL _ _ _ (nd.kids.getD j [])))|exact z0 (fun (j:Nat) _=>Or.inl (aL _ _ _ (nd.ids.getD j [])))|exact fun (i:Nat) _=>Or.inl (aT _ _ _ (f i))|exact fun (i:Nat) _=>Or.inl (aT _ _ _ (f2 i))|exact fun (i:Nat) _=>Or.inl (aL _ _ _ (f3 i))|exact fun (i:Nat) _=>Or.inl (aL _ _ _ (f4 i))|fail)
   ·exact Ws (enc:=idE) (o:=oth.1) (fun x=>aL _ _ _ x)
  refine fun (_:decide ((j:Int) < (nd.kids.length:Int))=false)=>?_
  repeat' (first|apply And.intro|exact trivial|exact rfl|exact zf|exact zh|refine zt ?_|exact zm N2 rfl|exact zr N2 rfl rfl|fail)
  have hu4:UOk ⟨T,N2,c,r,K,p⟩:=⟨h2,hs12,by show p.length<=_; omega⟩
  have hdd:decide (oI Dd T=oI Dd T)=true:=decide_eq_true rfl
  refine Exists.intro ⟨T,N2,c,r,K,p⟩ (Exists.intro [1,2] ?_)
  repeat' (first|exact hu4|apply And.intro|exact trivial|exact rfl|exact zf|exact zh|refine zt ?_|exact zm N2 rfl|exact zr N2 rfl rfl|fail)
  refine fun (y:(Nat->NO)×ND×Bool) (hy:Tr Dd T y.1 c r K/\y.2.1=ndO (cL p T)/\y.2.2=(cL p T).isSome)=>?_
  obtain ⟨N3,nd3,b3⟩:=y
  obtain ⟨(h3:Tr Dd T N3 c r K),(hnd3:nd3=ndO (cL p T)),(hb3:b3=(cL p T).isSome)⟩:=hy
  obtain rfl:nd3=nd:=hnd3.trans hnd.symm
  repeat' (first|apply And.intro|exact trivial|exact rfl|exact zf|exact zh|refine zt ?_|exact zm N3 rfl|exact zr N3 rfl rfl|fail)
  have hu5:UOk ⟨T,N3,c,r,K,[]⟩:=⟨h3,hs12,by show 0<=_; decide⟩
  refine Exists.intro ⟨T,N3,c,r,K,[]⟩ (Exists.intro [1,2] ?_)
  repeat' (first|exact hu5|apply And.intro|exact trivial|exact rfl|exact zf|exact zh|refine zt ?_|exact zm N3 rfl|exact zr N3 rfl rfl|fail)
  refine fun (N4:Nat->NO) (h4:Tr Dd T N4 c r K)=>?_
  repeat' (first|apply And.intro|exact trivial|exact rfl|exact zf|exact zh|refine zt ?_|exact zm N4 rfl|exact zr N4 rfl rfl|fail)
  rotate_left
  ·exact fun (h:aS _ _ _ _ _=!true)=>Bool.noConfusion (show false=true from h.symm.trans (pk rfl hdd))
  refine fun (_:aS _ _ _ _ _=true)=>?_
  have hu6:UOk ⟨T,N4,c,r,K,[]⟩:=⟨h4,hs12,by show 0<=_; decide⟩
  refine Exists.intro ⟨T,N4,c,r,K,[]⟩ (Exists.intro [1,2] ?_)
  repeat' (first|exact hu6|apply And.intro|exact trivial|exact rfl|exact zf|exact zh|refine zt ?_|exact zm N4 rfl|exact zr N4 rfl rfl|fail)
  refine fun (L2:List Ky) (hL2:L2=bS [] T)=>?_
  obtain rfl:L2=L:=hL2.trans hL.symm
  clear hL2
  repeat' (first|apply And.intro|exact trivial|exact rfl|exact zf|exact zh|refine zt ?_|exact zm N4 rfl|exact zr N4 rfl rfl|(refine fun (_:aS _ _ _ _ _=true)=>?_)|exact fun (h:aS _ _ _ _ _=!true)=>Bool.noConfusion (show false=true from h.symm.trans (pk rfl hdd))|fail)
  have hn1:L2.length < 4611686018427387904:=by omega
  refine Exists.intro (L2,L2) (Exists.intro [] ?_)
  repeat' (first|exact hn1|apply And.intro|exact trivial|exact rfl|exact zf|exact zh|refine zt ?_|fail)
  ·exact Nat.le_of_eq (Nat.zero_add _)
  ·exact (fun (j:Nat) _=>by rw [Nat.zero_add j]; exact Or.inl (aT _ _ _ _))
  ·exact Nat.le_of_eq (Nat.zero_add _)
  ·exact (fun (j:Nat) _=>by rw [Nat.zero_add j]; exact Or.inl (aT _ _ _ _))
  refine fun (y:Bool) (hy:y=decide (L2=L2))=>?_
  obtain rfl:y=true:=hy.trans (decide_eq_true rfl)
  clear hy
  repeat' (first|apply And.intro|exact trivial|exact rfl|exact zf|exact zh|refine zt ?_|exact zm N4 rfl|exact zr N4 rfl rfl|(refine fun (_:aS _ _ _ _ _=true)=>?_)|exact fun (h:aS _ _ _ _ _=!true)=>Bool.noConfusion (show false=true from h.symm.trans (pk rfl hdd))|exact fun (h:aS _ _ _ _ _=!true)=>Bool.noConfusion (show false=true from h.symm.trans (pk (pk rfl hdd) rfl))|fail)
  have hn2:nd3.ids.length < 4611686018427387904/\nd3.kids.length < 4611686018427387904:=by omega
  refine Exists.intro (nd3,nd3) (Exists.intro [] ?_)
  repeat' (first|exact hn2|apply And.intro|exact trivial|exact rfl|exact zf|exact zh|refine zt ?_|exact Nat.le_of_eq (Nat.zero_add _)|exact (fun (j:Nat) _=>by rw [Nat.zero_add j]; exact Or.inl (aL _ _ _ _))|fail)
  refine fun (y:Bool) (hy:y=decide (nd3=nd3))=>?_
  obtain rfl:y=true:=hy.trans (decide_eq_true rfl)
  clear hy
  repeat' (first|apply And.intro|exact trivial|exact rfl|exact zf|exact zh|refine zt ?_|exact zm N4 rfl|exact zr N4 rfl rfl|exact (pk (pk (pk rfl hdd) rfl) rfl:aS _ _ _ _ _=true)|fail)
end T40
