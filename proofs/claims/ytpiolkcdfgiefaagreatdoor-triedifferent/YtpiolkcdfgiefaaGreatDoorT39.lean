/- A part of the proof. -/
import Derived.Test.YtpiolkcdfgiefaaGreatDoorT38
import Derived.Test.YtpiolkcdfgiefaaGreatDoorT37
open Go Go.Eng Go.Proofs A0 T1 T2 T3 T4 T5 T6 T7 T8 T9 T10 T11 T12 T13 T14 T17 T18 T19 T20 T21 T22 T23 T24 T25 T26 T27 T28 T30 T31 T33 D3 D6 D9 D10 D11 D12 D13 D14 T34 T35 T36 T37 T38
set_option maxRecDepth 100000
namespace T39
def g6:List Nat:=[0,1,7,9,57,69,79,6,8,10,14,16,13,15,122,5,12,11,4]
def c6:aF :=
 .seq (.region g6 [(zo 4 (.move cF))]) (.seq (.region g6 [(zo 17 (.call (.c (.fn 10)) [])),(mv 5 17)]) (.seq (.region g6 [(mv 19 0),(zo 20 (.call (.c (.fn 11)) [.s 19])),(mv 18 20),(zo 21 (.extract 0 (.s 18))),(zo 22 (.extract 1 (.s 18))),(mv 6 21),(mv 7 22)]) (.seq (.region g6 [(mv 24 1),(zo 25 (.call (.c (.fn 11)) [.s 24])),(mv 23 25),(zo 26 (.extract 0 (.s 23))),(zo 27 (.extract 1 (.s 23))),(mv 8 26),(mv 9 27)]) (.seq (.seq (.region g6 [(mv 28 0),(zo 29 (.call (.c (.fn 17)) [.s 28,cj 12])),(zo 30 (.not (.s 29))),(mv 31 30),(mg 32 31 false 1),(zg 33 31 false (.call (.c (.fn 17)) [.s 32,cj 12])),(zg 34 31 false (.not (.s 33))),(zo 35 (.pick (.s 31) cT (.s 34))),(mv 36 35),(mg 37 36 false 7),(zg 38 36 false (.bin (.neq) (.s 37) (cj 0))),(zo 39 (.pick (.s 36) cT (.s 38))),(mv 40 39),(mg 41 40 false 9),(zg 42 40 false (.bin (.neq) (.s 41) (cj 0))),(zo 43 (.pick (.s 40) cT (.s 42))),(mv 44 43),(mg 45 44 false 6),(zg 46 44 false (.call (.c (.fn 23)) [.s 45])),(mg 47 44 false 8),(zg 48 44 false (.call (.c (.fn 23)) [.s 47])),(zg 49 44 false (.bin (.neq) (.s 46) (.s 48))),(zo 50 (.pick (.s 44) cT (.s 49))),(mv 51 50),(mg 52 51 false 6),(zg 53 51 false (.call (.c (.fn 16)) [.s 52])),(mg 54 51 false 8),(zg 55 51 false (.call (.c (.fn 16)) [.s 54])),(zg 56 51 false (.call (.c (.fn 28)) [.s 53,.s 55])),(zo 57 (.pick (.s 51) cT (.s 56)))]) (.cond (.s 57) (.seq (.region g6 [(mv 58 5),(mv 4 58)]) .ret) .skip)) (.seq (.region g6 [(zo 59 (.buildSl 32 2 0 (.cons (.str []) (.cons (.str []) .nil)) [])),(mv 60 6),(zo 61 (.call (.c (.fn 16)) [.s 60])),(zo 62 (.app 32 2 32 (.s 59) (.s 61))),(mv 63 8),(zo 64 (.call (.c (.fn 16)) [.s 63])),(zo 65 (.app 32 2 32 (.s 62) (.s 64))),(mv 10 65)]) (.seq (.seq (.region g6 [(zo 11 (.move (cj 0)))]) (.block 0 (.loop 0 [66,67,68,69,72,73,74,75,76,77,78,79,83,84,85,86,87,88,89,90,91,82,92,93,13,14,95,96,97,98,99,100,101,102,103,94,104,105,15,16,106,107,108,109,110,111,112,113,114,115,116,117,118,119,120,121,122,123,4,80,81,12,70,71,11] (.seq (.seq (.region g6 [(mv 66 11),(mv 67 10),(zo 68 (.lenSl (.s 67))),(zo 69 (.bin (.lss) (.s 66) (.s 68)))]) (.cond (.s 69) .skip (.exit 0))) (.seq (.block 1 (.seq (.region g6 [(zo 12 (.move (cj 0)))]) (.block 2 (.loop 1 [72,73,74,75,76,77,78,79,83,84,85,86,87,88,89,90,91,82,92,93,13,14,95,96,97,98,99,100,101,102,103,94,104,105,15,16,106,107,108,109,110,111,112,113,114,115,116,117,118,119,120,121,122,123,4,80,81,12] (.seq (.seq (.region g6 [(mv 72 12),(mv 73 10),(mv 74 11),(zo 75 (.idxSl 2 (.s 73) (.s 74))),(fa 76 0 75),(ld 77 76),(zo 78 (.lenStr (.s 77))),(zo 79 (.bin (.leq) (.s 72) (.s 78)))]) (.cond (.s 79) .skip (.exit 2))) (.seq (.block 3 (.seq (.region g6 [(mv 83 6),(mv 84 10),(mv 85 11),(zo 86 (.idxSl 2 (.s 84) (.s 85))),(fa 87 0 86),(ld 88 87),(mv 89 12),(zo 90 (.sliceStr (.s 88) none (some (.s 89)))),(zo 91 (.call (.c (.fn 25)) [.s 83,.s 90])),(mv 82 91),(zo 92 (.extract 0 (.s 82))),(zo 93 (.extract 1 (.s 82))),(zo 13 (.alloc 39 (.cons (.nilsl) (.cons (.str []) (.cons (.nilsl) .nil))))),⟨none,none,.store 3 (.s 13) (.s 92),[]⟩,(mv 14 93)]) (.seq (.region g6 [(mv 95 8),(mv 96 10),(mv 97 11),(zo 98 (.idxSl 2 (.s 96) (.s 97))),(fa 99 0 98),(ld 100 99),(mv 101 12),(zo 102 (.sliceStr (.s 100) none (some (.s 101)))),(zo 103 (.call (.c (.fn 25)) [.s 95,.s 102])),(mv 94 103),(zo 104 (.extract 0 (.s 94))),(zo 105 (.extract 1 (.s 94))),(zo 15 (.alloc 39 (.cons (.nilsl) (.cons (.str []) (.cons (.nilsl) .nil))))),⟨none,none,.store 3 (.s 15) (.s 104),[]⟩,(mv 16 105)]) (.seq (.drawn g6 (.pure 0 (mv 106 14) (.pure 1 (mv 107 106) (.pure 2 (mg 108 107 true 16) (.pure 3 (zo 109 (.pick (.s 107) (.s 108) cF)) (.pure 4 (mv 110 109) (.pure 5 (zg 111 110 true (.load 3 true (.s 13))) (.pure 6 (zg 112 110 true (.load 3 true (.s 15))) (.eff 7 (zg 113 110 true (.call (.c (.fn 27)) [.s 111,.s 112])) [] (.pure 8 (zg 114 110 true (.not (.s 113))) (.pure 9 (zo 115 (.pick (.s 110) (.s 114) cF)) (.pure 10 (mv 116 115) (.pure 11 (zg 117 116 true (.load 3 true (.s 13))) (.pure 13 (zg 119 116 true (.load 3 true (.s 15))) (.eff 12 (zg 118 116 true (.call (.c (.fn 19)) [.s 117])) [(zg 119 116 true (.load 3 true (.s 15)))] (.eff 14 (zg 120 116 true (.call (.c (.fn 19)) [.s 119])) [] (.pure 15 (zg 121 116 true (.bin (.eql) (.s 118) (.s 120))) (.pure 16 (zo 122 (.pick (.s 116) (.s 121) cF)) .done)) .none) .none)))))) .none))))))))) (.cond (.s 122) (.seq (.region g6 [(mv 123 5),(mv 4 123)]) .ret) .skip))))) (.region g6 [(mv 80 12),(zo 81 (.bin (.add) (.s 80) (cj 1))),(mv 12 81)]))))))) (.region g6 [(mv 70 11),(zo 71 (.bin (.add) (.s 70) (cj 1))),(mv 11 71)])))))) (.seq (.region g6 [(zo 4 (.move cF))]) .ret)))))))
def r6:List gS:=[.slot 4]
def k6:List (Nat×Nat×aF×Nat):=[]
theorem e6:aO Tryz.prog 6 g6 [] [113,118,120] k6=some (c6,r6,124):=by kernel_rfl
theorem q6:kU Tryz.prog k6:=kU.nil
def W9:aK:=Wf.mof Bool (fun x y=>y=decide (x.1=x.2)) (fun _ y=>.bool y)
theorem Wu:W9.Ok Tryz.prog 28:=Eng.Spec.iN Lp fun _ _=>⟨_,rfl,rfl⟩
def Xg:Eng.Spec where
 X:=List Ky×List Ky
 args:=fun x=>.cons (ksE x.1) (.cons (ksE x.2) .nil)
 pre:=fun x=>(x.1.length < 4611686018427387904/\∀ j,j < x.1.length->(x.1.getD j k0).1.length < 4611686018427387904)/\x.2.length < 4611686018427387904/\∀ j,j < x.2.length->(x.2.getD j k0).1.length < 4611686018427387904
 res:=fun _=>.bool true
 inst:=fun _=>none
theorem o1 {a z:Bool} {n:Nat} (h:a=true):aS a cT (.s n) true z=true:=by rw [dH,h]; rfl
theorem o2 {a z:Bool} {n:Nat} (h:z=true):aS a cT (.s n) true z=true:=by rw [dH,h,Bool.or_true]
theorem o3 {a z:Bool} {n:Nat} (h:a=false) (k:z=false):aS a cT (.s n) true z=false:=by rw [dH,h,k]; rfl
def WT (A C:TT) (p:B):Prop:=∀ s s',cL p A=some s->cL p C=some s'->oI Dd s=oI Dd s'->ndT s=ndT s'
theorem Wt {D:Dg} {T:TT} {N:Nat->NO} {c r:Nat} {K:Int} (h:Tr D T N c r K) {k:Ky} (hk:k∈bS [] T):k.1.length<=120:=by
 obtain ⟨s,e,hm⟩:=(mem_keys T [] h.wf k.1 k.2).1 hk
 rw [List.nil_append] at e
 rw [e]
 exact tY (h.val _ _ hm)
theorem Xd {k:Keep} {hp:List (Nat×aC)} {L M:List Ky} {n:Nat}:∀ j,j < n->iC k (sub k hp 200) (dZ L.length (fun j=>oL (L.getD (0+j) k0)) (fun j=>oL (M.getD (0+j) k0)) j) (oL ((L++M).getD j k0)):=by
 intro j _
 have e:dZ L.length (fun j=>oL (L.getD (0+j) k0)) (fun j=>oL (M.getD (0+j) k0)) j=oL ((L++M).getD j k0):=by
  unfold dZ
  rw [yI]
  split
  ·rename_i h
   show oL (L.getD (0+j) k0)=_
   rw [Nat.zero_add,List.getD_eq_getElem?_getD,List.getD_eq_getElem?_getD,List.getElem?_append_left h]
  ·rename_i h
   show oL (M.getD (0+(j - L.length)) k0)=_
   rw [Nat.zero_add,List.getD_eq_getElem?_getD,List.getD_eq_getElem?_getD,List.getElem?_append_right (Nat.le_of_not_lt h)]
 rw [e]
 exact Or.inl (aT _ _ _ _)
theorem Xc {p:B} {T s:TT} {N:Nat->NO} {c r:Nat} {K:Int} (h:cL p T=some s) (k:Tr Dd T N c r K) (hs:szT T<=12):((ndT s).ids.length<=100000/\(ndT s).kids.length<=100000)/\(dP (D6.bW (ndT s)++fH (ndT s) (ndT s).kids.length)).length<=140737488355328:=by
 obtain ⟨f1,_,f3,_,f5⟩:=xU p h k.wf k.facts.1 k.facts.2.1
 exact Ts f1 (Nat.le_trans f5 hs) f3
attribute [local irreducible] D9.Dd D6.kL oI T19.eZ
set_option maxHeartbeats 16000000 in
theorem W8:Xg.Ok Tryz.prog 6:=by
 refine Eng.Spec.okR e6 q6 (fun _=>[(10,.p Q1),(11,.m (Tt Dd)),(17,.m U7),(23,.m Xj),(16,.m Vj),(28,.m W9),(25,.m Xh),(27,.m Rh),(19,.m Sl)]) (fun _ _=>aD.p O6 (aD.m (Mi Dd) (aD.m Ow (aD.m Xf (aD.m Tl (aD.m Wu (aD.m Xe (aD.m M4 (aD.m Gp aD.nil))))))))) ?_
 rintro ⟨l,m⟩ ⟨(hpn:l.length < 4611686018427387904/\∀ j,j < l.length->(l.getD j k0).1.length < 4611686018427387904),(hpm:m.length < 4611686018427387904/\∀ j,j < m.length->(m.getD j k0).1.length < 4611686018427387904)⟩
 refine ⟨trivial,?_⟩
 have hl:l.length < 4611686018427387904:=hpn.1
 have hm:m.length < 4611686018427387904:=hpm.1
 repeat' (first|apply And.intro|exact trivial|exact rfl|exact zf|exact zh|refine zt ?_|fail)
 refine Exists.intro l (Exists.intro [] ?_)
 repeat' (first|exact hpn|apply And.intro|exact trivial|exact rfl|exact zf|exact zh|refine zt ?_|exact fun (j:Nat) (hj:j < _)=>Or.inl (aT _ _ _ _)|fail)
 refine fun (y:NY) (hy:(y.e=(T19.eZ l).1/\y.o=decide (y.e=0))/\(y.o=true->Tr Dd (T19.eZ l).2 y.N y.c y.r y.K/\0<=y.K/\y.K<=20000000))=>?_
 obtain ⟨e,o,N,c,r,K⟩:=y
 obtain ⟨⟨(he:e=(T19.eZ l).1),(ho:o=decide (e=0))⟩,htr⟩:=hy
 cases o with
 | false =>
  have hne:decide (e=0)=false:=ho.symm
  repeat' (first|apply And.intro|exact trivial|exact rfl|exact zf|exact zh|refine zt ?_|fail)
  refine Exists.intro m (Exists.intro [] ?_)
  repeat' (first|exact hpm|apply And.intro|exact trivial|exact rfl|exact zf|exact zh|refine zt ?_|exact fun (j:Nat) (hj:j < _)=>Or.inl (aT _ _ _ _)|fail)
  refine fun (y:NY) (hy:(y.e=(T19.eZ m).1/\y.o=decide (y.e=0))/\(y.o=true->Tr Dd (T19.eZ m).2 y.N y.c y.r y.K/\0<=y.K/\y.K<=20000000))=>?_
  clear hy
  obtain ⟨e2,o2,M,c2,r2,Kq2⟩:=y
  cases o2
  ·repeat' (first|apply And.intro|exact trivial|exact rfl|exact zf|exact zh|refine zt ?_|exact zm M rfl|exact zr M rfl rfl|fail)
   refine Exists.intro (l,12) (Exists.intro [] ?_)
   repeat' (first|exact hl|apply And.intro|exact trivial|exact rfl|exact zf|exact zh|refine zt ?_|exact fun (j:Nat) (hj:j < _)=>Or.inl (aT _ _ _ _)|fail)
   refine fun (y:Bool) (hf1:y=rR l 12)=>?_
   cases y
   ·repeat' (first|apply And.intro|exact trivial|exact rfl|exact zf|exact zh|refine zt ?_|exact fun (j:Nat) (hj:j < _)=>Or.inl (aT _ _ _ _)|exact zm N rfl|exact zr N rfl rfl|exact zm M rfl|exact zr M rfl rfl|fail)
   repeat' (first|apply And.intro|exact trivial|exact rfl|exact zf|exact zh|refine zt ?_|exact fun (j:Nat) (hj:j < _)=>Or.inl (aT _ _ _ _)|exact zm N rfl|exact zr N rfl rfl|exact zm M rfl|exact zr M rfl rfl|fail)
   refine Exists.intro (m,12) (Exists.intro [] ?_)
   repeat' (first|exact hm|apply And.intro|exact trivial|exact rfl|exact zf|exact zh|refine zt ?_|exact fun (j:Nat) (hj:j < _)=>Or.inl (aT _ _ _ _)|fail)
   refine fun (y:Bool) (hf2:y=rR m 12)=>?_
   cases y
   ·repeat' (first|apply And.intro|exact trivial|exact rfl|exact zf|exact zh|refine zt ?_|exact fun (j:Nat) (hj:j < _)=>Or.inl (aT _ _ _ _)|exact zm N rfl|exact zr N rfl rfl|exact zm M rfl|exact zr M rfl rfl|fail)
   repeat' (first|apply And.intro|exact trivial|exact rfl|exact zf|exact zh|refine zt ?_|exact fun (j:Nat) (hj:j < _)=>Or.inl (aT _ _ _ _)|exact zm N rfl|exact zr N rfl rfl|exact zm M rfl|exact zr M rfl rfl|exact fun (hx:aS _ _ _ _ _=false)=>Bool.noConfusion (hx.symm.trans (o1 (o2 (congrArg not hne))))|exact fun (hx:aS _ _ _ _ _=false)=>Bool.noConfusion (hx.symm.trans (o1 (o1 (o2 (congrArg not hne)))))|exact fun (hx:aS _ _ _ _ _=false)=>Bool.noConfusion (hx.symm.trans (o1 (o1 (o1 (o2 (congrArg not hne))))))|(refine fun (_:aS _ _ _ _ _=!false)=>?_)|(refine fun (_:aS _ _ _ _ _=true)=>?_)|fail)
   exact o1 (o2 (congrArg not hne))
  ·repeat' (first|apply And.intro|exact trivial|exact rfl|exact zf|exact zh|refine zt ?_|exact zm M rfl|exact zr M rfl rfl|fail)
   refine Exists.intro (l,12) (Exists.intro [] ?_)
   repeat' (first|exact hl|apply And.intro|exact trivial|exact rfl|exact zf|exact zh|refine zt ?_|exact fun (j:Nat) (hj:j < _)=>Or.inl (aT _ _ _ _)|fail)
   refine fun (y:Bool) (hf1:y=rR l 12)=>?_
   cases y
   ·repeat' (first|apply And.intro|exact trivial|exact rfl|exact zf|exact zh|refine zt ?_|exact fun (j:Nat) (hj:j < _)=>Or.inl (aT _ _ _ _)|exact zm N rfl|exact zr N rfl rfl|exact zm M rfl|exact zr M rfl rfl|fail)
   repeat' (first|apply And.intro|exact trivial|exact rfl|exact zf|exact zh|refine zt ?_|exact fun (j:Nat) (hj:j < _)=>Or.inl (aT _ _ _ _)|exact zm N rfl|exact zr N rfl rfl|exact zm M rfl|exact zr M rfl rfl|fail)
   refine Exists.intro (m,12) (Exists.intro [] ?_)
   repeat' (first|exact hm|apply And.intro|exact trivial|exact rfl|exact zf|exact zh|refine zt ?_|exact fun (j:Nat) (hj:j < _)=>Or.inl (aT _ _ _ _)|fail)
   refine fun (y:Bool) (hf2:y=rR m 12)=>?_
   cases y
   ·repeat' (first|apply And.intro|exact trivial|exact rfl|exact zf|exact zh|refine zt ?_|exact fun (j:Nat) (hj:j < _)=>Or.inl (aT _ _ _ _)|exact zm N rfl|exact zr N rfl rfl|exact zm M rfl|exact zr M rfl rfl|fail)
   repeat' (first|apply And.intro|exact trivial|exact rfl|exact zf|exact zh|refine zt ?_|exact fun (j:Nat) (hj:j < _)=>Or.inl (aT _ _ _ _)|exact zm N rfl|exact zr N rfl rfl|exact zm M rfl|exact zr M rfl rfl|exact fun (hx:aS _ _ _ _ _=false)=>Bool.noConfusion (hx.symm.trans (o1 (o2 (congrArg not hne))))|exact fun (hx:aS _ _ _ _ _=false)=>Bool.noConfusion (hx.symm.trans (o1 (o1 (o2 (congrArg not hne)))))|exact fun (hx:aS _ _ _ _ _=false)=>Bool.noConfusion (hx.symm.trans (o1 (o1 (o1 (o2 (congrArg not hne))))))|(refine fun (_:aS _ _ _ _ _=!false)=>?_)|(refine fun (_:aS _ _ _ _ _=true)=>?_)|fail)
   exact o1 (o2 (congrArg not hne))
 | true =>
  have he0:e=0:=of_decide_eq_true ho.symm
  subst he0
  obtain ⟨(htr:Tr Dd (T19.eZ l).2 N c r K),(hK0:0<=K),(hK1:K<=20000000)⟩:=htr rfl
  obtain ⟨A,hA⟩:∃ T,T19.eZ l=(0,T):=⟨(T19.eZ l).2,by rw [he]⟩
  rw [hA] at htr
  obtain ⟨wq1,hszA,_⟩:=Ww hA
  repeat' (first|apply And.intro|exact trivial|exact rfl|exact zf|exact zh|refine zt ?_|exact zm N rfl|exact zr N rfl rfl|fail)
  refine Exists.intro m (Exists.intro [] ?_)
  repeat' (first|exact hpm|apply And.intro|exact trivial|exact rfl|exact zf|exact zh|refine zt ?_|exact fun (j:Nat) (hj:j < _)=>Or.inl (aT _ _ _ _)|fail)
  refine fun (y:NY) (hy:(y.e=(T19.eZ m).1/\y.o=decide (y.e=0))/\(y.o=true->Tr Dd (T19.eZ m).2 y.N y.c y.r y.K/\0<=y.K/\y.K<=20000000))=>?_
  obtain ⟨e2,o2,M,c2,r2,Kq2⟩:=y
  obtain ⟨⟨(he2:e2=(T19.eZ m).1),(ho2:o2=decide (e2=0))⟩,htr2⟩:=hy
  cases o2 with
  | false =>
   have hne:decide (e2=0)=false:=ho2.symm
   repeat' (first|apply And.intro|exact trivial|exact rfl|exact zf|exact zh|refine zt ?_|exact zm N rfl|exact zr N rfl rfl|exact zm M rfl|exact zr M rfl rfl|fail)
   refine Exists.intro (l,12) (Exists.intro [] ?_)
   repeat' (first|exact hl|apply And.intro|exact trivial|exact rfl|exact zf|exact zh|refine zt ?_|exact fun (j:Nat) (hj:j < _)=>Or.inl (aT _ _ _ _)|fail)
   refine fun (y:Bool) (hf1:y=rR l 12)=>?_
   cases y
   ·repeat' (first|apply And.intro|exact trivial|exact rfl|exact zf|exact zh|refine zt ?_|exact fun (j:Nat) (hj:j < _)=>Or.inl (aT _ _ _ _)|exact zm N rfl|exact zr N rfl rfl|exact zm M rfl|exact zr M rfl rfl|fail)
   repeat' (first|apply And.intro|exact trivial|exact rfl|exact zf|exact zh|refine zt ?_|exact fun (j:Nat) (hj:j < _)=>Or.inl (aT _ _ _ _)|exact zm N rfl|exact zr N rfl rfl|exact zm M rfl|exact zr M rfl rfl|fail)
   refine Exists.intro (m,12) (Exists.intro [] ?_)
   repeat' (first|exact hm|apply And.intro|exact trivial|exact rfl|exact zf|exact zh|refine zt ?_|exact fun (j:Nat) (hj:j < _)=>Or.inl (aT _ _ _ _)|fail)
   refine fun (y:Bool) (hf2:y=rR m 12)=>?_
   cases y
   ·repeat' (first|apply And.intro|exact trivial|exact rfl|exact zf|exact zh|refine zt ?_|exact fun (j:Nat) (hj:j < _)=>Or.inl (aT _ _ _ _)|exact zm N rfl|exact zr N rfl rfl|exact zm M rfl|exact zr M rfl rfl|fail)
   repeat' (first|apply And.intro|exact trivial|exact rfl|exact zf|exact zh|refine zt ?_|exact fun (j:Nat) (hj:j < _)=>Or.inl (aT _ _ _ _)|exact zm N rfl|exact zr N rfl rfl|exact zm M rfl|exact zr M rfl rfl|exact fun (hx:aS _ _ _ _ _=false)=>Bool.noConfusion (hx.symm.trans (o2 (congrArg not hne)))|exact fun (hx:aS _ _ _ _ _=false)=>Bool.noConfusion (hx.symm.trans (o1 (o2 (congrArg not hne))))|exact fun (hx:aS _ _ _ _ _=false)=>Bool.noConfusion (hx.symm.trans (o1 (o1 (o2 (congrArg not hne)))))|(refine fun (_:aS _ _ _ _ _=!false)=>?_)|(refine fun (_:aS _ _ _ _ _=true)=>?_)|fail)
   exact congrArg not hne
  | true =>
   have he0:e2=0:=of_decide_eq_true ho2.symm
   subst he0
   obtain ⟨(htr2:Tr Dd (T19.eZ m).2 M c2 r2 Kq2),(hK2:0<=Kq2),(hK3:Kq2<=20000000)⟩:=htr2 rfl
   obtain ⟨C,hC⟩:∃ T,T19.eZ m=(0,T):=⟨(T19.eZ m).2,by rw [he2]⟩
   rw [hC] at htr2
   obtain ⟨wq2,hszC,_⟩:=Ww hC
   repeat' (first|apply And.intro|exact trivial|exact rfl|exact zf|exact zh|refine zt ?_|exact zm N rfl|exact zr N rfl rfl|exact zm M rfl|exact zr M rfl rfl|fail)
   refine Exists.intro (l,12) (Exists.intro [] ?_)
   repeat' (first|exact hl|apply And.intro|exact trivial|exact rfl|exact zf|exact zh|refine zt ?_|exact fun (j:Nat) (hj:j < _)=>Or.inl (aT _ _ _ _)|fail)
   refine fun (y:Bool) (hf1:y=rR l 12)=>?_
   cases y
   ·repeat' (first|apply And.intro|exact trivial|exact rfl|exact zf|exact zh|refine zt ?_|exact fun (j:Nat) (hj:j < _)=>Or.inl (aT _ _ _ _)|exact zm N rfl|exact zr N rfl rfl|exact zm M rfl|exact zr M rfl rfl|fail)
   repeat' (first|apply And.intro|exact trivial|exact rfl|exact zf|exact zh|refine zt ?_|exact fun (j:Nat) (hj:j < _)=>Or.inl (aT _ _ _ _)|exact zm N rfl|exact zr N rfl rfl|exact zm M rfl|exact zr M rfl rfl|fail)
   refine Exists.intro (m,12) (Exists.intro [] ?_)
   repeat' (first|exact hm|apply And.intro|exact trivial|exact rfl|exact zf|exact zh|refine zt ?_|exact fun (j:Nat) (hj:j < _)=>Or.inl (aT _ _ _ _)|fail)
   refine fun (y:Bool) (hf2:y=rR m 12)=>?_
   cases y
   ·repeat' (first|apply And.intro|exact trivial|exact rfl|exact zf|exact zh|refine zt ?_|exact fun (j:Nat) (hj:j < _)=>Or.inl (aT _ _ _ _)|exact zm N rfl|exact zr N rfl rfl|exact zm M rfl|exact zr M rfl rfl|fail)
   repeat' (first|apply And.intro|exact trivial|exact rfl|exact zf|exact zh|refine zt ?_|exact fun (j:Nat) (hj:j < _)=>Or.inl (aT _ _ _ _)|exact zm N rfl|exact zr N rfl rfl|exact zm M rfl|exact zr M rfl rfl|fail)
   have hsA:szT A<=12:=by rw [hszA]; have:=hf1.symm; unfold rR at this; rw [Bool.and_eq_true,decide_eq_true_eq] at this; omega
   have hsC:szT C<=12:=by rw [hszC]; have:=hf2.symm; unfold rR at this; rw [Bool.and_eq_true,decide_eq_true_eq] at this; omega
   have hu1:UOk ⟨A,N,c,r,K,[]⟩:=⟨htr,hsA,by show 0<=_; decide⟩
   refine Exists.intro ⟨A,N,c,r,K,[]⟩ (Exists.intro [0,1] ?_)
   repeat' (first|exact hu1|apply And.intro|exact trivial|exact rfl|exact zf|exact zh|refine zt ?_|exact zm N rfl|exact zr N rfl rfl|exact zm M rfl|exact zr M rfl rfl|fail)
   refine fun (N1:Nat->NO) (h1:Tr Dd A N1 c r K)=>?_
   have hu2:UOk ⟨C,M,c2,r2,Kq2,[]⟩:=⟨htr2,hsC,by show 0<=_; decide⟩
   repeat' (first|apply And.intro|exact trivial|exact rfl|exact zf|exact zh|refine zt ?_|exact zm N1 rfl|exact zr N1 rfl rfl|exact zm M rfl|exact zr M rfl rfl|fail)
   refine Exists.intro ⟨C,M,c2,r2,Kq2,[]⟩ (Exists.intro [2,3] ?_)
   repeat' (first|exact hu2|apply And.intro|exact trivial|exact rfl|exact zf|exact zh|refine zt ?_|exact zm N1 rfl|exact zr N1 rfl rfl|exact zm M rfl|exact zr M rfl rfl|fail)
   refine fun (Mq1:Nat->NO) (h2:Tr Dd C Mq1 c2 r2 Kq2)=>?_
   repeat' (first|apply And.intro|exact trivial|exact rfl|exact zf|exact zh|refine zt ?_|exact zm N1 rfl|exact zr N1 rfl rfl|exact zm Mq1 rfl|exact zr Mq1 rfl rfl|fail)
   rotate_left
   ·refine fun (hx:aS _ _ _ _ _=!false)=>?_
    repeat' (first|apply And.intro|exact trivial|exact rfl|exact zf|exact zh|refine zt ?_|exact zm N1 rfl|exact zr N1 rfl rfl|exact zm Mq1 rfl|exact zr Mq1 rfl rfl|exact fun (hy:aS _ _ _ _ _=false)=>Bool.noConfusion (hx.symm.trans hy)|(refine fun (_:aS _ _ _ _ _=!false)=>?_)|(refine fun (_:aS _ _ _ _ _=true)=>?_)|fail)
    exact hx
   refine fun (hx:aS _ _ _ _ _=false)=>?_
   have hd:oI Dd A=oI Dd C:=by
    rw [dH,Bool.or_eq_false_iff,Bool.not_eq_false',decide_eq_true_eq] at hx
    exact hx.2
   have hu3:UOk ⟨A,N1,c,r,K,[]⟩:=⟨h1,hsA,by show 0<=_; decide⟩
   have hu4:UOk ⟨C,Mq1,c2,r2,Kq2,[]⟩:=⟨h2,hsC,by show 0<=_; decide⟩
   refine Exists.intro ⟨A,N1,c,r,K,[]⟩ (Exists.intro [0,1] ?_)
   repeat' (first|exact hu3|apply And.intro|exact trivial|exact rfl|exact zf|exact zh|refine zt ?_|exact zm N1 rfl|exact zr N1 rfl rfl|exact zm Mq1 rfl|exact zr Mq1 rfl rfl|fail)
   refine fun (L1:List Ky) (hL1:L1=bS [] A)=>?_
   repeat' (first|apply And.intro|exact trivial|exact rfl|exact zf|exact zh|refine zt ?_|exact zm N1 rfl|exact zr N1 rfl rfl|exact zm Mq1 rfl|exact zr Mq1 rfl rfl|(refine fun (_:aS _ _ _ _ _=false)=>?_)|exact fun (hy:aS _ _ _ _ _=!false)=>Bool.noConfusion (hy.symm.trans hx)|fail)
   refine Exists.intro ⟨C,Mq1,c2,r2,Kq2,[]⟩ (Exists.intro [2,3] ?_)
   repeat' (first|exact hu4|apply And.intro|exact trivial|exact rfl|exact zf|exact zh|refine zt ?_|exact zm N1 rfl|exact zr N1 rfl rfl|exact zm Mq1 rfl|exact zr Mq1 rfl rfl|fail)
   refine fun (L2:List Ky) (hL2:L2=bS [] C)=>?_
   repeat' (first|apply And.intro|exact trivial|exact rfl|exact zf|exact zh|refine zt ?_|exact zm N1 rfl|exact zr N1 rfl rfl|exact zm Mq1 rfl|exact zr Mq1 rfl rfl|(refine fun (_:aS _ _ _ _ _=false)=>?_)|exact fun (hy:aS _ _ _ _ _=!false)=>Bool.noConfusion (hy.symm.trans hx)|fail)
   have hc1:L1.length<=12:=by rw [hL1,qP]; exact hsA
   have hc2:L2.length<=12:=by rw [hL2,qP]; exact hsC
   have hn1:L1.length < 4611686018427387904:=by rw [hL1,qP]; omega
   refine Exists.intro (L1,L2) (Exists.intro [] ?_)
   repeat' (first|exact hn1|apply And.intro|exact trivial|exact rfl|exact zf|exact zh|refine zt ?_|exact fun (j:Nat) (hj:j < _)=>Or.inl (aT _ _ _ _)|fail)
   ·exact Nat.le_of_eq (Nat.zero_add _)
   ·exact (fun (j:Nat) _=>by rw [Nat.zero_add j]; exact Or.inl (aT _ _ _ _))
   ·exact Nat.le_of_eq (Nat.zero_add _)
   ·exact (fun (j:Nat) _=>by rw [Nat.zero_add j]; exact Or.inl (aT _ _ _ _))
   refine fun (y:Bool) (hy:y=decide (L1=L2))=>?_
   cases y
   rotate_left
   ·repeat' (first|apply And.intro|exact trivial|exact rfl|exact zf|exact zh|refine zt ?_|exact zm N1 rfl|exact zr N1 rfl rfl|exact zm Mq1 rfl|exact zr Mq1 rfl rfl|exact fun (hz:aS _ _ _ true true=false)=>Bool.noConfusion (hz.symm.trans (o2 rfl))|(refine fun (_:aS _ _ _ _ _=false)=>?_)|exact fun (hy:aS _ _ _ _ _=!false)=>Bool.noConfusion (hy.symm.trans hx)|(refine fun (_:aS _ _ _ _ _=true)=>?_)|fail)
   have hne:bS [] A≠bS [] C:=by rw [<- hL1,<- hL2]; exact of_decide_eq_false hy.symm
   repeat' (first|apply And.intro|exact trivial|exact rfl|exact zf|exact zh|refine zt ?_|exact zm N1 rfl|exact zr N1 rfl rfl|exact zm Mq1 rfl|exact zr Mq1 rfl rfl|(refine fun (_:aS _ _ _ _ _=false)=>?_)|exact fun (hy:aS _ _ _ _ _=!false)=>Bool.noConfusion (hy.symm.trans hx)|exact fun (hz:aS _ _ _ _ _=true)=>Bool.noConfusion (hz.symm.trans (o3 hx rfl))|fail)
   refine Exists.intro ⟨A,N1,c,r,K,[]⟩ (Exists.intro [0,1] ?_)
   repeat' (first|exact hu3|apply And.intro|exact trivial|exact rfl|exact zf|exact zh|refine zt ?_|exact zm N1 rfl|exact zr N1 rfl rfl|exact zm Mq1 rfl|exact zr Mq1 rfl rfl|fail)
   refine fun (L3:List Ky) (hL3:L3=bS [] A)=>?_
   obtain rfl:L1=L3:=hL1.trans hL3.symm
   clear hL3
   repeat' (first|apply And.intro|exact trivial|exact rfl|exact zf|exact zh|refine zt ?_|exact zm N1 rfl|exact zr N1 rfl rfl|exact zm Mq1 rfl|exact zr Mq1 rfl rfl|fail)
   ·exact Nat.le_of_eq (Nat.zero_add _)
   ·exact fun _ _=>rfl
   ·show L1.length<=9223372036854775807
    omega
   ·show L1.length * 32<=140737488355328
    omega
   refine Exists.intro ⟨C,Mq1,c2,r2,Kq2,[]⟩ (Exists.intro [2,3] ?_)
   repeat' (first|exact hu4|apply And.intro|exact trivial|exact rfl|exact zf|exact zh|refine zt ?_|exact zm N1 rfl|exact zr N1 rfl rfl|exact zm Mq1 rfl|exact zr Mq1 rfl rfl|fail)
   refine fun (L3:List Ky) (hL3:L3=bS [] C)=>?_
   obtain rfl:L2=L3:=hL2.trans hL3.symm
   clear hL3
   repeat' (first|apply And.intro|exact trivial|exact rfl|exact zf|exact zh|refine zt ?_|exact zm N1 rfl|exact zr N1 rfl rfl|exact zm Mq1 rfl|exact zr Mq1 rfl rfl|fail)
   ·exact Nat.le_of_eq (Nat.zero_add _)
   ·exact fun _ _=>rfl
   ·show L1.length+L2.length<=9223372036854775807
    omega
   ·show (L1.length+L2.length) * 32<=140737488355328
    omega
   have hLl:L1.length+L2.length=(L1++L2).length:=List.length_append.symm
   have hL24:(L1++L2).length<=24:=by omega
   have hsh:∀ i,i < (L1++L2).length->((L1++L2).getD i k0).1.length<=120:=fun i hi=>by
    have hm:(L1++L2).getD i k0∈L1++L2:=by rw [List.getD_eq_getElem?_getD,List.getElem?_eq_getElem hi]; exact List.getElem_mem hi
    rcases List.mem_append.1 hm with h|h
    ·exact Wt h1 (show _∈bS [] A by rw [<- hL1]; exact h)
    ·exact Wt h2 (show _∈bS [] C by rw [<- hL2]; exact h)
   refine ⟨⟨Nat×(Nat->NO)×(Nat->NO),fun s=>s.1<=(L1++L2).length/\(∀ i,i < s.1->∀ n,n<=((L1++L2).getD i k0).1.length->WT A C (((L1++L2).getD i k0).1.take n))/\Tr Dd A s.2.1 c r K/\Tr Dd C s.2.2 c2 r2 Kq2,fun s=>[(11,.int .i64 (s.1:Int)),(10,.lsl 40 2 (L1++L2).length)],fun s=>[ksH 40 (L1++L2),(0,.cells 64 (.cons (.fown 1 r 0) .nil)),(1,.fam fun q=>noO 1 (s.2.1 q)),(2,.cells 64 (.cons (.fown 3 r2 0) .nil)),(3,.fam fun q=>noO 3 (s.2.2 q))],fun s=>(L1++L2).length - s.1⟩,(0,N1,Mq1),?_,?_,?_⟩
   ·exact ⟨Nat.zero_le _,fun i hi=>absurd hi (Nat.not_lt_zero i),h1,h2⟩
   ·repeat' (first|apply And.intro|exact trivial|exact rfl|exact zf|exact zh|refine zt ?_|exact zm N1 rfl|exact zr N1 rfl rfl|exact zm Mq1 rfl|exact zr Mq1 rfl rfl|exact fun (j:Nat) (hj:j < _)=>Or.inl (aT _ _ _ _)|fail)
    ·exact hLl
    ·exact hLl
    ·exact Xd
   rintro ⟨j,N2,M2⟩ ⟨(kj:j<=(L1++L2).length),(kw0:∀ i,i < j->∀ n,n<=((L1++L2).getD i k0).1.length->WT A C (((L1++L2).getD i k0).1.take n)),(k1:Tr Dd A N2 c r K),(k2:Tr Dd C M2 c2 r2 Kq2)⟩
   generalize hL:L1++L2=L at *
   repeat' (first|apply And.intro|exact trivial|exact rfl|exact zf|exact zh|refine zt ?_|fail)
   ·refine fun (hg:decide ((j:Int) < (L.length:Int))=true)=>?_
    have g1:(j:Int) < (L.length:Int):=of_decide_eq_true hg
    have hj:j < L.length:=by omega
    have g0:(0:Int)<=(j:Int):=by omega
    have g2:-9223372036854775808<=(j:Int)+1:=by omega
    have g3:(j:Int)+1<=9223372036854775807:=by omega
    have hlt:=hsh j hj
    have e0:L.getD (0+(j:Int).toNat) k0=L.getD j k0:=by rw [Nat.zero_add]; rfl
    repeat' (first|apply And.intro|exact trivial|exact rfl|exact zf|exact zh|refine zt ?_|(with_reducible first|exact g0|exact g1)|fail)
    refine ⟨⟨Nat×(Nat->NO)×(Nat->NO),fun s=>s.1<=(L.getD j k0).1.length+1/\(∀ n,n < s.1->WT A C ((L.getD j k0).1.take n))/\Tr Dd A s.2.1 c r K/\Tr Dd C s.2.2 c2 r2 Kq2,fun s=>[(12,.int .i64 (s.1:Int)),(11,.int .i64 (j:Int)),(10,.lsl 40 2 L.length)],fun s=>[ksH 40 L,(0,.cells 64 (.cons (.fown 1 r 0) .nil)),(1,.fam fun q=>noO 1 (s.2.1 q)),(2,.cells 64 (.cons (.fown 3 r2 0) .nil)),(3,.fam fun q=>noO 3 (s.2.2 q))],fun s=>(L.getD j k0).1.length+1 - s.1⟩,(0,N2,M2),?_,?_,?_⟩
    ·exact ⟨Nat.zero_le _,fun n hn=>absurd hn (Nat.not_lt_zero n),k1,k2⟩
    ·repeat' (first|apply And.intro|exact trivial|exact rfl|exact zf|exact zh|refine zt ?_|exact zm N2 rfl|exact zr N2 rfl rfl|exact zm M2 rfl|exact zr M2 rfl rfl|exact fun (j:Nat) (hj:j < _)=>Or.inl (aT _ _ _ _)|fail)
    rintro ⟨n,N3,Mq3⟩ ⟨(kn:n<=(L.getD j k0).1.length+1),(kv0:∀ i,i < n->WT A C ((L.getD j k0).1.take i)),(k3:Tr Dd A N3 c r K),(k4:Tr Dd C Mq3 c2 r2 Kq2)⟩
    repeat' (first|apply And.intro|exact trivial|exact rfl|exact zf|exact zh|refine zt ?_|(with_reducible first|exact g0|exact g1)|fail)
    ·show 0+(j:Int).toNat < L.length
     omega
    ·refine fun (hg:decide ((n:Int)<=_)=true)=>?_
     have f1:(n:Int)<=((L.getD (0+(j:Int).toNat) k0).1.length:Int):=of_decide_eq_true hg
     have hn:n<=(L.getD j k0).1.length:=by rw [e0] at f1; omega
     have f0:(0:Int)<=(n:Int):=by omega
     have f2:-9223372036854775808<=(n:Int)+1:=by omega
     have f3:(n:Int)+1<=9223372036854775807:=by omega
     have g6:0+(j:Int).toNat < L.length:=by omega
     obtain ⟨p,hp⟩:∃ p,(L.getD j k0).1.take n=p:=⟨_,rfl⟩
     have hpe:(L.getD (0+(j:Int).toNat) k0).1.take (n:Int).toNat=p:=by rw [e0]; exact hp
     have hpl:p.length<=1000000:=by rw [<- hp,List.length_take]; omega
     have hu5:UOk ⟨A,N3,c,r,K,p⟩:=⟨k3,hsA,hpl⟩
     have hu6:UOk ⟨C,Mq3,c2,r2,Kq2,p⟩:=⟨k4,hsC,hpl⟩
     repeat' (first|apply And.intro|exact trivial|exact rfl|exact zf|exact zh|refine zt ?_|(with_reducible first|exact g0|exact g1|exact f0|exact f1)|exact g6|fail)
     refine Exists.intro ⟨A,N3,c,r,K,p⟩ (Exists.intro [0,1] ?_)
     repeat' (first|exact hu5|apply And.intro|exact trivial|exact rfl|exact zf|exact zh|refine zt ?_|exact hpe|exact zm N3 rfl|exact zr N3 rfl rfl|exact zm Mq3 rfl|exact zr Mq3 rfl rfl|fail)
     refine fun (y:(Nat->NO)×ND×Bool) (hy:Tr Dd A y.1 c r K/\y.2.1=ndO (cL p A)/\y.2.2=(cL p A).isSome)=>?_
     obtain ⟨N4,nd1,b1⟩:=y
     obtain ⟨(k5:Tr Dd A N4 c r K),(hd1:nd1=ndO (cL p A)),(hb1:b1=(cL p A).isSome)⟩:=hy
     repeat' (first|apply And.intro|exact trivial|exact rfl|exact zf|exact zh|refine zt ?_|(with_reducible first|exact g0|exact g1|exact f0|exact f1)|exact g6|exact zm N4 rfl|exact zr N4 rfl rfl|exact zm Mq3 rfl|exact zr Mq3 rfl rfl|fail)
     refine Exists.intro ⟨C,Mq3,c2,r2,Kq2,p⟩ (Exists.intro [2,3] ?_)
     repeat' (first|exact hu6|apply And.intro|exact trivial|exact rfl|exact zf|exact zh|refine zt ?_|exact hpe|exact zm N4 rfl|exact zr N4 rfl rfl|exact zm Mq3 rfl|exact zr Mq3 rfl rfl|fail)
     refine fun (y:(Nat->NO)×ND×Bool) (hy:Tr Dd C y.1 c2 r2 Kq2/\y.2.1=ndO (cL p C)/\y.2.2=(cL p C).isSome)=>?_
     obtain ⟨Mq4,nd2,b2⟩:=y
     obtain ⟨(k6:Tr Dd C Mq4 c2 r2 Kq2),(hd2:nd2=ndO (cL p C)),(hb2:b2=(cL p C).isSome)⟩:=hy
     have f4:n+1<=(L.getD j k0).1.length+1:=Nat.succ_le_succ hn
     have f5:(L.getD j k0).1.length+1 - (n+1) < (L.getD j k0).1.length+1 - n:=by omega
     have hgo:WT A C p->∀ i,i < n+1->WT A C ((L.getD j k0).1.take i):=fun h i hi=>by
      by_cases e:i=n
      ·rw [e,hp]; exact h
      ·exact kv0 i (by omega)
     cases b1
     ·have kV2:=hgo (fun s s' h1 _ _=>by rw [h1] at hb1; cases hb1)
      repeat' (first|apply And.intro|exact trivial|exact rfl|exact zf|exact zh|refine zt ?_|(with_reducible first|exact f2|exact f3)|exact zm N4 rfl|exact zr N4 rfl rfl|exact zm Mq4 rfl|exact zr Mq4 rfl rfl|fail)
      refine Exists.intro (n+1,N4,Mq4) ?_
      repeat' (first|exact f4|exact kV2|exact k5|exact k6|exact f5|apply And.intro|exact trivial|exact rfl|exact zf|exact zh|refine zt ?_|exact zm N4 rfl|exact zr N4 rfl rfl|exact zm Mq4 rfl|exact zr Mq4 rfl rfl|exact fun (j:Nat) (hj:j < _)=>Or.inl (aT _ _ _ _)|fail)
     cases b2
     ·have kV2:=hgo (fun s s' _ h1 _=>by rw [h1] at hb2; cases hb2)
      repeat' (first|apply And.intro|exact trivial|exact rfl|exact zf|exact zh|refine zt ?_|(with_reducible first|exact f2|exact f3)|exact zm N4 rfl|exact zr N4 rfl rfl|exact zm Mq4 rfl|exact zr Mq4 rfl rfl|fail)
      refine Exists.intro (n+1,N4,Mq4) ?_
      repeat' (first|exact f4|exact kV2|exact k5|exact k6|exact f5|apply And.intro|exact trivial|exact rfl|exact zf|exact zh|refine zt ?_|exact zm N4 rfl|exact zr N4 rfl rfl|exact zm Mq4 rfl|exact zr Mq4 rfl rfl|exact fun (j:Nat) (hj:j < _)=>Or.inl (aT _ _ _ _)|fail)
     obtain ⟨s1,hs1⟩:=Option.isSome_iff_exists.1 hb1.symm
     obtain ⟨s2,hs2⟩:=Option.isSome_iff_exists.1 hb2.symm
     rw [hs1] at hd1
     rw [hs2] at hd2
     replace hd1:nd1=ndT s1:=hd1
     replace hd2:nd2=ndT s2:=hd2
     repeat' (first|apply And.intro|exact trivial|exact rfl|exact zf|exact zh|refine zt ?_|(with_reducible first|exact f2|exact f3)|exact zm N4 rfl|exact zr N4 rfl rfl|exact zm Mq4 rfl|exact zr Mq4 rfl rfl|fail)
     have hq1:=Xc hs1 k5 hsA
     have hq2:=Xc hs2 k6 hsC
     rw [<- hd1] at hq1
     rw [<- hd2] at hq2
     have hq3:nd1.ids.length < 4611686018427387904/\nd1.kids.length < 4611686018427387904:=⟨by have:=hq1.1.1; omega,by have:=hq1.1.2; omega⟩
     refine Exists.intro (nd1,nd2) (Exists.intro [] ?_)
     repeat' (first|exact hq3|apply And.intro|exact trivial|exact rfl|exact zf|exact zh|refine zt ?_|exact Nat.le_of_eq (Nat.zero_add _)|exact (fun (q:Nat) _=>by rw [Nat.zero_add q]; exact Or.inl (aL _ _ _ _))|fail)
     refine fun (y:Bool) (hy:y=decide (nd1=nd2))=>?_
     cases y
     rotate_left
     ·have kV2:=hgo (fun s s' h1 h2 _=>by
       rw [hs1] at h1
       rw [hs2] at h2
       cases h1
       cases h2
       rw [<- hd1,<- hd2]
       exact of_decide_eq_true hy.symm)
      repeat' (first|apply And.intro|exact trivial|exact rfl|exact zf|exact zh|refine zt ?_|(with_reducible first|exact f2|exact f3)|exact zm N4 rfl|exact zr N4 rfl rfl|exact zm Mq4 rfl|exact zr Mq4 rfl rfl|fail)
      refine Exists.intro (n+1,N4,Mq4) ?_
      repeat' (first|exact f4|exact kV2|exact k5|exact k6|exact f5|apply And.intro|exact trivial|exact rfl|exact zf|exact zh|refine zt ?_|exact zm N4 rfl|exact zr N4 rfl rfl|exact zm Mq4 rfl|exact zr Mq4 rfl rfl|exact fun (j:Nat) (hj:j < _)=>Or.inl (aT _ _ _ _)|fail)
     repeat' (first|apply And.intro|exact trivial|exact rfl|exact zf|exact zh|refine zt ?_|(with_reducible first|exact f2|exact f3)|exact zm N4 rfl|exact zr N4 rfl rfl|exact zm Mq4 rfl|exact zr Mq4 rfl rfl|fail)
     refine Exists.intro nd1 (Exists.intro [] ?_)
     repeat' (first|exact hq1|apply And.intro|exact trivial|exact rfl|exact zf|exact zh|refine zt ?_|exact Nat.le_of_eq (Nat.zero_add _)|exact (fun (q:Nat) _=>by rw [Nat.zero_add q]; exact Or.inl (aL _ _ _ _))|fail)
     refine fun (d1:B) (he1:d1=kB nd1)=>?_
     repeat' (first|apply And.intro|exact trivial|exact rfl|exact zf|exact zh|refine zt ?_|(with_reducible first|exact f2|exact f3)|exact zm N4 rfl|exact zr N4 rfl rfl|exact zm Mq4 rfl|exact zr Mq4 rfl rfl|fail)
     refine Exists.intro nd2 (Exists.intro [] ?_)
     repeat' (first|exact hq2|apply And.intro|exact trivial|exact rfl|exact zf|exact zh|refine zt ?_|exact Nat.le_of_eq (Nat.zero_add _)|exact (fun (q:Nat) _=>by rw [Nat.zero_add q]; exact Or.inl (aL _ _ _ _))|fail)
     refine fun (d2:B) (he2':d2=kB nd2)=>?_
     repeat' (first|apply And.intro|exact trivial|exact rfl|exact zf|exact zh|refine zt ?_|(with_reducible first|exact f2|exact f3)|exact zm N4 rfl|exact zr N4 rfl rfl|exact zm Mq4 rfl|exact zr Mq4 rfl rfl|fail)
     ·refine fun (_:aS _ _ _ _ _=true)=>?_
      repeat' (first|apply And.intro|exact trivial|exact rfl|exact zf|exact zh|refine zt ?_|exact zm N4 rfl|exact zr N4 rfl rfl|exact zm Mq4 rfl|exact zr Mq4 rfl rfl|fail)
     ·refine fun (hz:aS _ _ _ (decide (d1=d2)) _=false)=>?_
      have hdd:¬ d1=d2:=by
       rw [bA,Bool.and_eq_false_iff] at hz
       rcases hz with h|h
       ·exact Bool.noConfusion (show true=false from h)
       ·exact of_decide_eq_false h
      have kV2:=hgo (fun s s' h1 h2 h3=>by
       rw [hs1] at h1
       rw [hs2] at h2
       cases h1
       cases h2
       rw [tN,tN,<- hd1,<- hd2,<- he1,<- he2'] at h3
       exact absurd h3 hdd)
      repeat' (first|apply And.intro|exact trivial|exact rfl|exact zf|exact zh|refine zt ?_|(with_reducible first|exact f2|exact f3)|exact zm N4 rfl|exact zr N4 rfl rfl|exact zm Mq4 rfl|exact zr Mq4 rfl rfl|fail)
      refine Exists.intro (n+1,N4,Mq4) ?_
      repeat' (first|exact f4|exact kV2|exact k5|exact k6|exact f5|apply And.intro|exact trivial|exact rfl|exact zf|exact zh|refine zt ?_|exact zm N4 rfl|exact zr N4 rfl rfl|exact zm Mq4 rfl|exact zr Mq4 rfl rfl|exact fun (j:Nat) (hj:j < _)=>Or.inl (aT _ _ _ _)|fail)
    ·refine fun (hg:decide ((n:Int)<=_)=false)=>?_
     have f1:¬ (n:Int)<=((L.getD (0+(j:Int).toNat) k0).1.length:Int):=of_decide_eq_false hg
     rw [e0] at f1
     have kW2:∀ i,i < j+1->∀ n,n<=(L.getD i k0).1.length->WT A C ((L.getD i k0).1.take n):=fun i hi q hq=>by
      by_cases e:i=j
      ·subst e
       exact kv0 q (by omega)
      ·exact kw0 i (by omega) q hq
     have kj':j+1<=L.length:=hj
     have k9:L.length - (j+1) < L.length - j:=by omega
     repeat' (first|apply And.intro|exact trivial|exact rfl|exact zf|exact zh|refine zt ?_|(with_reducible first|exact g2|exact g3)|fail)
     refine Exists.intro (j+1,N3,Mq3) ?_
     repeat' (first|exact kj'|exact kW2|exact k3|exact k4|exact k9|apply And.intro|exact trivial|exact rfl|exact zf|exact zh|refine zt ?_|exact zm N3 rfl|exact zr N3 rfl rfl|exact zm Mq3 rfl|exact zr Mq3 rfl rfl|exact fun (j:Nat) (hj:j < _)=>Or.inl (aT _ _ _ _)|fail)
   ·refine fun (hg:decide ((j:Int) < (L.length:Int))=false)=>?_
    have hj:L.length<=j:=by have:=of_decide_eq_false hg; omega
    refine (differ wq1 wq2 hd hne fun k hk n hn=>?_).elim
    have hk':k∈L:=by rw [<- hL,hL1,hL2]; exact hk
    obtain ⟨i,hi,e⟩:=List.getElem_of_mem hk'
    have e2:L.getD i k0=k:=by rw [List.getD_eq_getElem?_getD,List.getElem?_eq_getElem hi,e]; rfl
    have:=kw0 i (by omega) n (by rw [e2]; exact hn)
    rw [e2] at this
    exact this
end T39
