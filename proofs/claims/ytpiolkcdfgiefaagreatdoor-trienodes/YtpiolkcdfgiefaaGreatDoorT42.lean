/- A part of the proof. -/
import Derived.Test.YtpiolkcdfgiefaaGreatDoorX8
import Derived.Test.YtpiolkcdfgiefaaGreatDoorT34
import Derived.Test.YtpiolkcdfgiefaaGreatDoorT28
import Derived.Test.YtpiolkcdfgiefaaGreatDoorT41
import Derived.Test.YtpiolkcdfgiefaaGreatDoorT38
import Derived.Test.YtpiolkcdfgiefaaGreatDoorD15
open Go Go.Eng Go.Proofs A0 T1 T2 T3 T4 T5 T6 T7 T8 T9 T10 T11 T12 T13 T14 T17 T18 T19 T20 T21 T22 T23 T24 T25 T26 T27 T28 T30 T31 T33 D3 D6 D9 D10 D11 D12 D13 D14 D15 T34 T35 T38 T41
set_option maxRecDepth 100000
namespace T42
def g8:List Nat:=[0,7,39,54,65,68,10,15,94,16,14,9,13,11,121,125,1,12,19,18,8,160,17,5,6,20,4]
def c8:aF :=
 .seq (.region g8 [(zo 4 (.move cF))]) (.seq (.region g8 [(zo 22 (.call (.c (.fn 10)) [])),(mv 5 22)]) (.seq (.region g8 [(mv 24 0),(zo 25 (.call (.c (.fn 11)) [.s 24])),(mv 23 25),(zo 26 (.extract 0 (.s 23))),(zo 27 (.extract 1 (.s 23))),(mv 6 26),(mv 7 27)]) (.seq (.seq (.region g8 [(mv 28 0),(zo 29 (.call (.c (.fn 17)) [.s 28,cj 12])),(zo 30 (.not (.s 29))),(mv 31 30),(mg 32 31 false 1),(zg 33 31 false (.lenStr (.s 32))),(zg 34 31 false (.bin (.gtr) (.s 33) (cj 40))),(zo 35 (.pick (.s 31) cT (.s 34))),(mv 36 35),(mg 37 36 false 7),(zg 38 36 false (.bin (.neq) (.s 37) (cj 0))),(zo 39 (.pick (.s 36) cT (.s 38)))]) (.cond (.s 39) (.seq (.region g8 [(mv 40 5),(mv 4 40)]) .ret) .skip)) (.seq (.region g8 [(mv 42 6),(mv 43 1),(zo 44 (.call (.c (.fn 25)) [.s 42,.s 43])),(mv 41 44),(zo 45 (.extract 0 (.s 41))),(zo 46 (.extract 1 (.s 41))),(zo 8 (.alloc 39 (.cons (.nilsl) (.cons (.str []) (.cons (.nilsl) .nil))))),⟨none,none,.store 3 (.s 8) (.s 45),[]⟩,(mv 9 46)]) (.seq (.region g8 [(mv 47 6),(zo 48 (.call (.c (.fn 16)) [.s 47])),(mv 10 48)]) (.seq (.region g8 [(zo 11 (.move (.c (.nilsl))))]) (.seq (.region g8 [(zo 12 (.move (.c (.str []))))]) (.seq (.region g8 [(mv 49 1),(zo 50 (.bin (.eql) (.s 49) (.c (.str [])))),(mv 13 50)]) (.seq (.seq (.region g8 [(zo 14 (.move (cj 0)))]) (.block 0 (.loop 0 [51,52,53,54,57,58,59,60,61,15,62,63,64,65,13,66,67,68,69,70,71,72,73,74,75,76,11,77,78,79,80,81,82,83,16,84,85,86,87,88,89,90,91,92,93,94,95,96,97,12,55,56,14] (.seq (.seq (.region g8 [(mv 51 14),(mv 52 10),(zo 53 (.lenSl (.s 52))),(zo 54 (.bin (.lss) (.s 51) (.s 53)))]) (.cond (.s 54) .skip (.exit 0))) (.seq (.block 1 (.seq (.region g8 [(mv 57 10),(mv 58 14),(zo 59 (.idxSl 2 (.s 57) (.s 58))),(fa 60 0 59),(ld 61 60),(mv 15 61)]) (.seq (.seq (.region g8 [(mv 62 15),(mv 63 1),(zo 64 (.call (.c (.fn 30)) [.s 62,.s 63])),(zo 65 (.not (.s 64)))]) (.cond (.s 65) (.exit 1) .skip)) (.seq (.region g8 [(zo 13 (.move cT))]) (.seq (.region g8 [(mv 66 15),(mv 67 1),(zo 68 (.bin (.eql) (.s 66) (.s 67)))]) (.cond (.s 68) (.region g8 [(mv 69 11),(mv 70 10),(mv 71 14),(zo 72 (.idxSl 2 (.s 70) (.s 71))),(fa 73 1 72),(ld 74 73),(zo 75 (.buildSl 9 1 1 (.cons (.str []) .nil) [(0,1,.s 74)])),(zo 76 (.app 9 1 16 (.s 69) (.s 75))),(mv 11 76)]) (.seq (.region g8 [(mv 77 15),(mv 78 1),(zo 79 (.lenStr (.s 78))),(mv 80 1),(zo 81 (.lenStr (.s 80))),(zo 82 (.bin (.add) (.s 81) (cj 1))),(zo 83 (.sliceStr (.s 77) (some (.s 79)) (some (.s 82)))),(mv 16 83)]) (.seq (.region g8 [(mv 84 12),(zo 85 (.bin (.eql) (.s 84) (.c (.str [])))),(mv 86 85),(mg 87 86 false 12),(mg 88 86 false 12),(zg 89 86 false (.lenStr (.s 88))),(zg 90 86 false (.bin (.sub) (.s 89) (cj 1))),(zg 91 86 false (.sliceStr (.s 87) (some (.s 90)) none)),(mg 92 86 false 16),(zg 93 86 false (.bin (.neq) (.s 91) (.s 92))),(zo 94 (.pick (.s 86) cT (.s 93)))]) (.cond (.s 94) (.region g8 [(mv 95 12),(mv 96 16),(zo 97 (.bin (.add) (.s 95) (.s 96))),(mv 12 97)]) .skip))))))))) (.region g8 [(mv 55 14),(zo 56 (.bin (.add) (.s 55) (cj 1))),(mv 14 56)])))))) (.seq (.seq (.region g8 [(mv 98 9),(mv 99 13),(zo 100 (.eqB true (.s 98) (.s 99))),(mv 101 100),(fg 102 101 false 0 8),(lg 103 101 false 102),(mg 104 101 false 11),(zg 105 101 false (.call (.c (.fn 31)) [.s 103,.s 104])),(zg 106 101 false (.not (.s 105))),(zo 107 (.pick (.s 101) cT (.s 106))),(mv 108 107),(fg 109 108 false 1 8),(lg 110 108 false 109),(mg 111 108 false 12),(zg 112 108 false (.bin (.neq) (.s 110) (.s 111))),(zo 113 (.pick (.s 108) cT (.s 112))),(mv 114 113),(fg 115 114 false 2 8),(lg 116 114 false 115),(zg 117 114 false (.lenSl (.s 116))),(mg 118 114 false 12),(zg 119 114 false (.lenStr (.s 118))),(zg 120 114 false (.bin (.neq) (.s 117) (.s 119))),(zo 121 (.pick (.s 114) cT (.s 120)))]) (.cond (.s 121) (.seq (.region g8 [(zo 4 (.move cF))]) .ret) .skip)) (.seq (.seq (.region g8 [(zo 17 (.move (cj 0)))]) (.block 2 (.loop 1 [122,123,124,125,129,130,131,132,133,134,135,136,137,128,138,139,18,19,140,141,142,143,144,145,146,147,148,149,150,151,152,153,154,155,156,157,158,159,160,4,126,127,17] (.seq (.seq (.region g8 [(mv 122 17),(mv 123 12),(zo 124 (.lenStr (.s 123))),(zo 125 (.bin (.lss) (.s 122) (.s 124)))]) (.cond (.s 125) .skip (.exit 2))) (.seq (.block 3 (.seq (.region g8 [(mv 129 6),(mv 130 1),(mv 131 12),(mv 132 17),(mv 133 17),(zo 134 (.bin (.add) (.s 133) (cj 1))),(zo 135 (.sliceStr (.s 131) (some (.s 132)) (some (.s 134)))),(zo 136 (.bin (.add) (.s 130) (.s 135))),(zo 137 (.call (.c (.fn 25)) [.s 129,.s 136])),(mv 128 137),(zo 138 (.extract 0 (.s 128))),(zo 139 (.extract 1 (.s 128))),(zo 18 (.alloc 39 (.cons (.nilsl) (.cons (.str []) (.cons (.nilsl) .nil))))),⟨none,none,.store 3 (.s 18) (.s 138),[]⟩,(mv 19 139)]) (.seq (.drawn g8 (.pure 0 (mv 140 19) (.pure 1 (zo 141 (.not (.s 140))) (.pure 2 (mv 142 141) (.pure 3 (fg 143 142 false 2 8) (.pure 4 (lg 144 142 false 143) (.pure 5 (mg 145 142 false 17) (.pure 6 (zg 146 142 false (.idxSl 1 (.s 144) (.s 145))) (.pure 7 (lg 147 142 false 146) (.pure 8 (zg 148 142 false (.load 3 true (.s 18))) (.eff 9 (zg 149 142 false (.call (.c (.fn 19)) [.s 148])) [(lg 147 142 false 146),(lg 144 142 false 143)] (.pure 10 (zg 150 142 false (.bin (.neq) (.s 147) (.s 149))) (.pure 11 (zo 151 (.pick (.s 142) cT (.s 150))) (.pure 12 (mv 152 151) (.pure 13 (fg 153 152 false 2 8) (.pure 14 (lg 154 152 false 153) (.pure 15 (mg 155 152 false 17) (.pure 16 (zg 156 152 false (.idxSl 1 (.s 154) (.s 155))) (.pure 17 (lg 157 152 false 156) (.pure 18 (zg 158 152 false (.call (.c (.fn 32)) [.s 157])) (.pure 19 (zg 159 152 false (.not (.s 158))) (.pure 20 (zo 160 (.pick (.s 152) cT (.s 159))) .done))))))))))) .none))))))))))) (.cond (.s 160) (.seq (.region g8 [(zo 4 (.move cF))]) .ret) .skip)))) (.region g8 [(mv 126 17),(zo 127 (.bin (.add) (.s 126) (cj 1))),(mv 17 127)])))))) (.seq (.region g8 [(mv 162 6),(zo 163 (.call (.c (.fn 25)) [.s 162,.c (.str [])])),(mv 161 163),(zo 164 (.extract 0 (.s 161))),(zo 165 (.extract 1 (.s 161))),(zo 20 (.alloc 39 (.cons (.nilsl) (.cons (.str []) (.cons (.nilsl) .nil))))),⟨none,none,.store 3 (.s 20) (.s 164),[]⟩,(mv 21 165)]) (.seq (.drawn g8 (.pure 0 (mv 166 5) (.pure 1 (mv 167 166) (.pure 2 (mg 168 167 true 6) (.pure 4 (zg 170 167 true (.load 3 true (.s 20))) (.eff 3 (zg 169 167 true (.call (.c (.fn 23)) [.s 168])) [(zg 170 167 true (.load 3 true (.s 20)))] (.eff 5 (zg 171 167 true (.call (.c (.fn 19)) [.s 170])) [] (.pure 6 (zg 172 167 true (.bin (.eql) (.s 169) (.s 171))) (.pure 7 (zo 173 (.pick (.s 167) (.s 172) cF)) (.pure 8 (mv 4 173) .done))) .none) .none)))))) .ret)))))))))))))
theorem e8:aO Tryz.prog 8 g8 [] [149,169,171] []=some (c8,[.slot 4],174):=by kernel_rfl
def Yc:aK:=Yd.mof Bool (fun x y=>y=x.2.isPrefixOf x.1) (fun _ y=>.bool y)
theorem Xp:Yc.Ok Tryz.prog 30:=Eng.Spec.iN Xy fun _ _=>⟨_,rfl,rfl⟩
def fdV (p:B) (l:List Ky):Bool:=decide (p=[]) || l.any (pf p)
theorem Xi {p:B} {l:List Ky} {k:Ky}:fdV p (l++[k])=(fdV p l || pf p k):=by
 unfold fdV
 rw [List.any_append,List.any_cons,List.any_nil,Bool.or_false,Bool.or_assoc]
theorem Wu {p:B} {l:List Ky} {k:Ky}:Wp p (l++[k])=if k.1=p then Wp p l++[k.2] else Wp p l:=by
 unfold Wp
 rw [List.filter_append,List.map_append]
 by_cases e:k.1=p
 ·rw [if_pos e,List.filter_cons_of_pos (by simpa using e)]; rfl
 ·rw [if_neg e,List.filter_cons_of_neg (by simpa using e)]; exact List.append_nil _
theorem Wy {p n:B} {l:List Ky} {k:Ky}:nxV p n (l++[k])=nx1 p (nxV p n l) k:=by
 unfold nxV
 rw [List.foldl_append]
 rfl
theorem fd0 {p:B} {l:List Ky}:decide (p=[])=fdV p (l.take 0):=(Bool.or_false _).symm
theorem ids0 {p:B} {l:List Ky}:[]=Wp p (l.take 0):=rfl
theorem nx0 {p:B} {l:List Ky}:[]=nxV p [] (l.take 0):=rfl
theorem o2 {a z:Bool} {n:Nat} (h:z=true):aS a cT (.s n) true z=true:=by rw [dH,h,Bool.or_true]
theorem gdN {n:B} {P:Prop} (h:¬ n=[]->P):decide (n=[])=false->P:=fun k=>h (of_decide_eq_false k)
theorem X8 {p:B}:∀ {l:List Ky} {m:Nat},l.length<=m->∀ {j:Nat},(nxV p [] (l.take j)).length<=m:=by
 have h:∀ (l:List Ky) (n:B),(nxV p n l).length<=n.length+l.length:=by
  intro l
  induction l with
  | nil=>intro n; exact Nat.le_refl _
  | cons k l ih =>
   intro n
   have h1:(nx1 p n k).length<=n.length+1:=by
    unfold nx1 nxS
    split
    ·split
     ·rw [List.length_append]
      exact Nat.add_le_add_left (List.length_take_le 1 _) _
     ·omega
    ·omega
   have:=ih (nx1 p n k)
   rw [List.length_cons]
   show (nxV p (nx1 p n k) l).length<=_
   omega
 intro l m hm j
 have:=h (l.take j) []
 rw [List.length_take,List.length_nil] at this
 omega
theorem X3 {p:B} {T:TT} {N:Nat->NO} {c r:Nat} {K:Int} (k:Tr Dd T N c r K) (hs:szT T<=12):(ndO (cL p T)).ids.length<=100000/\(ndO (cL p T)).kids.length<=100000:=by
 cases h:cL p T with
 | none=>exact ⟨Nat.zero_le _,Nat.zero_le _⟩
 | some s =>
  obtain ⟨f1,_,f3,_,f5⟩:=xU p h k.wf k.facts.1 k.facts.2.1
  exact (Ts f1 (Nat.le_trans f5 hs) f3).1
theorem o3 {a z:Bool} {n:Nat} (h:a=false) (k:z=false):aS a cT (.s n) true z=false:=by rw [dH,h,k]; rfl
theorem X1 {p:B} {T:TT}:(ndO (cL p T)).kids.length=(ndO (cL p T)).bys.length:=by
 cases cL p T with
 | none=>rfl
 | some s=>cases s; simp only [ndO,ndT,List.length_map]
theorem W5:∀ k:TK,uF Dd k=(bB k).map fun q=>(q.1,oI Dd q.2)
 | .nil=>rfl
 | .cons b t r=>by simp only [uF,bB,List.map_cons,W5 r]
theorem X2 {p:B} {T:TT} {j:Nat} (w:wfT T) (hj:j < (ndO (cL p T)).bys.length):∃ b u,((ndO (cL p T)).bys.drop j).take 1=[b]/\cL (p++[b]) T=some u/\(ndO (cL p T)).kids.getD j []=oI Dd u:=by
 cases h:cL p T with
 | none=>rw [h] at hj; exact absurd hj (Nat.not_lt_zero j)
 | some s =>
  rw [h] at hj
  cases s with
  | node ids k =>
  have e:uF Dd k=(bB k).map fun q=>(q.1,oI Dd q.2):=W5 k
  have hw:=F6 p w h
  simp only [wfT] at hw
  simp only [ndO,ndT] at hj ⊢
  rw [e] at hj ⊢
  simp only [List.map_map,List.length_map] at hj ⊢
  have hm:((bB k)[j].1,(bB k)[j].2)∈bB k:=List.getElem_mem hj
  refine ⟨(bB k)[j].1,(bB k)[j].2,?_,?_,?_⟩
  ·rw [List.drop_eq_getElem_cons (by rw [List.length_map]; exact hj),List.take_succ_cons,List.take_zero,List.getElem_map]
   rfl
  ·rw [T38.Hp,h]
   simp only [Option.bind_some,cL,qJ hw.2.1 hm]
  ·rw [List.getD_eq_getElem?_getD,List.getElem?_map,List.getElem?_eq_getElem hj]
   rfl
theorem Xx {p:B} {T s:TT} {N:Nat->NO} {c r:Nat} {K:Int} (h:cL p T=some s) (k:Tr Dd T N c r K) (hs:szT T<=12):((ndT s).ids.length<=100000/\(ndT s).kids.length<=100000)/\(dP (D6.bW (ndT s)++fH (ndT s) (ndT s).kids.length)).length<=140737488355328:=by
 obtain ⟨f1,_,f3,_,f5⟩:=xU p h k.wf k.facts.1 k.facts.2.1
 exact Ts f1 (Nat.le_trans f5 hs) f3
theorem Xl {l:List Ky} {j:Nat} (h:j < l.length):l.take (j+1)=l.take j++[l.getD j k0]:=by
 rw [List.take_succ_eq_append_getElem h,List.getD_eq_getElem?_getD,List.getElem?_eq_getElem h]
 rfl
def X5:Eng.Spec where
 X:=List Ky×B
 args:=fun x=>.cons (ksE x.1) (.cons (.str x.2) .nil)
 pre:=fun x=>(x.1.length < 4611686018427387904/\∀ j,j < x.1.length->(x.1.getD j k0).1.length < 4611686018427387904)/\x.2.length < 4611686018427387904
 res:=fun _=>.bool true
 inst:=fun _=>none
attribute [local irreducible] D9.Dd D6.kL oI T19.eZ nxV Wp fdV
set_option maxHeartbeats 16000000 in
theorem Xj:X5.Ok Tryz.prog 8:=by
 refine Eng.Spec.okR e8 .nil (fun _=>[(10,.p Q1),(11,.m (Tt Dd)),(17,.m U7),(23,.m Yi),(16,.m Vj),(25,.m Yg),(30,.m Yc),(31,.m V1),(19,.m Sl),(32,.p isS)]) (fun _ _=>aD.p O6 (aD.m (Mi Dd) (aD.m Ow (aD.m Ya (aD.m Tl (aD.m X4 (aD.m Xp (aD.m Qi (aD.m Gp (aD.p Yf aD.nil)))))))))) ?_
 rintro ⟨l,p⟩ ⟨(hpn:l.length < 4611686018427387904/\∀ j,j < l.length->(l.getD j k0).1.length < 4611686018427387904),(hp:p.length < 4611686018427387904)⟩
 refine ⟨trivial,?_⟩
 have hl:l.length < 4611686018427387904:=hpn.1
 repeat' (first|apply And.intro|exact trivial|exact rfl|exact zf|exact zh|refine zt ?_|fail)
 refine Exists.intro l (Exists.intro [] ?_)
 repeat' (first|exact hpn|apply And.intro|exact trivial|exact rfl|exact zf|exact zh|refine zt ?_|exact fun (j:Nat) (hj:j < _)=>Or.inl (aT _ _ _ _)|fail)
 refine fun (y:NY) (hy:(y.e=(T19.eZ l).1/\y.o=decide (y.e=0))/\(y.o=true->Tr Dd (T19.eZ l).2 y.N y.c y.r y.K/\0<=y.K/\y.K<=20000000))=>?_
 obtain ⟨e,o,N,c,r,K⟩:=y
 obtain ⟨⟨(he:e=(T19.eZ l).1),(ho:o=decide (e=0))⟩,htr⟩:=hy
 cases o with
 | false =>
  have hne:decide (e=0)=false:=ho.symm
  repeat' (first|apply And.intro|exact trivial|exact rfl|exact zf|exact zh|refine zt ?_|fail)
  refine Exists.intro (l,12) (Exists.intro [] ?_)
  repeat' (first|exact hl|apply And.intro|exact trivial|exact rfl|exact zf|exact zh|refine zt ?_|exact fun (j:Nat) (hj:j < _)=>Or.inl (aT _ _ _ _)|fail)
  refine fun (y:Bool) (_:y=rR l 12)=>?_
  cases y
  ·repeat' (first|apply And.intro|exact trivial|exact rfl|exact zf|exact zh|refine zt ?_|exact fun (j:Nat) (hj:j < _)=>Or.inl (aT _ _ _ _)|fail)
  repeat' (first|apply And.intro|exact trivial|exact rfl|exact zf|exact zh|refine zt ?_|exact fun (j:Nat) (hj:j < _)=>Or.inl (aT _ _ _ _)|fail)
  ·refine fun (_:aS _ _ _ _ _=true)=>?_
   repeat' (first|apply And.intro|exact trivial|exact rfl|exact zf|exact zh|refine zt ?_|exact fun (j:Nat) (hj:j < _)=>Or.inl (aT _ _ _ _)|fail)
  ·exact fun (hx:aS _ _ _ _ _=false)=>Bool.noConfusion (hx.symm.trans (o2 (congrArg not hne)))
 | true =>
  have he0:e=0:=of_decide_eq_true ho.symm
  subst he0
  obtain ⟨(htr:Tr Dd (T19.eZ l).2 N c r K),(hK0:0<=K),(hK1:K<=20000000)⟩:=htr rfl
  obtain ⟨T,hT⟩:∃ T,T19.eZ l=(0,T):=⟨(T19.eZ l).2,by rw [he]⟩
  rw [hT] at htr
  obtain ⟨w,hsz,_⟩:=Xu hT
  repeat' (first|apply And.intro|exact trivial|exact rfl|exact zf|exact zh|refine zt ?_|exact zm N rfl|exact zr N rfl rfl|fail)
  refine Exists.intro (l,12) (Exists.intro [] ?_)
  repeat' (first|exact hl|apply And.intro|exact trivial|exact rfl|exact zf|exact zh|refine zt ?_|exact fun (j:Nat) (hj:j < _)=>Or.inl (aT _ _ _ _)|fail)
  refine fun (y:Bool) (hf:y=rR l 12)=>?_
  cases y
  ·repeat' (first|apply And.intro|exact trivial|exact rfl|exact zf|exact zh|refine zt ?_|exact fun (j:Nat) (hj:j < _)=>Or.inl (aT _ _ _ _)|exact zm N rfl|exact zr N rfl rfl|fail)
  have hs12:szT T<=12:=by rw [hsz]; have:=hf.symm; unfold rR at this; rw [Bool.and_eq_true,decide_eq_true_eq] at this; omega
  repeat' (first|apply And.intro|exact trivial|exact rfl|exact zf|exact zh|refine zt ?_|exact fun (j:Nat) (hj:j < _)=>Or.inl (aT _ _ _ _)|exact zm N rfl|exact zr N rfl rfl|fail)
  ·refine fun (_:aS _ _ _ _ _=true)=>?_
   repeat' (first|apply And.intro|exact trivial|exact rfl|exact zf|exact zh|refine zt ?_|exact fun (j:Nat) (hj:j < _)=>Or.inl (aT _ _ _ _)|exact zm N rfl|exact zr N rfl rfl|fail)
  refine fun (hx:aS _ _ _ _ _=false)=>?_
  have hp40:p.length<=40:=by
   rw [dH,dH,Bool.or_eq_false_iff,Bool.or_eq_false_iff] at hx
   have h2:¬ (40:Int) < (p.length:Int):=of_decide_eq_false hx.1.2
   omega
  clear hx
  have hu1:UOk ⟨T,N,c,r,K,p⟩:=⟨htr,hs12,by show p.length<=_; omega⟩
  repeat' (first|apply And.intro|exact trivial|exact rfl|exact zf|exact zh|refine zt ?_|exact zm N rfl|exact zr N rfl rfl|fail)
  refine Exists.intro ⟨T,N,c,r,K,p⟩ (Exists.intro [0,1] ?_)
  repeat' (first|exact hu1|apply And.intro|exact trivial|exact rfl|exact zf|exact zh|refine zt ?_|exact zm N rfl|exact zr N rfl rfl|fail)
  refine fun (y:(Nat->NO)×ND×Bool) (hy:Tr Dd T y.1 c r K/\y.2.1=ndO (cL p T)/\y.2.2=(cL p T).isSome)=>?_
  obtain ⟨N1,nd,b⟩:=y
  obtain ⟨(h1:Tr Dd T N1 c r K),(hnd:nd=ndO (cL p T)),(hb:b=(cL p T).isSome)⟩:=hy
  have hu2:UOk ⟨T,N1,c,r,K,[]⟩:=⟨h1,hs12,by show 0<=_; decide⟩
  repeat' (first|apply And.intro|exact trivial|exact rfl|exact zf|exact zh|refine zt ?_|exact zm N1 rfl|exact zr N1 rfl rfl|fail)
  refine Exists.intro ⟨T,N1,c,r,K,[]⟩ (Exists.intro [0,1] ?_)
  repeat' (first|exact hu2|apply And.intro|exact trivial|exact rfl|exact zf|exact zh|refine zt ?_|exact zm N1 rfl|exact zr N1 rfl rfl|fail)
  refine fun (L:List Ky) (hL:L=bS [] T)=>?_
  have hL12:L.length<=12:=by rw [hL,qP]; exact hs12
  repeat' (first|apply And.intro|exact trivial|exact rfl|exact zf|exact zh|refine zt ?_|exact zm N1 rfl|exact zr N1 rfl rfl|fail)
  refine ⟨⟨Nat×Bool×List B×B,fun s=>s.1<=L.length/\s.2.1=fdV p (L.take s.1)/\s.2.2.1=Wp p (L.take s.1)/\s.2.2.2=nxV p [] (L.take s.1),fun s=>[(14,.int .i64 (s.1:Int)),(13,.bool s.2.1),(11,.lsl 40 1 s.2.2.1.length),(12,.str s.2.2.2)],fun s=>lsH 40 s.2.2.1::ksH 5 L::tH 0 1 r N1,fun s=>L.length - s.1⟩,(0,decide (p=[]),[],[]),?_,?_,?_⟩
  ·exact ⟨Nat.zero_le _,fd0,ids0,nx0⟩
  ·repeat' (first|apply And.intro|exact trivial|exact rfl|exact zf|exact zh|refine zt ?_|exact zm N1 rfl|exact zr N1 rfl rfl|exact fun (j:Nat) (hj:j < _)=>Or.inl (aT _ _ _ _)|exact fun (j:Nat) (hj:j < _)=>Or.inl (aL _ _ _ _)|fail)
  rintro ⟨j,fd,ids,nx⟩ ⟨(kj:j<=L.length),(k1:fd=fdV p (L.take j)),(k2:ids=Wp p (L.take j)),(k3:nx=nxV p [] (L.take j))⟩
  repeat' (first|apply And.intro|exact trivial|exact rfl|exact zf|exact zh|refine zt ?_|exact zm N1 rfl|exact zr N1 rfl rfl|fail)
  ·refine fun (hg:decide ((j:Int) < (L.length:Int))=true)=>?_
   have g1:(j:Int) < (L.length:Int):=of_decide_eq_true hg
   have hj:j < L.length:=by omega
   have g0:(0:Int)<=(j:Int):=by omega
   have g2:-9223372036854775808<=(j:Int)+1:=by omega
   have g3:(j:Int)+1<=9223372036854775807:=by omega
   have g4:j+1<=L.length:=hj
   have g5:L.length - (j+1) < L.length - j:=by omega
   have g6:0+(j:Int).toNat < L.length:=by omega
   have e0:L.getD (0+(j:Int).toNat) k0=L.getD j k0:=by rw [Nat.zero_add]; rfl
   obtain ⟨⟨t,i⟩,hk⟩:∃ k,L.getD j k0=k:=⟨_,rfl⟩
   have ek:L.getD (0+(j:Int).toNat) k0=(t,i):=e0.trans hk
   have et:(L.getD (0+(j:Int).toNat) k0).1=t:=by rw [ek]
   have ei:(L.getD (0+(j:Int).toNat) k0).2=i:=by rw [ek]
   have hta:=Xl hj
   rw [hk] at hta
   repeat' (first|apply And.intro|exact trivial|exact rfl|exact zf|exact zh|refine zt ?_|(with_reducible first|exact g0|exact g1)|exact g6|fail)
   refine Exists.intro (t,p) (Exists.intro [] ?_)
   repeat' (first|exact et|apply And.intro|exact trivial|exact rfl|exact zf|exact zh|refine zt ?_|fail)
   refine fun (y:Bool) (hy:y=p.isPrefixOf t)=>?_
   cases y
   ·have q1:fd=fdV p (L.take (j+1)):=by rw [hta,Xi,<- k1,show pf p (t,i)=false from hy.symm,Bool.or_false]
    have hne:¬ t=p:=fun e=>by
     have h2:pf p (t,i)=true:=Wq.2 ⟨[],by rw [List.append_nil]; exact e⟩
     rw [show pf p (t,i)=false from hy.symm] at h2
     cases h2
    have q2:ids=Wp p (L.take (j+1)):=by rw [hta,Wu,if_neg hne,<- k2]
    have q3:nx=nxV p [] (L.take (j+1)):=by rw [hta,Wy,<- k3]; unfold nx1; rw [show pf p (t,i)=false from hy.symm]; simp
    repeat' (first|apply And.intro|exact trivial|exact rfl|exact zf|exact zh|refine zt ?_|exact zm N1 rfl|exact zr N1 rfl rfl|(with_reducible first|exact g2|exact g3)|fail)
    refine Exists.intro (j+1,fd,ids,nx) ?_
    repeat' (first|exact g4|exact q1|exact q2|exact q3|exact g5|apply And.intro|exact trivial|exact rfl|exact zf|exact zh|refine zt ?_|exact zm N1 rfl|exact zr N1 rfl rfl|exact fun (j:Nat) (hj:j < _)=>Or.inl (aT _ _ _ _)|exact fun (j:Nat) (hj:j < _)=>Or.inl (aL _ _ _ _)|fail)
   have hpf:pf p (t,i)=true:=hy.symm
   have q1:true=fdV p (L.take (j+1)):=by rw [hta,Xi,hpf,Bool.or_true]
   obtain ⟨u,hu⟩:=Wq.1 hpf
   replace hu:t=p++u:=hu
   repeat' (first|apply And.intro|exact trivial|exact rfl|exact zf|exact zh|refine zt ?_|exact zm N1 rfl|exact zr N1 rfl rfl|(with_reducible first|exact g0|exact g1)|exact g6|fail)
   ·refine fun (hz:decide ((L.getD (0+(j:Int).toNat) k0).1=p)=true)=>?_
    have hz2:t=p:=et.symm.trans (of_decide_eq_true hz)
    have q2:ids++[i]=Wp p (L.take (j+1)):=by rw [hta,Wu,if_pos hz2,<- k2]
    have q3:nx=nxV p [] (L.take (j+1)):=by
     rw [hta,Wy,<- k3]
     unfold nx1
     rw [if_neg (fun h=>h.2 hz2)]
    have hil:ids.length<=12:=by
     rw [k2]
     unfold Wp
     rw [List.length_map]
     refine Nat.le_trans (List.length_filter_le _ _) ?_
     rw [List.length_take]
     omega
    repeat' (first|apply And.intro|exact trivial|exact rfl|exact zf|exact zh|refine zt ?_|exact zm N1 rfl|exact zr N1 rfl rfl|(with_reducible first|exact g0|exact g1)|exact g6|(with_reducible first|exact g2|exact g3)|fail)
    ·show ids.length+1<=9223372036854775807
     omega
    ·show (ids.length+1) * 16<=140737488355328
     omega
    refine Exists.intro (j+1,true,ids++[i],nx) ?_
    repeat' (first|exact g4|exact q1|exact q2|exact q3|exact g5|apply And.intro|exact trivial|exact rfl|exact zf|exact zh|refine zt ?_|exact zm N1 rfl|exact zr N1 rfl rfl|exact fun (j:Nat) (hj:j < _)=>Or.inl (aT _ _ _ _)|exact fun (j:Nat) (hj:j < _)=>Or.inl (aL _ _ _ _)|fail)
    ·exact zL
    ·exact zL
    ·exact Hp (enc:=idE) (d:=[]) (fun a=>aL _ _ _ a) (congrArg idE ei) rfl
   ·refine fun (hz:decide ((L.getD (0+(j:Int).toNat) k0).1=p)=false)=>?_
    have hz2:¬ t=p:=fun e=>of_decide_eq_false hz (et.trans e)
    have q2:ids=Wp p (L.take (j+1)):=by rw [hta,Wu,if_neg hz2,<- k2]
    obtain ⟨x,v,rfl⟩:∃ x v,u=x::v:=by
     cases u with
     | nil=>exact absurd (hu.trans (List.append_nil _)) hz2
     | cons x v=>exact ⟨x,v,rfl⟩
    have hnx:nxV p [] (L.take (j+1))=nxS p nx t:=by
     rw [hta,Wy,<- k3]
     unfold nx1
     rw [if_pos ⟨hpf,hz2⟩]
    have hct:(t.drop p.length).take 1=[x]:=by rw [hu]; simp
    have tp:(((p.length:Int)+1).toNat - (p.length:Int).toNat)=1:=by omega
    have hc:List.take (((p.length:Int)+1).toNat - (p.length:Int).toNat) (List.drop (p.length:Int).toNat (L.getD (0+(j:Int).toNat) k0).1)=[x]:=by
     rw [tp,et,Int.toNat_natCast]; exact hct
    have htl:(p.length:Int)+1<=((L.getD (0+(j:Int).toNat) k0).1.length:Int):=by
     rw [et,hu,List.length_append,List.length_cons]; omega
    have f1:-9223372036854775808<=(p.length:Int)+1:=by omega
    have f2:(p.length:Int)+1<=9223372036854775807:=by omega
    have f3:(0:Int)<=(p.length:Int):=by omega
    have f4:(p.length:Int)<=(p.length:Int)+1:=by omega
    have hnl:nx.length<=12:=by rw [k3]; exact X8 hL12
    have m1:¬ nx=[]->-9223372036854775808<=(nx.length:Int) - 1:=by omega
    have m2:¬ nx=[]->(nx.length:Int) - 1<=9223372036854775807:=by omega
    have m3:¬ nx=[]->0<=(nx.length:Int) - 1:=fun h=>by have:=List.length_pos_iff.2 h; omega
    have m4:¬ nx=[]->(nx.length:Int) - 1<=(nx.length:Int):=by omega
    have t1:((nx.length:Int) - 1).toNat=nx.length - 1:=by omega
    repeat' (first|apply And.intro|exact trivial|exact rfl|exact zf|exact zh|refine zt ?_|exact zm N1 rfl|exact zr N1 rfl rfl|(with_reducible first|exact g0|exact g1)|exact g6|(with_reducible first|exact f1|exact f2|exact f3|exact f4|exact htl)|refine gdN fun hn=>?_|with_reducible exact m1 hn|with_reducible exact m2 hn|with_reducible exact m3 hn|with_reducible exact m4 hn|fail)
    ·refine fun (hz:aS _ _ _ _ _=true)=>?_
     rw [dH,hc,t1,Bool.or_eq_true,decide_eq_true_iff,Bool.not_eq_true',decide_eq_false_iff_not] at hz
     have q3:nx++[x]=nxV p [] (L.take (j+1)):=by
      rw [hnx]
      unfold nxS
      rw [hct,if_pos hz]
     have hcc:nx++List.take (((p.length:Int)+1).toNat - (p.length:Int).toNat) (List.drop (p.length:Int).toNat (L.getD (0+(j:Int).toNat) k0).1)=nx++[x]:=by rw [hc]
     have hcl:nx.length+(List.take (((p.length:Int)+1).toNat - (p.length:Int).toNat) (List.drop (p.length:Int).toNat (L.getD (0+(j:Int).toNat) k0).1)).length<=9223372036854775807:=by
      rw [hc,List.length_singleton]
      omega
     repeat' (first|apply And.intro|exact trivial|exact rfl|exact zf|exact zh|refine zt ?_|exact zm N1 rfl|exact zr N1 rfl rfl|(with_reducible first|exact g2|exact g3)|fail)
     ·exact hcl
     refine Exists.intro (j+1,true,ids,nx++[x]) ?_
     repeat' (first|exact g4|exact q1|exact q2|exact q3|exact g5|apply And.intro|exact trivial|exact rfl|exact zf|exact zh|refine zt ?_|exact zm N1 rfl|exact zr N1 rfl rfl|exact fun (j:Nat) (hj:j < _)=>Or.inl (aT _ _ _ _)|exact fun (j:Nat) (hj:j < _)=>Or.inl (aL _ _ _ _)|fail)
     exact hcc
    ·refine fun (hz:aS _ _ _ _ _=false)=>?_
     have q3:nx=nxV p [] (L.take (j+1)):=by
      rw [dH,hc,t1,Bool.or_eq_false_iff,decide_eq_false_iff_not,Bool.not_eq_false',decide_eq_true_iff] at hz
      rw [hnx]
      unfold nxS
      rw [hct,if_neg (fun h=>h.elim hz.1 fun h2=>h2 hz.2)]
     repeat' (first|apply And.intro|exact trivial|exact rfl|exact zf|exact zh|refine zt ?_|exact zm N1 rfl|exact zr N1 rfl rfl|(with_reducible first|exact g2|exact g3)|fail)
     refine Exists.intro (j+1,true,ids,nx) ?_
     repeat' (first|exact g4|exact q1|exact q2|exact q3|exact g5|apply And.intro|exact trivial|exact rfl|exact zf|exact zh|refine zt ?_|exact zm N1 rfl|exact zr N1 rfl rfl|exact fun (j:Nat) (hj:j < _)=>Or.inl (aT _ _ _ _)|exact fun (j:Nat) (hj:j < _)=>Or.inl (aL _ _ _ _)|fail)
  refine fun (hg:decide ((j:Int) < (L.length:Int))=false)=>?_
  have hj:j=L.length:=by have:=of_decide_eq_false hg; omega
  subst hj
  rw [List.take_length,hL] at k1 k2 k3
  rw [Xr w,<- hnd] at k2
  rw [X6 w,<- hnd] at k3
  have hbf:b=fd:=by
   rw [k1,hb,<- hL,Bool.eq_iff_iff,<- Xe w,hL]
   unfold fdV
   rw [Bool.or_eq_true,decide_eq_true_iff,List.any_eq_true]
  have hbd:decide (b=fd)=true:=decide_eq_true hbf
  have hq:=X3 (p:=p) h1 hs12
  rw [<- hnd] at hq
  repeat' (first|apply And.intro|exact trivial|exact rfl|exact zf|exact zh|refine zt ?_|exact zm N1 rfl|exact zr N1 rfl rfl|fail)
  rotate_left
  ·exact fun (h:(!decide (b=fd))=!false)=>Bool.noConfusion (show false=true from (congrArg not hbd).symm.trans h)
  refine fun (_:(!decide (b=fd))=false)=>?_
  obtain rfl:ids=nd.ids:=k2
  obtain rfl:nx=nd.bys:=k3
  have hn1:nd.ids.length < 4611686018427387904:=by omega
  refine Exists.intro (nd.ids,nd.ids) (Exists.intro [] ?_)
  repeat' (first|exact hn1|apply And.intro|exact trivial|exact rfl|exact zf|exact zh|refine zt ?_|exact Nat.le_of_eq (Nat.zero_add _)|exact (fun (q:Nat) _=>by rw [Nat.zero_add q]; exact Or.inl (aL _ _ _ _))|fail)
  refine fun (y:Bool) (hy:y=decide (nd.ids=nd.ids))=>?_
  obtain rfl:y=true:=hy.trans (decide_eq_true rfl)
  clear hy
  have hkl:nd.kids.length=nd.bys.length:=by rw [hnd]; exact X1
  have hkd:decide ((nd.kids.length:Int)=(nd.bys.length:Int))=true:=decide_eq_true (by rw [hkl])
  have hbb:decide (nd.bys=nd.bys)=true:=decide_eq_true rfl
  repeat' (first|apply And.intro|exact trivial|exact rfl|exact zf|exact zh|refine zt ?_|exact zm N1 rfl|exact zr N1 rfl rfl|exact fun (h:aS _ _ _ _ _=true)=>Bool.noConfusion (h.symm.trans (o3 (o3 (o3 (congrArg not hbd) rfl) (congrArg not hbb)) (congrArg not hkd)))|refine fun (_:aS _ _ _ _ _=false)=>?_|fail)
  refine ⟨⟨Nat×(Nat->NO),fun s=>s.1<=nd.bys.length/\Tr Dd T s.2 c r K,fun s=>[(17,.int .i64 (s.1:Int))],fun s=>lsH 3 nd.kids::tH 0 1 r s.2,fun s=>nd.bys.length - s.1⟩,(0,N1),⟨Nat.zero_le _,h1⟩,?_,?_⟩
  ·repeat' (first|apply And.intro|exact trivial|exact rfl|exact zf|exact zh|refine zt ?_|exact zm N1 rfl|exact zr N1 rfl rfl|exact fun (j:Nat) (hj:j < _)=>Or.inl (aT _ _ _ _)|exact fun (j:Nat) (hj:j < _)=>Or.inl (aL _ _ _ _)|exact (fun (q:Nat) _=>by rw [Nat.zero_add q]; exact Or.inl (aL _ _ _ _))|fail)
  rintro ⟨j,N2⟩ ⟨(kj:j<=nd.bys.length),(h2:Tr Dd T N2 c r K)⟩
  repeat' (first|apply And.intro|exact trivial|exact rfl|exact zf|exact zh|refine zt ?_|exact zm N1 rfl|exact zr N1 rfl rfl|fail)
  ·refine fun (hg:decide ((j:Int) < (nd.bys.length:Int))=true)=>?_
   have g1:(j:Int) < (nd.bys.length:Int):=of_decide_eq_true hg
   have hj:j < nd.bys.length:=by omega
   have g0:(0:Int)<=(j:Int):=by omega
   have g2:-9223372036854775808<=(j:Int)+1:=by omega
   have g3:(j:Int)+1<=9223372036854775807:=by omega
   have g4:j+1<=nd.bys.length:=hj
   have g5:nd.bys.length - (j+1) < nd.bys.length - j:=by omega
   have g6:(j:Int)<=(j:Int)+1:=by omega
   have g7:(j:Int)+1<=(nd.bys.length:Int):=by omega
   have g8:(j:Int) < (nd.kids.length:Int):=by omega
   have g9:0+(j:Int).toNat < nd.kids.length:=by omega
   obtain ⟨bj,u,kb1,kb2,kb3⟩:∃ b u,(nd.bys.drop j).take 1=[b]/\cL (p++[b]) T=some u/\nd.kids.getD j []=oI Dd u:=by
    rw [hnd] at hj ⊢
    exact X2 w hj
   have tj:(((j:Int)+1).toNat - (j:Int).toNat)=1:=by omega
   have hcj:List.take (((j:Int)+1).toNat - (j:Int).toNat) (List.drop (j:Int).toNat nd.bys)=[bj]:=by rw [tj]; exact kb1
   have hsj:p++List.take (((j:Int)+1).toNat - (j:Int).toNat) (List.drop (j:Int).toNat nd.bys)=p++[bj]:=by rw [hcj]
   have hlj:p.length+(List.take (((j:Int)+1).toNat - (j:Int).toNat) (List.drop (j:Int).toNat nd.bys)).length<=9223372036854775807:=by rw [hcj,List.length_singleton]; omega
   have hu3:UOk ⟨T,N2,c,r,K,p++[bj]⟩:=⟨h2,hs12,by show (p++[bj]).length<=_; rw [List.length_append,List.length_singleton]; omega⟩
   repeat' (first|apply And.intro|exact trivial|exact rfl|exact zf|exact zh|refine zt ?_|exact zm N2 rfl|exact zr N2 rfl rfl|(with_reducible first|exact g0|exact g1|exact g2|exact g3|exact g6|exact g7)|fail)
   ·exact hlj
   refine Exists.intro ⟨T,N2,c,r,K,p++[bj]⟩ (Exists.intro [0,1] ?_)
   repeat' (first|exact hu3|apply And.intro|exact trivial|exact rfl|exact zf|exact zh|refine zt ?_|exact hsj|exact zm N2 rfl|exact zr N2 rfl rfl|fail)
   refine fun (y:(Nat->NO)×ND×Bool) (hy:Tr Dd T y.1 c r K/\y.2.1=ndO (cL (p++[bj]) T)/\y.2.2=(cL (p++[bj]) T).isSome)=>?_
   obtain ⟨N3,nd4,b4⟩:=y
   obtain ⟨(h3:Tr Dd T N3 c r K),(hnd4:nd4=ndO (cL (p++[bj]) T)),(hb4:b4=(cL (p++[bj]) T).isSome)⟩:=hy
   rw [kb2] at hnd4 hb4
   replace hnd4:nd4=ndT u:=hnd4
   obtain rfl:b4=true:=hb4
   have hq4:=Xx kb2 h3 hs12
   rw [<- hnd4] at hq4
   have hki:(nd.kids.getD j []).length=16/\∀ b∈nd.kids.getD j [],b∈hxT:=by rw [kb3]; exact Xz u
   repeat' (first|apply And.intro|exact trivial|exact rfl|exact zf|exact zh|refine zt ?_|exact zm N3 rfl|exact zr N3 rfl rfl|(with_reducible first|exact g0|exact g8)|exact g9|fail)
   refine Exists.intro nd4 (Exists.intro [] ?_)
   repeat' (first|exact hq4|apply And.intro|exact trivial|exact rfl|exact zf|exact zh|refine zt ?_|exact Nat.le_of_eq (Nat.zero_add _)|exact (fun (q:Nat) _=>by rw [Nat.zero_add q]; exact Or.inl (aL _ _ _ _))|fail)
   refine fun (d:B) (hd:d=kB nd4)=>?_
   obtain rfl:d=oI Dd u:=hd.trans (by rw [hnd4,tN])
   have ek0:nd.kids.getD (0+(j:Int).toNat) []=nd.kids.getD j []:=by rw [Nat.zero_add]; rfl
   have hki2:(nd.kids.getD (0+(j:Int).toNat) []).length=16/\∀ b∈nd.kids.getD (0+(j:Int).toNat) [],b∈hxT:=by rw [ek0]; exact hki
   have hdk:decide (nd.kids.getD (0+(j:Int).toNat) []=oI Dd u)=true:=decide_eq_true (ek0.trans kb3)
   repeat' (first|apply And.intro|exact trivial|exact rfl|exact zf|exact zh|refine zt ?_|exact zm N3 rfl|exact zr N3 rfl rfl|(with_reducible first|exact g0|exact g8)|exact g9|(with_reducible first|exact g2|exact g3)|exact fun (h:aS _ _ _ _ _=true)=>Bool.noConfusion (h.symm.trans (o3 (o3 rfl (congrArg not hdk)) rfl))|refine fun (_:aS _ _ _ _ _=false)=>?_|fail)
   ·exact hki2.1
   ·exact hki2.2
   refine Exists.intro (j+1,N3) ?_
   repeat' (first|exact g4|exact h3|exact g5|apply And.intro|exact trivial|exact rfl|exact zf|exact zh|refine zt ?_|exact zm N3 rfl|exact zr N3 rfl rfl|exact fun (j:Nat) (hj:j < _)=>Or.inl (aL _ _ _ _)|exact fun (j:Nat) (hj:j < _)=>Or.inl (aT _ _ _ _)|fail)
  refine fun (hg:decide ((j:Int) < (nd.bys.length:Int))=false)=>?_
  have hu4:UOk ⟨T,N2,c,r,K,[]⟩:=⟨h2,hs12,by show 0<=_; decide⟩
  repeat' (first|apply And.intro|exact trivial|exact rfl|exact zf|exact zh|refine zt ?_|exact zm N2 rfl|exact zr N2 rfl rfl|fail)
  refine Exists.intro ⟨T,N2,c,r,K,[]⟩ (Exists.intro [0,1] ?_)
  repeat' (first|exact hu4|apply And.intro|exact trivial|exact rfl|exact zf|exact zh|refine zt ?_|exact zm N2 rfl|exact zr N2 rfl rfl|fail)
  refine fun (y:(Nat->NO)×ND×Bool) (hy:Tr Dd T y.1 c r K/\y.2.1=ndO (cL [] T)/\y.2.2=(cL [] T).isSome)=>?_
  obtain ⟨N3,nd3,b3⟩:=y
  obtain ⟨(h3:Tr Dd T N3 c r K),(hnd3:nd3=ndT T),_⟩:=hy
  repeat' (first|apply And.intro|exact trivial|exact rfl|exact zf|exact zh|refine zt ?_|exact zm N3 rfl|exact zr N3 rfl rfl|fail)
  have hu5:UOk ⟨T,N3,c,r,K,[]⟩:=⟨h3,hs12,by show 0<=_; decide⟩
  have hq3:=Xx (p:=[]) (T:=T) rfl h3 hs12
  rw [<- hnd3] at hq3
  refine Exists.intro ⟨T,N3,c,r,K,[]⟩ (Exists.intro [0,1] ?_)
  repeat' (first|exact hu5|apply And.intro|exact trivial|exact rfl|exact zf|exact zh|refine zt ?_|exact zm N3 rfl|exact zr N3 rfl rfl|fail)
  refine fun (N4:Nat->NO) (h4:Tr Dd T N4 c r K)=>?_
  repeat' (first|apply And.intro|exact trivial|exact rfl|exact zf|exact zh|refine zt ?_|exact zm N4 rfl|exact zr N4 rfl rfl|fail)
  refine Exists.intro nd3 (Exists.intro [] ?_)
  repeat' (first|exact hq3|apply And.intro|exact trivial|exact rfl|exact zf|exact zh|refine zt ?_|exact Nat.le_of_eq (Nat.zero_add _)|exact (fun (q:Nat) _=>by rw [Nat.zero_add q]; exact Or.inl (aL _ _ _ _))|fail)
  refine fun (d:B) (hd:d=kB nd3)=>?_
  obtain rfl:d=oI Dd T:=hd.trans (by rw [hnd3,tN])
  have hdd:decide (oI Dd T=oI Dd T)=true:=decide_eq_true rfl
  repeat' (first|apply And.intro|exact trivial|exact rfl|exact zf|exact zh|refine zt ?_|exact zm N4 rfl|exact zr N4 rfl rfl|exact (pk rfl hdd:aS _ _ _ _ _=true)|fail)
end T42
