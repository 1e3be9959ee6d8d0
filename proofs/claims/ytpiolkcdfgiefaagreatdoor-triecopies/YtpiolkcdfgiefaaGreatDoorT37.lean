/- A part of the proof. -/
import Derived.Test.YtpiolkcdfgiefaaGreatDoorT36
open Go Go.Eng Go.Proofs A0 T1 T2 T3 T4 T5 T6 T7 T8 T9 T10 T11 T12 T13 T14 T17 T18 T19 T20 T21 T22 T23 T24 T25 T26 T27 T28 T30 T31 T33 D3 D6 D9 D10 D11 D12 D13 D14 T34 T35 T36
set_option maxRecDepth 100000
namespace T37
def g3:List Nat:=[24,5,33,47,9,59,61,8,92,10,94,0,7,4,108,163,12,3,11,6,2]
def c3:aF :=
 .seq (.region g3 [(zo 2 (.move cF))]) (.seq (.region g3 [(zo 13 (.call (.c (.fn 10)) [])),(mv 3 13)]) (.seq (.region g3 [(zo 15 (.call (.c (.fn 11)) [.c (.nilsl)])),(mv 14 15),(zo 16 (.extract 0 (.s 14))),(zo 17 (.extract 1 (.s 14))),(mv 4 16),(mv 5 17)]) (.seq (.seq (.region g3 [(mv 18 0),(zo 19 (.call (.c (.fn 12)) [.s 18])),(zo 20 (.not (.s 19))),(mv 21 20),(mg 22 21 false 5),(zg 23 21 false (.bin (.neq) (.s 22) (cj 0))),(zo 24 (.pick (.s 21) cT (.s 23)))]) (.cond (.s 24) (.seq (.region g3 [(mv 25 3),(mv 26 25),(mg 27 26 true 5),(zg 28 26 true (.bin (.eql) (.s 27) (cj 0))),(zo 29 (.pick (.s 26) (.s 28) cF)),(mv 2 29)]) .ret) .skip)) (.seq (.region g3 [(zo 6 (.move (.c (.nilsl))))]) (.seq (.seq (.region g3 [(zo 7 (.move (cj 0)))]) (.block 0 (.loop 0 [30,31,32,33,36,37,38,39,40,41,42,8,43,44,45,46,47,48,49,50,51,52,53,54,9,55,56,57,58,59,60,61,62,63,64,65,66,67,68,69,70,71,72,73,74,75,76,77,78,10,79,80,81,82,83,84,85,86,87,88,89,90,91,92,2,93,94,95,96,97,98,99,100,101,102,6,34,35,7] (.seq (.seq (.region g3 [(mv 30 7),(mv 31 0),(zo 32 (.lenSl (.s 31))),(zo 33 (.bin (.lss) (.s 30) (.s 32)))]) (.cond (.s 33) .skip (.exit 0))) (.seq (.block 1 (.seq (.region g3 [(mv 36 6),(mv 37 0),(mv 38 7),(zo 39 (.idxSl 3 (.s 37) (.s 38))),(fa 40 1 39),(zo 41 (.load 2 true (.s 40))),(zo 42 (.call (.c (.fn 13)) [.s 36,.s 41])),(mv 8 42)]) (.seq (.seq (.region g3 [(mv 43 0),(mv 44 7),(zo 45 (.idxSl 3 (.s 43) (.s 44))),(fa 46 0 45),(ld 47 46)]) (.cond (.s 47) (.seq (.seq (.region g3 [(mv 48 4),(mv 49 0),(mv 50 7),(zo 51 (.idxSl 3 (.s 49) (.s 50))),(fa 52 1 51),(zo 53 (.load 2 true (.s 52))),(zo 54 (.call (.c (.fn 14)) [.s 48,.s 53])),(mv 9 54)]) (.seq (.region g3 [(mv 55 9),(zo 56 (.bin (.eql) (.s 55) (cj 0))),(mv 57 8),(zo 58 (.bin (.geq) (.s 57) (cj 0))),(zo 59 (.eqB true (.s 56) (.s 58)))]) (.cond (.s 59) (.seq (.region g3 [(zo 2 (.move cF))]) .ret) .skip))) (.seq (.seq (.region g3 [(mv 60 8),(zo 61 (.bin (.geq) (.s 60) (cj 0)))]) (.cond (.s 61) (.seq (.drawn [24,5,33,47,9,59,61,8,92,10,94,0,7,4,108,163,12,3,11,6,2,71] (.pure 0 (zo 62 (.buildSl 32 2 0 (.cons (.str []) (.cons (.str []) .nil)) [])) (.pure 1 (mv 63 6) (.pure 2 (mv 64 8) (.pure 3 (zo 65 (.sliceSl 2 (.s 63) none (some (.s 64)))) (.pure 5 (mv 67 6) (.pure 6 (mv 68 8) (.pure 7 (zo 69 (.bin (.add) (.s 68) (cj 1))) (.pure 8 (zo 70 (.sliceSl 2 (.s 67) (some (.s 69)) none)) (.eff 4 (zo 66 (.app 32 2 32 (.s 62) (.s 65))) [] (.eff 9 (zo 71 (.app 32 2 32 (.s 66) (.s 70))) [] .done .none) .none)))))))))) (.region g3 [(mv 6 71)])) .skip)) (.exit 1))) .skip)) (.seq (.region g3 [(mv 72 4),(mv 73 0),(mv 74 7),(zo 75 (.idxSl 3 (.s 73) (.s 74))),(fa 76 1 75),(zo 77 (.load 2 true (.s 76))),(zo 78 (.call (.c (.fn 15)) [.s 72,.s 77])),(mv 10 78)]) (.seq (.seq (.region g3 [(mv 79 10),(zo 80 (.bin (.eql) (.s 79) (cj 0))),(mv 81 80),(mg 82 81 true 8),(zg 83 81 true (.bin (.geq) (.s 82) (cj 0))),(zo 84 (.pick (.s 81) (.s 83) cF)),(mv 85 84),(mg 86 85 false 10),(zg 87 85 false (.bin (.eql) (.s 86) (cj 8))),(mg 88 85 false 87),(mg 89 88 true 8),(zg 90 88 true (.bin (.lss) (.s 89) (cj 0))),(zg 91 85 false (.pick (.s 88) (.s 90) cF)),(zo 92 (.pick (.s 85) cT (.s 91)))]) (.cond (.s 92) (.seq (.region g3 [(zo 2 (.move cF))]) .ret) .skip)) (.seq (.region g3 [(mv 93 10),(zo 94 (.bin (.eql) (.s 93) (cj 0)))]) (.cond (.s 94) (.region g3 [(mv 95 6),(mv 96 0),(mv 97 7),(zo 98 (.idxSl 3 (.s 96) (.s 97))),(fa 99 1 98),(zo 100 (.load 2 true (.s 99))),(zo 101 (.buildSl 32 2 1 (.cons (.str []) (.cons (.str []) .nil)) [(0,2,.s 100)])),(zo 102 (.app 32 2 32 (.s 95) (.s 101))),(mv 6 102)]) .skip))))))) (.region g3 [(mv 34 7),(zo 35 (.bin (.add) (.s 34) (cj 1))),(mv 7 35)])))))) (.seq (.region g3 [(mv 103 4),(zo 104 (.call (.c (.fn 16)) [.s 103])),(mv 11 104)]) (.seq (.seq (.region g3 [(zo 12 (.move (cj 0)))]) (.block 2 (.loop 1 [105,106,107,108,111,112,113,114,115,116,117,118,119,120,121,122,123,124,125,126,127,128,129,130,131,132,133,134,135,136,137,138,139,140,141,142,143,144,145,146,147,148,149,150,151,152,153,154,155,156,157,158,159,160,161,162,163,2,109,110,12] (.seq (.seq (.region g3 [(mv 105 12),(mv 106 11),(zo 107 (.lenSl (.s 106))),(zo 108 (.bin (.lss) (.s 105) (.s 107)))]) (.cond (.s 108) .skip (.exit 2))) (.seq (.block 3 (.seq (.drawn g3 (.pure 0 (mv 111 6) (.pure 1 (mv 112 11) (.pure 2 (mv 113 12) (.pure 3 (zo 114 (.idxSl 2 (.s 112) (.s 113))) (.pure 4 (zo 115 (.load 2 true (.s 114))) (.eff 5 (zo 116 (.call (.c (.fn 13)) [.s 111,.s 115])) [] (.pure 6 (zo 117 (.bin (.lss) (.s 116) (cj 0))) (.pure 7 (mv 118 117) (.pure 8 (mg 119 118 false 12) (.pure 9 (zg 120 118 false (.bin (.gtr) (.s 119) (cj 0))) (.pure 10 (mg 121 118 false 120) (.pure 11 (mg 122 121 true 11) (.pure 12 (mg 123 121 true 12) (.pure 13 (zg 124 121 true (.bin (.sub) (.s 123) (cj 1))) (.pure 14 (zg 125 121 true (.idxSl 2 (.s 122) (.s 124))) (.pure 15 (fg 126 121 true 0 125) (.pure 16 (lg 127 121 true 126) (.pure 17 (mg 128 121 true 11) (.pure 18 (mg 129 121 true 12) (.pure 19 (zg 130 121 true (.idxSl 2 (.s 128) (.s 129))) (.pure 20 (fg 131 121 true 0 130) (.pure 21 (lg 132 121 true 131) (.pure 22 (zg 133 121 true (.bin (.gtr) (.s 127) (.s 132))) (.pure 23 (mg 134 121 true 133) (.pure 24 (mg 135 134 false 11) (.pure 25 (mg 136 134 false 12) (.pure 26 (zg 137 134 false (.bin (.sub) (.s 136) (cj 1))) (.pure 27 (zg 138 134 false (.idxSl 2 (.s 135) (.s 137))) (.pure 28 (fg 139 134 false 0 138) (.pure 29 (lg 140 134 false 139) (.pure 30 (mg 141 134 false 11) (.pure 31 (mg 142 134 false 12) (.pure 32 (zg 143 134 false (.idxSl 2 (.s 141) (.s 142))) (.pure 33 (fg 144 134 false 0 143) (.pure 34 (lg 145 134 false 144) (.pure 35 (zg 146 134 false (.bin (.eql) (.s 140) (.s 145))) (.pure 36 (mg 147 134 false 146) (.pure 37 (mg 148 147 true 11) (.pure 38 (mg 149 147 true 12) (.pure 39 (zg 150 147 true (.bin (.sub) (.s 149) (cj 1))) (.pure 40 (zg 151 147 true (.idxSl 2 (.s 148) (.s 150))) (.pure 41 (fg 152 147 true 1 151) (.pure 42 (lg 153 147 true 152) (.pure 43 (mg 154 147 true 11) (.pure 44 (mg 155 147 true 12) (.pure 45 (zg 156 147 true (.idxSl 2 (.s 154) (.s 155))) (.pure 46 (fg 157 147 true 1 156) (.pure 47 (lg 158 147 true 157) (.pure 48 (zg 159 147 true (.bin (.geq) (.s 153) (.s 158))) (.pure 49 (zg 160 134 false (.pick (.s 147) (.s 159) cF)) (.pure 50 (zg 161 121 true (.pick (.s 134) cT (.s 160))) (.pure 51 (zg 162 118 false (.pick (.s 121) (.s 161) cF)) (.pure 52 (zo 163 (.pick (.s 118) cT (.s 162))) .done))))))))))))))))))))))))))))))))))))))))))))))) .none))))))) (.cond (.s 163) (.seq (.region g3 [(zo 2 (.move cF))]) .ret) .skip))) (.region g3 [(mv 109 12),(zo 110 (.bin (.add) (.s 109) (cj 1))),(mv 12 110)])))))) (.seq (.region g3 [(mv 164 3),(mv 165 164),(mg 166 165 true 11),(zg 167 165 true (.lenSl (.s 166))),(mg 168 165 true 6),(zg 169 165 true (.lenSl (.s 168))),(zg 170 165 true (.bin (.eql) (.s 167) (.s 169))),(zo 171 (.pick (.s 165) (.s 170) cF)),(mv 2 171)]) .ret))))))))
def r3:List gS:=[.slot 2]
def k3:List (Nat×Nat×aF×Nat):=[]
theorem e3:aO Tryz.prog 3 g3 [] [116] k3=some (c3,r3,172):=by kernel_rfl
theorem q3:kU Tryz.prog k3:=kU.nil
def Q9:aK:=Ra.mof Int (fun x y=>y=rS x.1 x.2) (fun _ y=>.int .i64 y)
theorem L7:Q9.Ok Tryz.prog 13:=Eng.Spec.iN Pm fun _ _=>⟨_,rfl,rfl⟩
def Q7:aK:=Q8.mof Bool (fun x y=>y=vY x) (fun _ y=>.bool y)
theorem Ly:Q7.Ok Tryz.prog 12:=Eng.Spec.iN Pl fun _ _=>⟨_,rfl,rfl⟩
def P6:Eng.Spec where
 X:=List Ac
 args:=fun x=>.cons (acE x) .nil
 pre:=fun x=>x.length < 4611686018427387904/\∀ j,j < x.length->(x.getD j a0).2.1.length < 4611686018427387904
 res:=fun _=>.bool true
 inst:=fun _=>none
theorem Wm:T19.eZ []=(0,emp):=rfl
structure LI (S:List Ky) (T:TT):Prop where
 nd:S.Nodup
 mem:∀ t i,eB t i T ↔ (t,i)∈S
 len:szT T=S.length
theorem Gy {S:List Ky} {v:Ky} (h:v∈S):∃ i,i < S.length/\S.getD i k0=v/\rS S v=(i:Int):=by
 cases e:(List.range S.length).find? (fun i=>decide (S.getD i k0=v)) with
 | none =>
  obtain ⟨i,hi,rfl⟩:=List.getElem_of_mem h
  have:=List.find?_eq_none.1 e i (List.mem_range.2 hi)
  simp [hi] at this
 | some i =>
  obtain ⟨h1,h2,_⟩:=List.find?_range_eq_some.1 e
  refine ⟨i,List.mem_range.1 h2,of_decide_eq_true h1,?_⟩
  unfold rS
  rw [e]
theorem O0 {S:List Ky} {v:Ky} (h:v ∉ S):rS S v=-1:=K7 fun j hj e=>h (by
 rw [<- e,List.getD_eq_getElem?_getD,List.getElem?_eq_getElem hj]
 exact List.getElem_mem hj)
theorem li0:LI [] emp:=⟨.nil,fun _ _=>⟨fun h=>absurd h zP,fun h=>absurd h List.not_mem_nil⟩,rfl⟩
theorem Sf {k:Keep} {hp:List (Nat×aC)} {S:List Ky} {i n:Nat} (hi:i < S.length):∀ j,j < n->iC k (sub k hp 200) (dZ (i:Int).toNat (fun j=>oL (S.getD (0+j) k0)) (fun j=>oL (S.getD (0+((i:Int)+1).toNat+j) k0)) j) (oL ((S.take i++S.drop (i+1)).getD j k0)):=by
 intro j _
 have e:dZ (i:Int).toNat (fun j=>oL (S.getD (0+j) k0)) (fun j=>oL (S.getD (0+((i:Int)+1).toNat+j) k0)) j=oL ((S.take i++S.drop (i+1)).getD j k0):=by
  have t0:(i:Int).toNat=i:=by omega
  have t1:((i:Int)+1).toNat=i+1:=by omega
  unfold dZ
  rw [yI,t0,t1]
  split
  ·rename_i h
   show oL (S.getD (0+j) k0)=_
   rw [Nat.zero_add,List.getD_eq_getElem?_getD,List.getD_eq_getElem?_getD,List.getElem?_append_left (by rw [List.length_take]; omega),List.getElem?_take_of_lt h]
  ·show oL (S.getD (0+(i+1)+(j - i)) k0)=_
   rw [List.getD_eq_getElem?_getD,List.getD_eq_getElem?_getD,List.getElem?_append_right (by rw [List.length_take]; omega),List.getElem?_drop,List.length_take,Nat.min_eq_left (Nat.le_of_lt hi),Nat.zero_add]
 rw [e]
 exact Or.inl (aT _ _ _ _)
theorem gdA {j:Nat} {X P:Prop} (h:0 < (j:Int)->P):(decide ((0:Int) < (j:Int))=true/\X)->P:=fun k=>h (of_decide_eq_true k.1)
theorem gdB {j:Nat} {A X P:Prop} (h:0 < (j:Int)->P):(A/\decide ((0:Int) < (j:Int))=true/\X)->P:=fun k=>h (of_decide_eq_true k.2.1)
theorem gdC {j:Nat} {A A' X P:Prop} (h:0 < (j:Int)->P):(A/\A'/\decide ((0:Int) < (j:Int))=true/\X)->P:=fun k=>h (of_decide_eq_true k.2.2.1)
theorem kb {i j n1 n2 n3 n4:Nat} {a b:Ky} (h:0 < (j:Int)->klt a b):aS (decide ((i:Int) < 0)) cT (.s n1) true (aS (decide ((0:Int) < (j:Int))) (.s n2) cF (aS (!(bl a.1 b.1 || decide (a.1=b.1))) cT (.s n3) true (aS (decide (a.1=b.1)) (.s n4) cF (!bl a.2 b.2) false)) false)=false:=by
 rw [dH,bA,dH,bA,decide_eq_false (show ¬ (i:Int) < 0 by omega),Bool.false_or]
 by_cases hj:0 < (j:Int)
 ·rcases h hj with h1|⟨h1,h2⟩
  ·have hne:a.1≠b.1:=fun e=>by rw [e,Dj] at h1; cases h1
   rw [h1,decide_eq_false hne]
   simp
  ·rw [h1,h2]
   simp
 ·rw [decide_eq_false hj]
  rfl
theorem LI.cut {S:List Ky} {T:TT} {i:Nat} {v:Ky} (h:LI S T) (w:wfT T) (hi:i < S.length) (hv:S.getD i k0=v):LI (S.take i++S.drop (i+1)) (jL v.2 v.1 T):=by
 have he:S[i]=v:=by rw [List.getD_eq_getElem?_getD,List.getElem?_eq_getElem hi] at hv; exact hv
 have e:S=S.take i++v::S.drop (i+1):=by rw [<- he,List.getElem_cons_drop,List.take_append_drop]
 have hn:=h.nd
 rw [e,List.nodup_append] at hn
 obtain ⟨n1,n2,n3⟩:=hn
 have n4:=List.nodup_cons.1 n2
 have hm:eB v.1 v.2 T:=(h.mem _ _).2 (he ▸ List.getElem_mem hi)
 refine ⟨List.nodup_append.2 ⟨n1,n4.2,fun a ha b hb=>n3 a ha b (List.mem_cons_of_mem _ hb)⟩,fun t i'=>?_,?_⟩
 ·rw [zO v.1 w hm,h.mem]
  conv=>lhs; rw [e]
  rw [List.mem_append,List.mem_append,List.mem_cons]
  have hp:(t,i')=v ↔ t=v.1/\i'=v.2:=by rw [Prod.ext_iff]
  constructor
  ·rintro ⟨h1|h1|h1,h2⟩
   ·exact .inl h1
   ·exact absurd (hp.1 h1) h2
   ·exact .inr h1
  ·rintro (h1|h1)
   ·exact ⟨.inl h1,fun h2=>n3 _ h1 _ List.mem_cons_self (hp.2 h2)⟩
   ·exact ⟨.inr (.inr h1),fun h2=>n4.1 (hp.2 h2 ▸ h1)⟩
 ·have h1:=T16.sL v.1 w hm
  have h2:=h.len
  rw [List.length_append,List.length_take,List.length_drop]
  omega
theorem LI.add {S:List Ky} {T:TT} {v:Ky} (h:LI S T) (w:wfT T) (hv:v ∉ S):LI (S++[v]) (fX v.2 v.1 T):=by
 refine ⟨List.nodup_append.2 ⟨h.nd,by simp,?_⟩,fun t i=>?_,?_⟩
 ·intro a ha b hb e
  rw [List.mem_singleton.1 hb] at e
  exact hv (e ▸ ha)
 ·rw [zQ v.1 w,h.mem,List.mem_append,List.mem_singleton,Prod.ext_iff]
  exact Or.comm
 ·rw [nS v.1 w,h.len,List.length_append]; rfl
attribute [local irreducible] D9.Dd D6.kL oI T19.eZ
set_option maxHeartbeats 1000000 in
theorem Fp:P6.Ok Tryz.prog 3:=by
 refine Eng.Spec.okR e3 q3 (fun _=>[(10,.p Q1),(11,.m (Tt Dd)),(12,.m Q7),(13,.m Q9),(14,.m dtS),(15,.m ptS),(16,.m Vj)]) (fun _ _=>aD.p O6 (aD.m (Mi Dd) (aD.m Ly (aD.m L7 (aD.m Qs (aD.m Rf (aD.m Tl aD.nil))))))) ?_
 rintro (l:List Ac) ⟨(hn:l.length < 4611686018427387904),(ht:∀ j,j < l.length->(l.getD j a0).2.1.length < 4611686018427387904)⟩
 refine ⟨trivial,?_⟩
 repeat' (first|apply And.intro|exact trivial|exact rfl|exact zf|exact zh|refine zt ?_|fail)
 have hpn:([]:List Ky).length < 4611686018427387904/\∀ j,j < ([]:List Ky).length->(([]:List Ky).getD j k0).1.length < 4611686018427387904:=⟨by decide,fun j hj=>absurd hj (Nat.not_lt_zero j)⟩
 refine Exists.intro [] (Exists.intro [] ?_)
 repeat' (first|exact hpn|apply And.intro|exact trivial|exact rfl|exact zf|exact zh|refine zt ?_|exact fun (j:Nat) (hj:j < _)=>Or.inl (aT _ _ _ _)|fail)
 refine fun (y:NY) (hy:(y.e=(T19.eZ []).1/\y.o=decide (y.e=0))/\(y.o=true->Tr Dd (T19.eZ []).2 y.N y.c y.r y.K/\0<=y.K/\y.K<=20000000))=>?_
 rw [Wm] at hy
 obtain ⟨e,o,N,c,r,K⟩:=y
 obtain ⟨⟨(rfl:e=0),(ho:o=decide ((0:Int)=0))⟩,htr⟩:=hy
 obtain rfl:o=true:=ho.trans (by decide)
 obtain ⟨(htr:Tr Dd emp N c r K),(hK0:0<=K),(hK1:K<=20000000)⟩:=htr rfl
 clear ho
 repeat' (first|apply And.intro|exact trivial|exact rfl|exact zf|exact zh|refine zt ?_|exact zm N rfl|exact zr N rfl rfl|fail)
 refine Exists.intro l (Exists.intro [] ?_)
 repeat' (first|exact hn|apply And.intro|exact trivial|exact rfl|exact zf|exact zh|refine zt ?_|exact fun (j:Nat) (hj:j < _)=>Or.inl (eY _ _ _ _)|fail)
 refine fun (y:Bool) (hy:y=vY l)=>?_
 cases y
 ·repeat' (first|apply And.intro|exact trivial|exact rfl|exact zf|exact zh|refine zt ?_|exact fun (j:Nat) (hj:j < _)=>Or.inl (eY _ _ _ _)|exact zm N rfl|exact zr N rfl rfl|fail)
 have hl12:l.length<=12:=by
  have:=hy.symm
  unfold vY at this
  rw [Bool.and_eq_true,decide_eq_true_eq] at this
  exact this.1
 repeat' (first|apply And.intro|exact trivial|exact rfl|exact zf|exact zh|refine zt ?_|exact fun (j:Nat) (hj:j < _)=>Or.inl (eY _ _ _ _)|exact zm N rfl|exact zr N rfl rfl|fail)
 refine ⟨⟨Nat×List Ky×TT×(Nat->NO)×Nat×Int,fun s=>s.1<=l.length/\s.2.1.length<=s.1/\LI s.2.1 s.2.2.1/\Tr Dd s.2.2.1 s.2.2.2.1 s.2.2.2.2.1 r s.2.2.2.2.2/\0<=s.2.2.2.2.2/\s.2.2.2.2.2<=20000000+1000 * (s.1:Int),fun s=>[(7,.int .i64 (s.1:Int)),(6,.lsl 40 2 s.2.1.length)],fun s=>ksH 40 s.2.1::tH 0 1 r s.2.2.2.1,fun s=>l.length - s.1⟩,(0,[],emp,N,c,K),?_,?_,?_⟩
 ·exact ⟨Nat.zero_le _,Nat.le_refl _,li0,htr,hK0,by show K<=20000000+1000 * ((0:Nat):Int); omega⟩
 ·repeat' (first|apply And.intro|exact trivial|exact rfl|exact zf|exact zh|refine zt ?_|exact fun (j:Nat) (hj:j < _)=>Or.inl (eY _ _ _ _)|exact zm N rfl|exact zr N rfl rfl|fail)
 rintro ⟨j,S,T,M,d,Q⟩ ⟨(kj:j<=l.length),(kS:S.length<=j),(k1:LI S T),(k2:Tr Dd T M d r Q),(k3:0<=Q),(k4:Q<=20000000+1000 * (j:Int))⟩
 repeat' (first|apply And.intro|exact trivial|exact rfl|exact zf|exact zh|refine zt ?_|exact fun (j:Nat) (hj:j < _)=>Or.inl (eY _ _ _ _)|exact zm M rfl|exact zr M rfl rfl|fail)
 ·refine fun (hg:decide ((j:Int) < (l.length:Int))=true)=>?_
  have hj:j < l.length:=by have:=of_decide_eq_true hg; omega
  have g0:(0:Int)<=(j:Int):=by omega
  have g1:(j:Int) < (l.length:Int):=by omega
  have g2:-9223372036854775808<=(j:Int)+1:=by omega
  have g3:(j:Int)+1<=9223372036854775807:=by omega
  have kj':j+1<=l.length:=hj
  have k9:l.length - (j+1) < l.length - j:=by omega
  have k7:0<=Q+1000:=by omega
  have k8:Q+1000<=20000000+1000 * ((j+1:Nat):Int):=by omega
  have hS:S.length < 4611686018427387904:=by omega
  have w:wfT T:=k2.wf
  have hs12:szT T<=12:=by rw [k1.len]; omega
  have hpp:POk ⟨T,M,d,r,Q,(l.getD j a0).2⟩:=⟨k2,k3,by show Q<=_; omega,ht j hj⟩
  repeat' (first|apply And.intro|exact trivial|exact rfl|exact zf|exact zh|refine zt ?_|(with_reducible first|exact g0|exact g1)|fail)
  refine Exists.intro (S,(l.getD j a0).2) (Exists.intro [] ?_)
  repeat' (first|exact hS|apply And.intro|exact trivial|exact rfl|exact zf|exact zh|refine zt ?_|exact fun (j:Nat) (hj:j < _)=>Or.inl (aT _ _ _ _)|fail)
  ·exact Nat.le_of_eq (Nat.zero_add _)
  ·exact (fun (i:Nat) _=>by rw [Nat.zero_add]; exact Or.inl (aT _ _ _ _))
  refine fun (y:Int) (hy:y=rS S (l.getD j a0).2)=>?_
  by_cases hm:(l.getD j a0).2∈S
  ·obtain ⟨i,hi,hgi,hfi⟩:=Gy hm
   obtain rfl:y=(i:Int):=hy.trans hfi
   have hmT:eB (l.getD j a0).2.1 (l.getD j a0).2.2 T:=(k1.mem _ _).2 hm
   repeat' (first|apply And.intro|exact trivial|exact rfl|exact zf|exact zh|refine zt ?_|(with_reducible first|exact g0|exact g1)|fail)
   ·refine fun (hb:(l.getD j a0).1=true)=>?_
    repeat' (first|apply And.intro|exact trivial|exact rfl|exact zf|exact zh|refine zt ?_|(with_reducible first|exact g0|exact g1)|fail)
    refine Exists.intro ⟨T,M,d,r,Q,(l.getD j a0).2⟩ (Exists.intro [0,1] ?_)
    repeat' (first|exact hpp|apply And.intro|exact trivial|exact rfl|exact zf|exact zh|refine zt ?_|exact zm M rfl|exact zr M rfl rfl|fail)
    refine fun (y:(Nat->NO)×Int) (hy:Tr Dd (kI T (l.getD j a0).2) y.1 d r (Q+1000)/\y.2=dcT T (l.getD j a0).2)=>?_
    obtain ⟨M2,f⟩:=y
    obtain ⟨(h2:Tr Dd (kI T (l.getD j a0).2) M2 d r (Q+1000)),(hf:f=dcT T (l.getD j a0).2)⟩:=hy
    rw [(Kk hmT).2] at h2
    rw [(Kk hmT).1] at hf
    subst hf
    have t1:((i:Int)+1).toNat=i+1:=by omega
    have hc:(0<=(i:Int)/\(i:Int)<=(S.length:Int))/\(-9223372036854775808<=(i:Int)+1/\(i:Int)+1<=9223372036854775807)/\(0<=(i:Int)+1/\(i:Int)+1<=(S.length:Int)):=by omega
    have hli:=k1.cut w hi hgi
    have hl2:(i:Int).toNat+(S.length - ((i:Int)+1).toNat)=(S.take i++S.drop (i+1)).length:=by rw [List.length_append,List.length_take,List.length_drop]; omega
    have hlen:(S.take i++S.drop (i+1)).length<=j+1:=by rw [List.length_append,List.length_take,List.length_drop]; omega
    repeat' (first|apply And.intro|exact trivial|exact rfl|exact zf|exact zh|refine zt ?_|exact zm M2 rfl|exact zr M2 rfl rfl|(with_reducible first|exact g0|exact g1|exact g2|exact g3)|exact fun _ _=>rfl|(with_reducible first|exact hc.1.1|exact hc.1.2|exact hc.2.1.1|exact hc.2.1.2|exact hc.2.2.1|exact hc.2.2.2)|fail)
    ·show 0+i<=S.length
     omega
    ·show i<=9223372036854775807
     omega
    ·show i * 32<=140737488355328
     omega
    ·show 0+((i:Int)+1).toNat+(S.length - ((i:Int)+1).toNat)<=S.length
     omega
    ·show i+(S.length - ((i:Int)+1).toNat)<=9223372036854775807
     omega
    ·show (i+(S.length - ((i:Int)+1).toNat)) * 32<=140737488355328
     omega
    refine Exists.intro (j+1,S.take i++S.drop (i+1),jL (l.getD j a0).2.2 (l.getD j a0).2.1 T,M2,d,Q+1000) ?_
    repeat' (first|(with_reducible first|exact kj'|exact hlen|exact hli|exact h2|exact k7|exact k8|exact k9)|apply And.intro|exact trivial|exact rfl|exact zf|exact zh|refine zt ?_|exact fun (j:Nat) (hj:j < _)=>Or.inl (eY _ _ _ _)|exact fun (j:Nat) (hj:j < _)=>Or.inl (aT _ _ _ _)|exact zm M2 rfl|exact zr M2 rfl rfl|fail)
    ·exact hl2
    ·exact hl2
    ·exact Sf hi
   ·refine fun (hb:(l.getD j a0).1=false)=>?_
    repeat' (first|apply And.intro|exact trivial|exact rfl|exact zf|exact zh|refine zt ?_|(with_reducible first|exact g0|exact g1)|fail)
    refine Exists.intro ⟨T,M,d,r,Q,(l.getD j a0).2⟩ (Exists.intro [0,1] ?_)
    repeat' (first|exact hpp|apply And.intro|exact trivial|exact rfl|exact zf|exact zh|refine zt ?_|exact zm M rfl|exact zr M rfl rfl|fail)
    refine fun (y:(Nat->NO)×Nat×Int) (hy:Tr Dd (iQ T (l.getD j a0).2) y.1 y.2.1 r (Q+1000)/\y.2.2=pcT T (l.getD j a0).2)=>?_
    obtain ⟨M2,d2,f⟩:=y
    obtain ⟨(h2:Tr Dd (iQ T (l.getD j a0).2) M2 d2 r (Q+1000)),(hf:f=pcT T (l.getD j a0).2)⟩:=hy
    rcases Ca (k:=(l.getD j a0).2) hs12 k2.val with ⟨_,hno,_⟩|⟨hc,_,he2⟩|⟨_,hno,_⟩
    ·exact absurd hmT hno
    ·rw [hc] at hf
     subst hf
     rw [he2] at h2
     have hlen:S.length<=j+1:=by omega
     repeat' (first|apply And.intro|exact trivial|exact rfl|exact zf|exact zh|refine zt ?_|exact zm M2 rfl|exact zr M2 rfl rfl|(with_reducible first|exact g0|exact g1|exact g2|exact g3)|fail)
     refine Exists.intro (j+1,S,T,M2,d2,Q+1000) ?_
     repeat' (first|(with_reducible first|exact kj'|exact hlen|exact hli|exact h2|exact k1|exact k7|exact k8|exact k9)|apply And.intro|exact trivial|exact rfl|exact zf|exact zh|refine zt ?_|exact fun (j:Nat) (hj:j < _)=>Or.inl (eY _ _ _ _)|exact fun (j:Nat) (hj:j < _)=>Or.inl (aT _ _ _ _)|exact zm M2 rfl|exact zr M2 rfl rfl|fail)
    ·exact absurd hmT hno
  ·obtain rfl:y=-1:=hy.trans (O0 hm)
   have hmT:¬ eB (l.getD j a0).2.1 (l.getD j a0).2.2 T:=fun h=>hm ((k1.mem _ _).1 h)
   repeat' (first|apply And.intro|exact trivial|exact rfl|exact zf|exact zh|refine zt ?_|(with_reducible first|exact g0|exact g1)|fail)
   ·refine fun (hb:(l.getD j a0).1=true)=>?_
    repeat' (first|apply And.intro|exact trivial|exact rfl|exact zf|exact zh|refine zt ?_|(with_reducible first|exact g0|exact g1)|fail)
    refine Exists.intro ⟨T,M,d,r,Q,(l.getD j a0).2⟩ (Exists.intro [0,1] ?_)
    repeat' (first|exact hpp|apply And.intro|exact trivial|exact rfl|exact zf|exact zh|refine zt ?_|exact zm M rfl|exact zr M rfl rfl|fail)
    refine fun (y:(Nat->NO)×Int) (hy:Tr Dd (kI T (l.getD j a0).2) y.1 d r (Q+1000)/\y.2=dcT T (l.getD j a0).2)=>?_
    obtain ⟨M2,f⟩:=y
    obtain ⟨(h2:Tr Dd (kI T (l.getD j a0).2) M2 d r (Q+1000)),(hf:f=dcT T (l.getD j a0).2)⟩:=hy
    rw [(Qr hmT).2] at h2
    rw [(Qr hmT).1] at hf
    subst hf
    have hlen:S.length<=j+1:=by omega
    repeat' (first|apply And.intro|exact trivial|exact rfl|exact zf|exact zh|refine zt ?_|exact zm M2 rfl|exact zr M2 rfl rfl|(with_reducible first|exact g0|exact g1|exact g2|exact g3)|fail)
    refine Exists.intro (j+1,S,T,M2,d,Q+1000) ?_
    repeat' (first|(with_reducible first|exact kj'|exact hlen|exact hli|exact h2|exact k1|exact k7|exact k8|exact k9)|apply And.intro|exact trivial|exact rfl|exact zf|exact zh|refine zt ?_|exact fun (j:Nat) (hj:j < _)=>Or.inl (eY _ _ _ _)|exact fun (j:Nat) (hj:j < _)=>Or.inl (aT _ _ _ _)|exact zm M2 rfl|exact zr M2 rfl rfl|fail)
   ·refine fun (hb:(l.getD j a0).1=false)=>?_
    repeat' (first|apply And.intro|exact trivial|exact rfl|exact zf|exact zh|refine zt ?_|(with_reducible first|exact g0|exact g1)|fail)
    refine Exists.intro ⟨T,M,d,r,Q,(l.getD j a0).2⟩ (Exists.intro [0,1] ?_)
    repeat' (first|exact hpp|apply And.intro|exact trivial|exact rfl|exact zf|exact zh|refine zt ?_|exact zm M rfl|exact zr M rfl rfl|fail)
    refine fun (y:(Nat->NO)×Nat×Int) (hy:Tr Dd (iQ T (l.getD j a0).2) y.1 y.2.1 r (Q+1000)/\y.2.2=pcT T (l.getD j a0).2)=>?_
    obtain ⟨M2,d2,f⟩:=y
    obtain ⟨(h2:Tr Dd (iQ T (l.getD j a0).2) M2 d2 r (Q+1000)),(hf:f=pcT T (l.getD j a0).2)⟩:=hy
    rcases Ca (k:=(l.getD j a0).2) hs12 k2.val with ⟨hc,_,he2⟩|⟨_,hno,_⟩|⟨hc,_,he2⟩
    ·rw [hc] at hf
     subst hf
     rw [he2] at h2
     have hli:=k1.add w hm
     have hlen:(S++[(l.getD j a0).2]).length<=j+1:=by rw [List.length_append]; exact Nat.succ_le_succ kS
     repeat' (first|apply And.intro|exact trivial|exact rfl|exact zf|exact zh|refine zt ?_|exact zm M2 rfl|exact zr M2 rfl rfl|(with_reducible first|exact g0|exact g1|exact g2|exact g3)|fail)
     ·show S.length+1<=9223372036854775807
      omega
     ·show (S.length+1) * 32<=140737488355328
      omega
     refine Exists.intro (j+1,S++[(l.getD j a0).2],fX (l.getD j a0).2.2 (l.getD j a0).2.1 T,M2,d2,Q+1000) ?_
     repeat' (first|(with_reducible first|exact kj'|exact hlen|exact hli|exact h2|exact k1|exact k7|exact k8|exact k9)|apply And.intro|exact trivial|exact rfl|exact zf|exact zh|refine zt ?_|exact fun (j:Nat) (hj:j < _)=>Or.inl (eY _ _ _ _)|exact fun (j:Nat) (hj:j < _)=>Or.inl (aT _ _ _ _)|exact zm M2 rfl|exact zr M2 rfl rfl|fail)
     ·exact zL
     ·exact zL
     ·exact Hp (enc:=oL) (d:=k0) (fun a=>aT _ _ _ a) rfl rfl
    ·exact absurd hno hmT
    ·rw [hc] at hf
     subst hf
     rw [he2] at h2
     have hlen:S.length<=j+1:=by omega
     repeat' (first|apply And.intro|exact trivial|exact rfl|exact zf|exact zh|refine zt ?_|exact zm M2 rfl|exact zr M2 rfl rfl|(with_reducible first|exact g0|exact g1|exact g2|exact g3)|fail)
     refine Exists.intro (j+1,S,T,M2,d2,Q+1000) ?_
     repeat' (first|(with_reducible first|exact kj'|exact hlen|exact hli|exact h2|exact k1|exact k7|exact k8|exact k9)|apply And.intro|exact trivial|exact rfl|exact zf|exact zh|refine zt ?_|exact fun (j:Nat) (hj:j < _)=>Or.inl (eY _ _ _ _)|exact fun (j:Nat) (hj:j < _)=>Or.inl (aT _ _ _ _)|exact zm M2 rfl|exact zr M2 rfl rfl|fail)
 ·refine fun (hg:decide ((j:Int) < (l.length:Int))=false)=>?_
  have hj:j=l.length:=by have:=of_decide_eq_false hg; omega
  subst hj
  have hs12:szT T<=12:=by rw [k1.len]; omega
  have hu:UOk ⟨T,M,d,r,Q,[]⟩:=⟨k2,hs12,by show 0<=_; decide⟩
  repeat' (first|apply And.intro|exact trivial|exact rfl|exact zf|exact zh|refine zt ?_|exact zm M rfl|exact zr M rfl rfl|fail)
  refine Exists.intro ⟨T,M,d,r,Q,[]⟩ (Exists.intro [0,1] ?_)
  repeat' (first|exact hu|apply And.intro|exact trivial|exact rfl|exact zf|exact zh|refine zt ?_|exact zm M rfl|exact zr M rfl rfl|fail)
  refine fun (L:List Ky) (hL:L=bS [] T)=>?_
  repeat' (first|apply And.intro|exact trivial|exact rfl|exact zf|exact zh|refine zt ?_|exact zm M rfl|exact zr M rfl rfl|fail)
  have hL2:L.length<=12:=by rw [hL,qP]; exact hs12
  have hLm:∀ i,i < L.length->L.getD i k0∈S:=fun i hi=>by
   have h1:L.getD i k0∈bS [] T:=by rw [<- hL,List.getD_eq_getElem?_getD,List.getElem?_eq_getElem hi]; exact List.getElem_mem hi
   obtain ⟨s,e,h2⟩:=(mem_keys T [] k2.wf _ _).1 (show ((L.getD i k0).1,(L.getD i k0).2)∈_ from h1)
   have h3:=(k1.mem _ _).1 h2
   rw [List.nil_append] at e
   rw [<- e] at h3
   exact h3
  have hLs:∀ i,i+1 < L.length->klt (L.getD i k0) (L.getD (i+1) k0):=fun i hi=>by
   have h1:=Bm T [] k2.wf
   rw [<- hL] at h1
   rw [List.getD_eq_getElem?_getD,List.getD_eq_getElem?_getD,List.getElem?_eq_getElem hi,List.getElem?_eq_getElem (Nat.lt_of_succ_lt hi)]
   exact List.pairwise_iff_getElem.1 h1 i (i+1) _ _ (Nat.lt_succ_self i)
  have hLl:L.length=S.length:=by rw [hL,qP,k1.len]
  have hS:S.length < 4611686018427387904:=by omega
  refine ⟨⟨Nat,fun s=>s<=L.length,fun s=>[(12,.int .i64 (s:Int))],fun _=>ksH 41 L::ksH 40 S::tH 0 1 r M,fun s=>L.length - s⟩,0,Nat.zero_le _,?_,?_⟩
  ·repeat' (first|apply And.intro|exact trivial|exact rfl|exact zf|exact zh|refine zt ?_|exact zm M rfl|exact zr M rfl rfl|exact fun (j:Nat) (hj:j < _)=>Or.inl (aT _ _ _ _)|exact fun (j:Nat) (hj:j < _)=>Or.inl (eY _ _ _ _)|fail)
  rintro (j:Nat) (hj0:j<=L.length)
  repeat' (first|apply And.intro|exact trivial|exact rfl|exact zf|exact zh|refine zt ?_|fail)
  ·refine fun (hg:decide ((j:Int) < (L.length:Int))=true)=>?_
   have g1:(j:Int) < (L.length:Int):=of_decide_eq_true hg
   have hj:j < L.length:=by omega
   have g0:(0:Int)<=(j:Int):=by omega
   obtain ⟨i,hi,hgi,hfi⟩:=Gy (hLm j hj)
   repeat' (first|apply And.intro|exact trivial|exact rfl|exact zf|exact zh|refine zt ?_|(with_reducible first|exact g0|exact g1)|fail)
   ·show 0+j < L.length
    omega
   refine Exists.intro (S,L.getD j k0) (Exists.intro [] ?_)
   repeat' (first|exact hS|apply And.intro|exact trivial|exact rfl|exact zf|exact zh|refine zt ?_|exact fun (j:Nat) (hj:j < _)=>Or.inl (aT _ _ _ _)|fail)
   ·exact Nat.le_of_eq (Nat.zero_add _)
   ·exact (fun (i:Nat) _=>by rw [Nat.zero_add i]; exact Or.inl (aT _ _ _ _))
   ·rw [Nat.zero_add]; rfl
   ·rw [Nat.zero_add]; rfl
   refine fun (y:Int) (hy:y=rS S (L.getD j k0))=>?_
   obtain rfl:y=(i:Int):=hy.trans hfi
   have b1:0 < (j:Int)->-9223372036854775808<=(j:Int) - 1:=by omega
   have b2:0 < (j:Int)->(j:Int) - 1<=9223372036854775807:=by omega
   have b3:0 < (j:Int)->0<=(j:Int) - 1:=by omega
   have b4:0 < (j:Int)->(j:Int) - 1 < (L.length:Int):=by omega
   have b5:0 < (j:Int)->0+((j:Int) - 1).toNat < L.length:=by omega
   have b6:0+(j:Int).toNat < L.length:=by omega
   have hk:0 < (j:Int)->klt (L.getD (0+((j:Int) - 1).toNat) k0) (L.getD (0+(j:Int).toNat) k0):=fun hp=>by
    have e:0+(j:Int).toNat=(0+((j:Int) - 1).toNat)+1:=by omega
    rw [e]
    exact hLs _ (by omega)
   have g2:-9223372036854775808<=(j:Int)+1:=by omega
   have g3:(j:Int)+1<=9223372036854775807:=by omega
   have g4:j+1<=L.length:=hj
   have g5:L.length - (j+1) < L.length - j:=by omega
   repeat' (first|apply And.intro|exact trivial|exact rfl|exact zf|exact zh|refine zt ?_|(with_reducible first|exact g0|exact g1)|refine gdA fun hp=>?_|refine gdB fun hp=>?_|refine gdC fun hp=>?_|with_reducible exact b1 hp|with_reducible exact b2 hp|with_reducible exact b3 hp|with_reducible exact b4 hp|exact b5 hp|exact b6|exact fun (h:aS _ _ _ _ _=true)=>Bool.noConfusion (h.symm.trans (kb hk))|refine fun (_:aS _ _ _ _ _=false)=>?_|(with_reducible first|exact g2|exact g3)|fail)
   refine Exists.intro (j+1) ?_
   repeat' (first|apply And.intro|exact trivial|exact rfl|exact zf|exact zh|refine zt ?_|(with_reducible first|exact g4|exact g5)|exact zm M rfl|exact zr M rfl rfl|exact fun (j:Nat) (hj:j < _)=>Or.inl (aT _ _ _ _)|exact fun (j:Nat) (hj:j < _)=>Or.inl (eY _ _ _ _)|fail)
  ·refine fun (hg:decide ((j:Int) < (L.length:Int))=false)=>?_
   have hll:decide ((L.length:Int)=(S.length:Int))=true:=decide_eq_true (by rw [hLl])
   repeat' (first|apply And.intro|exact trivial|exact rfl|exact zf|exact zh|refine zt ?_|exact hll|fail)
end T37
