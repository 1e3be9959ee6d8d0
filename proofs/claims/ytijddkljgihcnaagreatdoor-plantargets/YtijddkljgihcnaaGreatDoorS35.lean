/- A part of the proof. -/
import Derived.Test.YtijddkljgihcnaaGreatDoorS14
import Derived.Test.YtijddkljgihcnaaGreatDoorF7
open Go Go.Eng Go.Proofs F1 F2 F5 F6 F7 F10 G7 G4 L3 L10 G1 G3 EV0 S1 S10
set_option maxRecDepth 100000
namespace S35
def g28:List Nat:=[7,0,15,3,2]
def c28:aH :=
 .seq (.region g28 [(zo 2 (.move cF))]) (.seq (.seq (.region g28 [(zo 3 (.move (cj 0)))]) (.block 0 (.loop 0 [4,5,6,7,10,11,12,13,14,15,2,8,9,3] (.seq (.seq (.region g28 [(mv 4 3),(mv 5 0),(zo 6 (.lenSl (.s 5))),(zo 7 (.bin (.lss) (.s 4) (.s 6)))]) (.cond (.s 7) .skip (.exit 0))) (.seq (.block 1 (.seq (.region g28 [(mv 10 0),(mv 11 3),(zo 12 (.idxSl 1 (.s 10) (.s 11))),(ld 13 12),(zo 14 (.lenStr (.s 13))),(zo 15 (.bin (.gtr) (.s 14) (cj 100)))]) (.cond (.s 15) (.seq (.region g28 [(zo 2 (.move cF))]) .ret) .skip))) (.region g28 [(mv 8 3),(zo 9 (.bin (.add) (.s 8) (cj 1))),(mv 3 9)])))))) (.seq (.region g28 [(zo 2 (.move cT))]) .ret))
theorem e28:aI Tryz.prog 28 g28 [] [] []=some (c28,[.slot 2],16):=by kernel_rfl
def J8 (x:Sq B) (j:Nat):Bool:=decide ((100:Int) < ((x.f j).length:Int))
def gQ (x:Sq B):Bool:=!orB (J8 x) x.n
def bgT (t:B):Prop:=t.length<=4611686018427387904
def bgQ {T:Type} (s:Sq T) (p:T->Prop):Prop:=s.n<=4611686018427387904/\∀ i,i < s.n->p (s.f i)
def Se:Eng.Spec where
 X:=Sq B
 args:=fun x=>.cons (stE x) .nil
 pre:=fun x=>bgQ x bgT
 res:=fun x=>.bool (gQ x)
 inst:=EV0.one stD
theorem J9:Se.Ok Tryz.prog 28:=by
 refine Eng.Spec.okR e28 .nil (fun _=>[]) (fun _ _=>aA.nil) ?_
 rintro (x:Sq B) ⟨(hn:x.n<=4611686018427387904),(ht:∀ j,j < x.n->bgT (x.f j))⟩
 refine ⟨trivial,?_⟩
 repeat' (first|apply And.intro|exact trivial|exact rfl|exact lz fun _=>rfl|exact S1.zz rfl|refine gd ?_)
 refine ⟨⟨Nat,fun i=>i<=x.n/\orB (J8 x) i=false,fun i=>[(3,.int .i64 (i:Int))],fun _=>[],fun i=>x.n - i⟩,0,⟨Nat.zero_le _,rfl⟩,?_,?_⟩
 ·repeat' (first|apply And.intro|exact trivial|exact rfl|exact lz fun _=>rfl|exact S1.zz rfl|refine gd ?_)
 rintro (i:Nat) ⟨(hi:i<=x.n),(hf:orB (J8 x) i=false)⟩
 repeat' (first|apply And.intro|exact trivial|exact rfl|exact lz fun _=>rfl|exact S1.zz rfl|refine gd ?_)
 ·refine fun (h:decide ((i:Int) < (x.n:Int))=true)=>?_
  have hil:i < x.n:=by have:=of_decide_eq_true h; omega
  have b0:(0:Int)<=(i:Int):=by omega
  have b1:(i:Int) < (x.n:Int):=by omega
  have b2:-9223372036854775808<=(i:Int)+1:=by omega
  have b3:(i:Int)+1<=9223372036854775807:=by omega
  have em:x.n - (i+1) < x.n - i:=by omega
  repeat' (first|with_reducible exact b0|with_reducible exact b1|apply And.intro|exact trivial|exact rfl|exact lz fun _=>rfl|exact S1.zz rfl|refine gd ?_)
  ·refine fun (hc:decide ((100:Int) < ((x.f (i:Int).toNat).length:Int))=true)=>?_
   have e:false=gQ x:=by unfold gQ; rw [aO.2 ⟨i,hil,hc⟩]; rfl
   repeat' (first|exact e|apply And.intro|exact trivial|exact rfl|exact lz fun _=>rfl|exact S1.zz rfl|refine gd ?_)
  ·refine fun (hc:decide ((100:Int) < ((x.f (i:Int).toNat).length:Int))=false)=>?_
   have hf1:orB (J8 x) (i+1)=false:=by
    simp only [orB]
    rw [hf]
    exact hc
   repeat' (first|with_reducible exact b2|with_reducible exact b3|apply And.intro|exact trivial|exact rfl|exact lz fun _=>rfl|exact S1.zz rfl|refine gd ?_)
   refine Exists.intro (i+1) (And.intro ⟨hil,hf1⟩ ?_)
   repeat' (first|exact em|apply And.intro|exact trivial|exact rfl|exact lz fun _=>rfl|exact S1.zz rfl|refine gd ?_)
 ·refine fun (h:decide ((i:Int) < (x.n:Int))=false)=>?_
  have hil:i=x.n:=by have:=of_decide_eq_false h; omega
  subst hil
  have e:true=gQ x:=by unfold gQ; rw [hf]; rfl
  repeat' (first|exact e|apply And.intro|exact trivial|exact rfl|exact lz fun _=>rfl|exact S1.zz rfl|refine gd ?_)
def bgN (x:Nm):Prop:=bgT x.lang/\bgT x.text
theorem rZ {a:B} (ha:bgT a):bgQ (gM [a]) bgT:=by
 refine ⟨Nat.le_of_ble_eq_true rfl,fun i hi=>?_⟩
 have hi:i < 1:=hi
 have:i=0:=by omega
 subst this
 exact ha
theorem Hc {a b:B} (ha:bgT a) (hb:bgT b):bgQ (gM [a,b]) bgT:=by
 refine ⟨Nat.le_of_ble_eq_true rfl,fun i hi=>?_⟩
 have hi:i < 2:=hi
 have:i=0\/i=1:=by omega
 rcases this with rfl|rfl
 ·exact ha
 ·exact hb
theorem He {a b c:B} (ha:bgT a) (hb:bgT b) (hc:bgT c):bgQ (gM [a,b,c]) bgT:=by
 refine ⟨Nat.le_of_ble_eq_true rfl,fun i hi=>?_⟩
 have hi:i < 3:=hi
 have:i=0\/i=1\/i=2:=by omega
 rcases this with rfl|rfl|rfl
 ·exact ha
 ·exact hb
 ·exact hc
theorem Hf {a b c d e:B} (ha:bgT a) (hb:bgT b) (hc:bgT c) (hd:bgT d) (he:bgT e):bgQ (gM [a,b,c,d,e]) bgT:=by
 refine ⟨Nat.le_of_ble_eq_true rfl,fun i hi=>?_⟩
 have hi:i < 5:=hi
 have:i=0\/i=1\/i=2\/i=3\/i=4:=by omega
 rcases this with rfl|rfl|rfl|rfl|rfl
 ·exact ha
 ·exact hb
 ·exact hc
 ·exact hd
 ·exact he
def g29:List Nat:=[11,26,3,0,2]
def c29:aH :=
 .seq (.region g29 [(zo 2 (.move cF))]) (.seq (.seq (.region g29 [(zo 3 (.move (cj 0)))]) (.block 0 (.loop 0 [4,5,6,7,8,9,10,11,14,15,16,17,18,19,20,21,22,23,24,25,26,2,12,13,3] (.seq (.seq (.region g29 [(mv 4 3),(mv 5 0),(zo 6 (.lenSl (.s 5))),(zo 7 (.bin (.lss) (.s 4) (.s 6))),(mv 8 7),(mg 9 8 true 3),(zg 10 8 true (.bin (.lss) (.s 9) (cj 10))),(zo 11 (.pick (.s 8) (.s 10) cF))]) (.cond (.s 11) .skip (.exit 0))) (.seq (.block 1 (.seq (.drawn g29 (.pure 0 (mv 14 0) (.pure 1 (mv 15 3) (.pure 2 (zo 16 (.idxSl 3 (.s 14) (.s 15))) (.pure 3 (fa 17 0 16) (.pure 4 (ld 18 17) (.pure 5 (mv 19 0) (.pure 6 (mv 20 3) (.pure 7 (zo 21 (.idxSl 3 (.s 19) (.s 20))) (.pure 8 (fa 22 2 21) (.pure 9 (ld 23 22) (.pure 10 (zo 24 (.buildSl 9 1 2 (.cons (.str []) .nil) [(0,1,.s 18),(1,1,.s 23)])) (.pure 11 (zo 25 (.call (.c (.fn 28)) [.s 24])) (.pure 12 (zo 26 (.not (.s 25))) .done)))))))))))))) (.cond (.s 26) (.seq (.region g29 [(zo 2 (.move cF))]) .ret) .skip))) (.region g29 [(mv 12 3),(zo 13 (.bin (.add) (.s 12) (cj 1))),(mv 3 13)])))))) (.seq (.region g29 [(mv 27 0),(zo 28 (.lenSl (.s 27))),(zo 29 (.bin (.leq) (.s 28) (cj 10))),(mv 2 29)]) .ret))
theorem e29:aI Tryz.prog 29 g29 [] [] []=some (c29,[.slot 2],30):=by kernel_rfl
def Cx (x:Sq Nm) (i:Nat):Bool:=!gQ (gM [(x.f i).lang,(x.f i).text])
def rD (x:Sq Nm):Bool:=!orB (Cx x) x.n && decide ((x.n:Int)<=10)
def Wf:Eng.Spec where
 X:=Sq Nm
 args:=fun x=>.cons (nmE x) .nil
 pre:=fun x=>bgQ x bgN
 res:=fun x=>.bool (rD x)
 inst:=EV0.one nmD
attribute [local irreducible] gQ
theorem xH:Wf.Ok Tryz.prog 29:=by
 refine Eng.Spec.okR e29 .nil (fun _=>[(28,.p Se)]) (fun _ _=>aA.p J9 aA.nil) ?_
 rintro (x:Sq Nm) ⟨(hn:x.n<=4611686018427387904),(ht:∀ j,j < x.n->bgN (x.f j))⟩
 refine ⟨trivial,?_⟩
 repeat' (first|apply And.intro|exact trivial|exact rfl|exact lz fun _=>rfl|exact S1.zz rfl|refine gd ?_)
 refine ⟨⟨Nat,fun i=>(i<=x.n/\i<=10)/\orB (Cx x) i=false,fun i=>[(3,.int .i64 (i:Int))],fun _=>[],fun i=>x.n - i⟩,0,⟨⟨Nat.zero_le _,Nat.zero_le _⟩,rfl⟩,?_,?_⟩
 ·repeat' (first|apply And.intro|exact trivial|exact rfl|exact lz fun _=>rfl|exact S1.zz rfl|refine gd ?_)
 rintro (i:Nat) ⟨⟨(hi:i<=x.n),(hi8:i<=10)⟩,(hf:orB (Cx x) i=false)⟩
 repeat' (first|apply And.intro|exact trivial|exact rfl|exact lz fun _=>rfl|exact S1.zz rfl|refine gd ?_)
 ·refine fun (h:aE (decide ((i:Int) < (x.n:Int))) (.s 10) cF (decide ((i:Int) < 10)) false=true)=>?_
  rw [aF,Bool.and_eq_true,decide_eq_true_iff,decide_eq_true_iff] at h
  have hil:i < x.n:=by omega
  have hi9:i+1<=10:=by omega
  have b0:(0:Int)<=(i:Int):=by omega
  have b1:(i:Int) < (x.n:Int):=by omega
  have b2:-9223372036854775808<=(i:Int)+1:=by omega
  have b3:(i:Int)+1<=9223372036854775807:=by omega
  have em:x.n - (i+1) < x.n - i:=by omega
  have hp:bgQ (gM [(x.f i).lang,(x.f i).text]) bgT:=Hc (ht i hil).1 (ht i hil).2
  repeat' (first|with_reducible exact b0|with_reducible exact b1|exact hp|apply And.intro|exact trivial|exact rfl|exact lz fun _=>rfl|exact S1.zz rfl|refine gd ?_)
  ·refine fun (hc0:(!gQ _)=true)=>?_
   have hc:Cx x i=true:=hc0
   have e:false=rD x:=by unfold rD; rw [aO.2 ⟨i,hil,hc⟩]; rfl
   repeat' (first|exact e|apply And.intro|exact trivial|exact rfl|exact lz fun _=>rfl|exact S1.zz rfl|refine gd ?_)
  ·refine fun (hc0:(!gQ _)=false)=>?_
   have hc:Cx x i=false:=hc0
   have hf1:orB (Cx x) (i+1)=false:=by
    simp only [orB]
    rw [hf]
    exact hc
   repeat' (first|with_reducible exact b2|with_reducible exact b3|apply And.intro|exact trivial|exact rfl|exact lz fun _=>rfl|exact S1.zz rfl|refine gd ?_)
   refine Exists.intro (i+1) (And.intro ⟨⟨hil,hi9⟩,hf1⟩ ?_)
   repeat' (first|exact em|apply And.intro|exact trivial|exact rfl|exact lz fun _=>rfl|exact S1.zz rfl|refine gd ?_)
 ·refine fun (h:aE (decide ((i:Int) < (x.n:Int))) (.s 10) cF (decide ((i:Int) < 10)) false=false)=>?_
  rw [aF] at h
  have hor:i=x.n\/10<=i:=by
   rcases Bool.and_eq_false_iff.1 h with h|h <;> have:=of_decide_eq_false h <;> omega
  have e:decide ((x.n:Int)<=10)=rD x:=by
   unfold rD
   by_cases h10:(x.n:Int)<=10
   ·obtain rfl:i=x.n:=by omega
    rw [hf]; rfl
   ·rw [decide_eq_false h10,Bool.and_false]
  repeat' (first|exact e|apply And.intro|exact trivial|exact rfl|exact lz fun _=>rfl|exact S1.zz rfl|refine gd ?_)
attribute [local irreducible] rD
def g11:List Nat:=[0,48,53,84,3,89,120,4,125,146,5,151,7,184,6,189,1,212,8,2]
def c11:aH :=
 .seq (.region g11 [(zo 1 (.box 30 (.s 0))),(zo 2 (.move cF))]) (.seq (.seq (.region g11 [(fa 9 0 1),(ld 10 9),(zo 11 (.lenSl (.s 10))),(zo 12 (.bin (.gtr) (.s 11) (cj 8))),(mv 13 12),(fg 14 13 false 1 1),(lg 15 13 false 14),(zg 16 13 false (.lenSl (.s 15))),(zg 17 13 false (.bin (.gtr) (.s 16) (cj 8))),(zo 18 (.pick (.s 13) cT (.s 17))),(mv 19 18),(fg 20 19 false 2 1),(lg 21 19 false 20),(zg 22 19 false (.lenSl (.s 21))),(zg 23 19 false (.bin (.gtr) (.s 22) (cj 8))),(zo 24 (.pick (.s 19) cT (.s 23))),(mv 25 24),(fg 26 25 false 3 1),(lg 27 25 false 26),(zg 28 25 false (.lenSl (.s 27))),(zg 29 25 false (.bin (.gtr) (.s 28) (cj 16))),(zo 30 (.pick (.s 25) cT (.s 29))),(mv 31 30),(fg 32 31 false 4 1),(lg 33 31 false 32),(zg 34 31 false (.lenSl (.s 33))),(zg 35 31 false (.bin (.gtr) (.s 34) (cj 10))),(zo 36 (.pick (.s 31) cT (.s 35))),(mv 37 36),(fg 38 37 false 5 1),(lg 39 37 false 38),(zg 40 37 false (.lenSl (.s 39))),(zg 41 37 false (.bin (.gtr) (.s 40) (cj 10))),(zo 42 (.pick (.s 37) cT (.s 41))),(mv 43 42),(fg 44 43 false 6 1),(lg 45 43 false 44),(zg 46 43 false (.lenSl (.s 45))),(zg 47 43 false (.bin (.gtr) (.s 46) (cj 10))),(zo 48 (.pick (.s 43) cT (.s 47)))]) (.cond (.s 48) (.seq (.region g11 [(zo 2 (.move cF))]) .ret) .skip)) (.seq (.seq (.region g11 [(zo 3 (.move (cj 0)))]) (.block 0 (.loop 0 [49,50,51,52,53,56,57,58,59,60,61,62,63,64,65,66,67,68,69,70,71,72,73,74,75,76,77,78,79,80,81,82,83,84,2,54,55,3] (.seq (.seq (.region g11 [(mv 49 3),(fa 50 0 1),(ld 51 50),(zo 52 (.lenSl (.s 51))),(zo 53 (.bin (.lss) (.s 49) (.s 52)))]) (.cond (.s 53) .skip (.exit 0))) (.seq (.block 1 (.seq (.region g11 [(fa 56 0 1),(ld 57 56),(mv 58 3),(zo 59 (.idxSl 6 (.s 57) (.s 58))),(fa 60 0 59),(ld 61 60),(zo 62 (.buildSl 9 1 1 (.cons (.str []) .nil) [(0,1,.s 61)])),(zo 63 (.call (.c (.fn 28)) [.s 62])),(zo 64 (.not (.s 63))),(mv 65 64),(fg 66 65 false 0 1),(lg 67 65 false 66),(mg 68 65 false 3),(zg 69 65 false (.idxSl 6 (.s 67) (.s 68))),(fg 70 65 false 4 69),(lg 71 65 false 70),(zg 72 65 false (.call (.c (.fn 29)) [.s 71])),(zg 73 65 false (.not (.s 72))),(zo 74 (.pick (.s 65) cT (.s 73))),(mv 75 74),(fg 76 75 false 0 1),(lg 77 75 false 76),(mg 78 75 false 3),(zg 79 75 false (.idxSl 6 (.s 77) (.s 78))),(fg 80 75 false 3 79),(lg 81 75 false 80),(zg 82 75 false (.lenSl (.s 81))),(zg 83 75 false (.bin (.gtr) (.s 82) (cj 12))),(zo 84 (.pick (.s 75) cT (.s 83)))]) (.cond (.s 84) (.seq (.region g11 [(zo 2 (.move cF))]) .ret) .skip))) (.region g11 [(mv 54 3),(zo 55 (.bin (.add) (.s 54) (cj 1))),(mv 3 55)])))))) (.seq (.seq (.region g11 [(zo 4 (.move (cj 0)))]) (.block 2 (.loop 1 [85,86,87,88,89,92,93,94,95,96,97,98,99,100,101,102,103,104,105,106,107,108,109,110,111,112,113,114,115,116,117,118,119,120,2,90,91,4] (.seq (.seq (.region g11 [(mv 85 4),(fa 86 1 1),(ld 87 86),(zo 88 (.lenSl (.s 87))),(zo 89 (.bin (.lss) (.s 85) (.s 88)))]) (.cond (.s 89) .skip (.exit 2))) (.seq (.block 3 (.seq (.region g11 [(fa 92 1 1),(ld 93 92),(mv 94 4),(zo 95 (.idxSl 5 (.s 93) (.s 94))),(fa 96 0 95),(ld 97 96),(zo 98 (.buildSl 9 1 1 (.cons (.str []) .nil) [(0,1,.s 97)])),(zo 99 (.call (.c (.fn 28)) [.s 98])),(zo 100 (.not (.s 99))),(mv 101 100),(fg 102 101 false 1 1),(lg 103 101 false 102),(mg 104 101 false 4),(zg 105 101 false (.idxSl 5 (.s 103) (.s 104))),(fg 106 101 false 3 105),(lg 107 101 false 106),(zg 108 101 false (.call (.c (.fn 29)) [.s 107])),(zg 109 101 false (.not (.s 108))),(zo 110 (.pick (.s 101) cT (.s 109))),(mv 111 110),(fg 112 111 false 1 1),(lg 113 111 false 112),(mg 114 111 false 4),(zg 115 111 false (.idxSl 5 (.s 113) (.s 114))),(fg 116 111 false 2 115),(lg 117 111 false 116),(zg 118 111 false (.lenSl (.s 117))),(zg 119 111 false (.bin (.gtr) (.s 118) (cj 12))),(zo 120 (.pick (.s 111) cT (.s 119)))]) (.cond (.s 120) (.seq (.region g11 [(zo 2 (.move cF))]) .ret) .skip))) (.region g11 [(mv 90 4),(zo 91 (.bin (.add) (.s 90) (cj 1))),(mv 4 91)])))))) (.seq (.seq (.region g11 [(zo 5 (.move (cj 0)))]) (.block 4 (.loop 2 [121,122,123,124,125,128,129,130,131,132,133,134,135,136,137,138,139,140,141,142,143,144,145,146,2,126,127,5] (.seq (.seq (.region g11 [(mv 121 5),(fa 122 2 1),(ld 123 122),(zo 124 (.lenSl (.s 123))),(zo 125 (.bin (.lss) (.s 121) (.s 124)))]) (.cond (.s 125) .skip (.exit 4))) (.seq (.block 5 (.seq (.region g11 [(fa 128 2 1),(ld 129 128),(mv 130 5),(zo 131 (.idxSl 4 (.s 129) (.s 130))),(fa 132 0 131),(ld 133 132),(zo 134 (.buildSl 9 1 1 (.cons (.str []) .nil) [(0,1,.s 133)])),(zo 135 (.call (.c (.fn 28)) [.s 134])),(zo 136 (.not (.s 135))),(mv 137 136),(fg 138 137 false 2 1),(lg 139 137 false 138),(mg 140 137 false 5),(zg 141 137 false (.idxSl 4 (.s 139) (.s 140))),(fg 142 137 false 2 141),(lg 143 137 false 142),(zg 144 137 false (.lenSl (.s 143))),(zg 145 137 false (.bin (.gtr) (.s 144) (cj 12))),(zo 146 (.pick (.s 137) cT (.s 145)))]) (.cond (.s 146) (.seq (.region g11 [(zo 2 (.move cF))]) .ret) .skip))) (.region g11 [(mv 126 5),(zo 127 (.bin (.add) (.s 126) (cj 1))),(mv 5 127)])))))) (.seq (.seq (.region g11 [(zo 6 (.move (cj 0)))]) (.block 6 (.loop 3 [147,148,149,150,151,154,155,156,157,158,7,159,160,161,162,163,164,165,166,167,168,169,170,171,172,173,174,175,176,177,178,179,180,181,182,183,184,2,152,153,6] (.seq (.seq (.region g11 [(mv 147 6),(fa 148 3 1),(ld 149 148),(zo 150 (.lenSl (.s 149))),(zo 151 (.bin (.lss) (.s 147) (.s 150)))]) (.cond (.s 151) .skip (.exit 6))) (.seq (.block 7 (.seq (.region g11 [(fa 154 3 1),(ld 155 154),(mv 156 6),(zo 157 (.idxSl 16 (.s 155) (.s 156))),(zo 158 (.load 16 true (.s 157))),(zo 7 (.alloc 55 (.cons (.str []) (.cons (.str []) (.cons (.str []) (.cons (.int .i64 0) (.cons (.int .i64 0) (.cons (.str []) (.cons (.int .i64 0) (.cons (.int .i64 0) (.cons (.int .i64 0) (.cons (.int .i64 0) (.cons (.int .i64 0) (.cons (.int .i64 0) (.cons (.nilsl) (.cons (.int .i64 0) (.cons (.int .i64 0) (.cons (.str []) .nil)))))))))))))))))),⟨none,none,.store 16 (.s 7) (.s 158),[]⟩]) (.seq (.region g11 [(fa 159 0 7),(ld 160 159),(fa 161 1 7),(ld 162 161),(fa 163 2 7),(ld 164 163),(fa 165 4 7),(fa 166 1 165),(ld 167 166),(fa 168 15 7),(ld 169 168),(zo 170 (.buildSl 9 1 5 (.cons (.str []) .nil) [(0,1,.s 160),(1,1,.s 162),(2,1,.s 164),(3,1,.s 167),(4,1,.s 169)])),(zo 171 (.call (.c (.fn 28)) [.s 170])),(zo 172 (.not (.s 171))),(mv 173 172),(fg 174 173 false 12 7),(lg 175 173 false 174),(zg 176 173 false (.lenSl (.s 175))),(zg 177 173 false (.bin (.gtr) (.s 176) (cj 10))),(zo 178 (.pick (.s 173) cT (.s 177))),(mv 179 178),(fg 180 179 false 12 7),(lg 181 179 false 180),(zg 182 179 false (.call (.c (.fn 28)) [.s 181])),(zg 183 179 false (.not (.s 182))),(zo 184 (.pick (.s 179) cT (.s 183)))]) (.cond (.s 184) (.seq (.region g11 [(zo 2 (.move cF))]) .ret) .skip)))) (.region g11 [(mv 152 6),(zo 153 (.bin (.add) (.s 152) (cj 1))),(mv 6 153)])))))) (.seq (.seq (.region g11 [(zo 8 (.move (cj 0)))]) (.block 8 (.loop 4 [185,186,187,188,189,192,193,194,195,196,197,198,199,200,201,202,203,204,205,206,207,208,209,210,211,212,2,190,191,8] (.seq (.seq (.region g11 [(mv 185 8),(fa 186 4 1),(ld 187 186),(zo 188 (.lenSl (.s 187))),(zo 189 (.bin (.lss) (.s 185) (.s 188)))]) (.cond (.s 189) .skip (.exit 8))) (.seq (.block 9 (.seq (.drawn g11 (.pure 0 (fa 192 4 1) (.pure 1 (ld 193 192) (.pure 2 (mv 194 8) (.pure 3 (zo 195 (.idxSl 6 (.s 193) (.s 194))) (.pure 4 (fa 196 0 195) (.pure 5 (ld 197 196) (.pure 6 (fa 198 4 1) (.pure 7 (ld 199 198) (.pure 8 (mv 200 8) (.pure 9 (zo 201 (.idxSl 6 (.s 199) (.s 200))) (.pure 10 (fa 202 1 201) (.pure 11 (ld 203 202) (.pure 12 (fa 204 4 1) (.pure 13 (ld 205 204) (.pure 14 (mv 206 8) (.pure 15 (zo 207 (.idxSl 6 (.s 205) (.s 206))) (.pure 16 (fa 208 2 207) (.pure 17 (ld 209 208) (.pure 18 (zo 210 (.buildSl 9 1 3 (.cons (.str []) .nil) [(0,1,.s 197),(1,1,.s 203),(2,1,.s 209)])) (.pure 19 (zo 211 (.call (.c (.fn 28)) [.s 210])) (.pure 20 (zo 212 (.not (.s 211))) .done)))))))))))))))))))))) (.cond (.s 212) (.seq (.region g11 [(zo 2 (.move cF))]) .ret) .skip))) (.region g11 [(mv 190 8),(zo 191 (.bin (.add) (.s 190) (cj 1))),(mv 8 191)])))))) (.seq (.region g11 [(zo 2 (.move cT))]) .ret)))))))
theorem e11:aI Tryz.prog 11 g11 [] [] []=some (c11,[.slot 2],213):=by kernel_rfl
structure bgR (x:Rn):Prop where
 id:bgT x.id
 names:bgQ x.names bgN
 ring:x.ring.n<=4611686018427387904
structure Pn (x:Sr):Prop where
 id:bgT x.id
 names:bgQ x.names bgN
 ring:x.line.n<=4611686018427387904
structure bgB (x:Bu):Prop where
 id:bgT x.id
 ring:x.ring.n<=4611686018427387904
structure bgD (x:Dr):Prop where
 id:bgT x.id
 bld:bgT x.bld
 str:bgT x.str
 num:bgT x.num.l
 veil:bgT x.veil
 after:bgQ x.after bgT
structure bgU (x:Un):Prop where
 id:bgT x.id
 door:bgT x.door
 txt:bgT x.txt
structure bgS (s:Sta):Prop where
 regions:bgQ s.regions bgR
 streets:bgQ s.streets Pn
 buildings:bgQ s.buildings bgB
 doors:bgQ s.doors bgD
 units:bgQ s.units bgU
 merged:s.merged.n<=4611686018427387904
 rulings:s.rulings.n<=4611686018427387904
def oU (n:Nat) (m:Int):Bool:=decide (m < (n:Int))
def fwA (s:Sta):Bool:=(((((oU s.regions.n 8 || oU s.streets.n 8) || oU s.buildings.n 8) || oU s.doors.n 16) || oU s.units.n 10) || oU s.merged.n 10) || oU s.rulings.n 10
def fwR (s:Sta) (i:Nat):Bool:=(!gQ (gM [(s.regions.f i).id]) || !rD (s.regions.f i).names) || oU (s.regions.f i).ring.n 12
def fwT (s:Sta) (i:Nat):Bool:=(!gQ (gM [(s.streets.f i).id]) || !rD (s.streets.f i).names) || oU (s.streets.f i).line.n 12
def fwB (s:Sta) (i:Nat):Bool:=!gQ (gM [(s.buildings.f i).id]) || oU (s.buildings.f i).ring.n 12
def fwD (s:Sta) (i:Nat):Bool:=(!gQ (gM [(s.doors.f i).id,(s.doors.f i).bld,(s.doors.f i).str,(s.doors.f i).num.l,(s.doors.f i).veil]) || oU (s.doors.f i).after.n 10) || !gQ (s.doors.f i).after
def fwU (s:Sta) (i:Nat):Bool:=!gQ (gM [(s.units.f i).id,(s.units.f i).door,(s.units.f i).txt])
def gA (s:Sta):Bool:=!fwA s && (!orB (fwR s) s.regions.n && (!orB (fwT s) s.streets.n && (!orB (fwB s) s.buildings.n && (!orB (fwD s) s.doors.n && !orB (fwU s) s.units.n))))
def Uh:Eng.Spec where
 X:=Sta
 args:=fun x=>.cons (kM x) .nil
 pre:=bgS
 res:=fun x=>.bool (gA x)
 inst:=EV0.one rF
set_option maxHeartbeats 80000000 in
theorem Qk:Uh.Ok Tryz.prog 11:=by
 refine Eng.Spec.okR e11 .nil (fun _=>[(28,.p Se),(29,.p Wf)]) (fun _ _=>aA.p J9 (aA.p xH aA.nil)) ?_
 rintro (s:Sta) (hs:bgS s)
 refine ⟨trivial,?_⟩
 have eA:∀ a b c d e f:Nat,aE (aE (aE (aE (aE (aE (decide ((8:Int) < (s.regions.n:Int))) cT (.s a) true (decide ((8:Int) < (s.streets.n:Int)))) cT (.s b) true (decide ((8:Int) < (s.buildings.n:Int)))) cT (.s c) true (decide ((16:Int) < (s.doors.n:Int)))) cT (.s d) true (decide ((10:Int) < (s.units.n:Int)))) cT (.s e) true (decide ((10:Int) < (s.merged.n:Int)))) cT (.s f) true (decide ((10:Int) < (s.rulings.n:Int)))=fwA s:=fun a b c d e f=>by rw [aD,aD,aD,aD,aD,aD]; rfl
 repeat' (first|apply And.intro|exact trivial|exact rfl|exact lz fun _=>rfl|exact S1.zz rfl|refine gd ?_)
 ·refine fun (hb0:aE _ cT (.s 47) true _=true)=>?_
  have hb:fwA s=true:=(eA 17 23 29 35 41 47).symm.trans hb0
  have e:false=gA s:=by unfold gA; rw [hb]; rfl
  repeat' (first|exact e|apply And.intro|exact trivial|exact rfl|exact lz fun _=>rfl|exact S1.zz rfl|refine gd ?_)
 refine fun (hb0:aE _ cT (.s 47) true _=false)=>?_
 have hA:fwA s=false:=(eA 17 23 29 35 41 47).symm.trans hb0
 clear hb0
 repeat' (first|apply And.intro|exact trivial|exact rfl|exact lz fun _=>rfl|exact S1.zz rfl|refine gd ?_)
 refine ⟨⟨Nat,fun i=>i<=s.regions.n/\orB (fwR s) i=false,fun i=>[(3,.int .i64 (i:Int))],fun _=>[],fun i=>s.regions.n - i⟩,0,⟨Nat.zero_le _,rfl⟩,?_,?_⟩
 ·repeat' (first|apply And.intro|exact trivial|exact rfl|exact lz fun _=>rfl|exact S1.zz rfl|refine gd ?_)
 rintro (i:Nat) ⟨(hi:i<=s.regions.n),(hf_regions:orB (fwR s) i=false)⟩
 repeat' (first|apply And.intro|exact trivial|exact rfl|exact lz fun _=>rfl|exact S1.zz rfl|refine gd ?_)
 ·refine fun (h:decide ((i:Int) < (s.regions.n:Int))=true)=>?_
  have hil:i < s.regions.n:=by have:=of_decide_eq_true h; omega
  have hnn:=hs.regions.1
  have b0:(0:Int)<=(i:Int):=by omega
  have b1:(i:Int) < (s.regions.n:Int):=by omega
  have b2:-9223372036854775808<=(i:Int)+1:=by omega
  have b3:(i:Int)+1<=9223372036854775807:=by omega
  have em:s.regions.n - (i+1) < s.regions.n - i:=by omega
  have hok:bgR (s.regions.f i):=hs.regions.2 i hil
  have bad:fwR s i=true->false=gA s:=fun hb=>by
   unfold gA
   rw [aO.2 ⟨i,hil,hb⟩]
   simp
  have good:fwR s i=false->orB (fwR s) (i+1)=false:=fun hb=>by
   simp only [orB]
   rw [hf_regions,hb]
   rfl
  have k1:bgQ (gM [(s.regions.f i).id]) bgT:=rZ hok.id
  have k2:=hok.names
  have eB:∀ a b:Nat,aE (aE (!gQ (gM [(s.regions.f (i:Int).toNat).id])) cT (.s a) true (!rD (s.regions.f (i:Int).toNat).names)) cT (.s b) true (decide ((12:Int) < ((s.regions.f (i:Int).toNat).ring.n:Int)))=fwR s i:=fun a b=>by rw [aD,aD]; rfl
  repeat' (first|with_reducible exact b0|with_reducible exact b1|exact k1|exact k2|apply And.intro|exact trivial|exact rfl|exact lz fun _=>rfl|exact S1.zz rfl|refine gd ?_)
  ·refine fun (hb0:aE _ cT (.s 83) true _=true)=>?_
   have hb:fwR s i=true:=(eB 73 83).symm.trans hb0
   have e:false=gA s:=bad hb
   repeat' (first|exact e|apply And.intro|exact trivial|exact rfl|exact lz fun _=>rfl|exact S1.zz rfl|refine gd ?_)
  ·refine fun (hb0:aE _ cT (.s 83) true _=false)=>?_
   have hb:fwR s i=false:=(eB 73 83).symm.trans hb0
   repeat' (first|with_reducible exact b2|with_reducible exact b3|apply And.intro|exact trivial|exact rfl|exact lz fun _=>rfl|exact S1.zz rfl|refine gd ?_)
   refine Exists.intro (i+1) (And.intro ⟨hil,good hb⟩ ?_)
   repeat' (first|with_reducible exact em|apply And.intro|exact trivial|exact rfl|exact lz fun _=>rfl|exact S1.zz rfl|refine gd ?_)
 refine fun (h:decide ((i:Int) < (s.regions.n:Int))=false)=>?_
 obtain rfl:i=s.regions.n:=by have:=of_decide_eq_false h; omega
 clear h hi
 repeat' (first|apply And.intro|exact trivial|exact rfl|exact lz fun _=>rfl|exact S1.zz rfl|refine gd ?_)
 refine ⟨⟨Nat,fun i=>i<=s.streets.n/\orB (fwT s) i=false,fun i=>[(4,.int .i64 (i:Int))],fun _=>[],fun i=>s.streets.n - i⟩,0,⟨Nat.zero_le _,rfl⟩,?_,?_⟩
 ·repeat' (first|apply And.intro|exact trivial|exact rfl|exact lz fun _=>rfl|exact S1.zz rfl|refine gd ?_)
 rintro (i:Nat) ⟨(hi:i<=s.streets.n),(hf_streets:orB (fwT s) i=false)⟩
 repeat' (first|apply And.intro|exact trivial|exact rfl|exact lz fun _=>rfl|exact S1.zz rfl|refine gd ?_)
 ·refine fun (h:decide ((i:Int) < (s.streets.n:Int))=true)=>?_
  have hil:i < s.streets.n:=by have:=of_decide_eq_true h; omega
  have hnn:=hs.streets.1
  have b0:(0:Int)<=(i:Int):=by omega
  have b1:(i:Int) < (s.streets.n:Int):=by omega
  have b2:-9223372036854775808<=(i:Int)+1:=by omega
  have b3:(i:Int)+1<=9223372036854775807:=by omega
  have em:s.streets.n - (i+1) < s.streets.n - i:=by omega
  have hok:Pn (s.streets.f i):=hs.streets.2 i hil
  have bad:fwT s i=true->false=gA s:=fun hb=>by
   unfold gA
   rw [aO.2 ⟨i,hil,hb⟩]
   simp
  have good:fwT s i=false->orB (fwT s) (i+1)=false:=fun hb=>by
   simp only [orB]
   rw [hf_streets,hb]
   rfl
  have k1:bgQ (gM [(s.streets.f i).id]) bgT:=rZ hok.id
  have k2:=hok.names
  have eB:∀ a b:Nat,aE (aE (!gQ (gM [(s.streets.f (i:Int).toNat).id])) cT (.s a) true (!rD (s.streets.f (i:Int).toNat).names)) cT (.s b) true (decide ((12:Int) < ((s.streets.f (i:Int).toNat).line.n:Int)))=fwT s i:=fun a b=>by rw [aD,aD]; rfl
  repeat' (first|with_reducible exact b0|with_reducible exact b1|exact k1|exact k2|apply And.intro|exact trivial|exact rfl|exact lz fun _=>rfl|exact S1.zz rfl|refine gd ?_)
  ·refine fun (hb0:aE _ cT (.s 119) true _=true)=>?_
   have hb:fwT s i=true:=(eB 109 119).symm.trans hb0
   have e:false=gA s:=bad hb
   repeat' (first|exact e|apply And.intro|exact trivial|exact rfl|exact lz fun _=>rfl|exact S1.zz rfl|refine gd ?_)
  ·refine fun (hb0:aE _ cT (.s 119) true _=false)=>?_
   have hb:fwT s i=false:=(eB 109 119).symm.trans hb0
   repeat' (first|with_reducible exact b2|with_reducible exact b3|apply And.intro|exact trivial|exact rfl|exact lz fun _=>rfl|exact S1.zz rfl|refine gd ?_)
   refine Exists.intro (i+1) (And.intro ⟨hil,good hb⟩ ?_)
   repeat' (first|with_reducible exact em|apply And.intro|exact trivial|exact rfl|exact lz fun _=>rfl|exact S1.zz rfl|refine gd ?_)
 refine fun (h:decide ((i:Int) < (s.streets.n:Int))=false)=>?_
 obtain rfl:i=s.streets.n:=by have:=of_decide_eq_false h; omega
 clear h hi
 repeat' (first|apply And.intro|exact trivial|exact rfl|exact lz fun _=>rfl|exact S1.zz rfl|refine gd ?_)
 refine ⟨⟨Nat,fun i=>i<=s.buildings.n/\orB (fwB s) i=false,fun i=>[(5,.int .i64 (i:Int))],fun _=>[],fun i=>s.buildings.n - i⟩,0,⟨Nat.zero_le _,rfl⟩,?_,?_⟩
 ·repeat' (first|apply And.intro|exact trivial|exact rfl|exact lz fun _=>rfl|exact S1.zz rfl|refine gd ?_)
 rintro (i:Nat) ⟨(hi:i<=s.buildings.n),(hf_buildings:orB (fwB s) i=false)⟩
 repeat' (first|apply And.intro|exact trivial|exact rfl|exact lz fun _=>rfl|exact S1.zz rfl|refine gd ?_)
 ·refine fun (h:decide ((i:Int) < (s.buildings.n:Int))=true)=>?_
  have hil:i < s.buildings.n:=by have:=of_decide_eq_true h; omega
  have hnn:=hs.buildings.1
  have b0:(0:Int)<=(i:Int):=by omega
  have b1:(i:Int) < (s.buildings.n:Int):=by omega
  have b2:-9223372036854775808<=(i:Int)+1:=by omega
  have b3:(i:Int)+1<=9223372036854775807:=by omega
  have em:s.buildings.n - (i+1) < s.buildings.n - i:=by omega
  have hok:bgB (s.buildings.f i):=hs.buildings.2 i hil
  have bad:fwB s i=true->false=gA s:=fun hb=>by
   unfold gA
   rw [aO.2 ⟨i,hil,hb⟩]
   simp
  have good:fwB s i=false->orB (fwB s) (i+1)=false:=fun hb=>by
   simp only [orB]
   rw [hf_buildings,hb]
   rfl
  have k1:bgQ (gM [(s.buildings.f i).id]) bgT:=rZ hok.id
  have eB:∀ a:Nat,aE (!gQ (gM [(s.buildings.f (i:Int).toNat).id])) cT (.s a) true (decide ((12:Int) < ((s.buildings.f (i:Int).toNat).ring.n:Int)))=fwB s i:=fun a=>by rw [aD]; rfl
  repeat' (first|with_reducible exact b0|with_reducible exact b1|exact k1|apply And.intro|exact trivial|exact rfl|exact lz fun _=>rfl|exact S1.zz rfl|refine gd ?_)
  ·refine fun (hb0:aE _ cT (.s 145) true _=true)=>?_
   have hb:fwB s i=true:=(eB 145).symm.trans hb0
   have e:false=gA s:=bad hb
   repeat' (first|exact e|apply And.intro|exact trivial|exact rfl|exact lz fun _=>rfl|exact S1.zz rfl|refine gd ?_)
  ·refine fun (hb0:aE _ cT (.s 145) true _=false)=>?_
   have hb:fwB s i=false:=(eB 145).symm.trans hb0
   repeat' (first|with_reducible exact b2|with_reducible exact b3|apply And.intro|exact trivial|exact rfl|exact lz fun _=>rfl|exact S1.zz rfl|refine gd ?_)
   refine Exists.intro (i+1) (And.intro ⟨hil,good hb⟩ ?_)
   repeat' (first|with_reducible exact em|apply And.intro|exact trivial|exact rfl|exact lz fun _=>rfl|exact S1.zz rfl|refine gd ?_)
 refine fun (h:decide ((i:Int) < (s.buildings.n:Int))=false)=>?_
 obtain rfl:i=s.buildings.n:=by have:=of_decide_eq_false h; omega
 clear h hi
 repeat' (first|apply And.intro|exact trivial|exact rfl|exact lz fun _=>rfl|exact S1.zz rfl|refine gd ?_)
 refine ⟨⟨Nat,fun i=>i<=s.doors.n/\orB (fwD s) i=false,fun i=>[(6,.int .i64 (i:Int))],fun _=>[],fun i=>s.doors.n - i⟩,0,⟨Nat.zero_le _,rfl⟩,?_,?_⟩
 ·repeat' (first|apply And.intro|exact trivial|exact rfl|exact lz fun _=>rfl|exact S1.zz rfl|refine gd ?_)
 rintro (i:Nat) ⟨(hi:i<=s.doors.n),(hf_doors:orB (fwD s) i=false)⟩
 repeat' (first|apply And.intro|exact trivial|exact rfl|exact lz fun _=>rfl|exact S1.zz rfl|refine gd ?_)
 ·refine fun (h:decide ((i:Int) < (s.doors.n:Int))=true)=>?_
  have hil:i < s.doors.n:=by have:=of_decide_eq_true h; omega
  have hnn:=hs.doors.1
  have b0:(0:Int)<=(i:Int):=by omega
  have b1:(i:Int) < (s.doors.n:Int):=by omega
  have b2:-9223372036854775808<=(i:Int)+1:=by omega
  have b3:(i:Int)+1<=9223372036854775807:=by omega
  have em:s.doors.n - (i+1) < s.doors.n - i:=by omega
  have hok:bgD (s.doors.f i):=hs.doors.2 i hil
  have bad:fwD s i=true->false=gA s:=fun hb=>by
   unfold gA
   rw [aO.2 ⟨i,hil,hb⟩]
   simp
  have good:fwD s i=false->orB (fwD s) (i+1)=false:=fun hb=>by
   simp only [orB]
   rw [hf_doors,hb]
   rfl
  have k1:bgQ (gM [(s.doors.f i).id,(s.doors.f i).bld,(s.doors.f i).str,(s.doors.f i).num.l,(s.doors.f i).veil]) bgT:=Hf hok.id hok.bld hok.str hok.num hok.veil
  have k2:=hok.after
  have eB:∀ a b:Nat,aE (aE (!gQ (gM [(s.doors.f (i:Int).toNat).id,(s.doors.f (i:Int).toNat).bld,(s.doors.f (i:Int).toNat).str,(s.doors.f (i:Int).toNat).num.l,(s.doors.f (i:Int).toNat).veil])) cT (.s a) true (decide ((10:Int) < ((s.doors.f (i:Int).toNat).after.n:Int)))) cT (.s b) true (!gQ (s.doors.f (i:Int).toNat).after)=fwD s i:=fun a b=>by rw [aD,aD]; rfl
  repeat' (first|with_reducible exact b0|with_reducible exact b1|exact k1|exact k2|apply And.intro|exact trivial|exact rfl|exact lz fun _=>rfl|exact S1.zz rfl|refine gd ?_)
  ·refine fun (hb0:aE _ cT (.s 183) true _=true)=>?_
   have hb:fwD s i=true:=(eB 177 183).symm.trans hb0
   have e:false=gA s:=bad hb
   repeat' (first|exact e|apply And.intro|exact trivial|exact rfl|exact lz fun _=>rfl|exact S1.zz rfl|refine gd ?_)
  ·refine fun (hb0:aE _ cT (.s 183) true _=false)=>?_
   have hb:fwD s i=false:=(eB 177 183).symm.trans hb0
   repeat' (first|with_reducible exact b2|with_reducible exact b3|apply And.intro|exact trivial|exact rfl|exact lz fun _=>rfl|exact S1.zz rfl|refine gd ?_)
   refine Exists.intro (i+1) (And.intro ⟨hil,good hb⟩ ?_)
   repeat' (first|with_reducible exact em|apply And.intro|exact trivial|exact rfl|exact lz fun _=>rfl|exact S1.zz rfl|refine gd ?_)
 refine fun (h:decide ((i:Int) < (s.doors.n:Int))=false)=>?_
 obtain rfl:i=s.doors.n:=by have:=of_decide_eq_false h; omega
 clear h hi
 repeat' (first|apply And.intro|exact trivial|exact rfl|exact lz fun _=>rfl|exact S1.zz rfl|refine gd ?_)
 refine ⟨⟨Nat,fun i=>i<=s.units.n/\orB (fwU s) i=false,fun i=>[(8,.int .i64 (i:Int))],fun _=>[],fun i=>s.units.n - i⟩,0,⟨Nat.zero_le _,rfl⟩,?_,?_⟩
 ·repeat' (first|apply And.intro|exact trivial|exact rfl|exact lz fun _=>rfl|exact S1.zz rfl|refine gd ?_)
 rintro (i:Nat) ⟨(hi:i<=s.units.n),(hf_units:orB (fwU s) i=false)⟩
 repeat' (first|apply And.intro|exact trivial|exact rfl|exact lz fun _=>rfl|exact S1.zz rfl|refine gd ?_)
 ·refine fun (h:decide ((i:Int) < (s.units.n:Int))=true)=>?_
  have hil:i < s.units.n:=by have:=of_decide_eq_true h; omega
  have hnn:=hs.units.1
  have b0:(0:Int)<=(i:Int):=by omega
  have b1:(i:Int) < (s.units.n:Int):=by omega
  have b2:-9223372036854775808<=(i:Int)+1:=by omega
  have b3:(i:Int)+1<=9223372036854775807:=by omega
  have em:s.units.n - (i+1) < s.units.n - i:=by omega
  have hok:bgU (s.units.f i):=hs.units.2 i hil
  have bad:fwU s i=true->false=gA s:=fun hb=>by
   unfold gA
   rw [aO.2 ⟨i,hil,hb⟩]
   simp
  have good:fwU s i=false->orB (fwU s) (i+1)=false:=fun hb=>by
   simp only [orB]
   rw [hf_units,hb]
   rfl
  have k1:bgQ (gM [(s.units.f i).id,(s.units.f i).door,(s.units.f i).txt]) bgT:=He hok.id hok.door hok.txt
  repeat' (first|with_reducible exact b0|with_reducible exact b1|exact k1|apply And.intro|exact trivial|exact rfl|exact lz fun _=>rfl|exact S1.zz rfl|refine gd ?_)
  ·refine fun (hb0:(!gQ _)=true)=>?_
   have hb:fwU s i=true:=hb0
   have e:false=gA s:=bad hb
   repeat' (first|exact e|apply And.intro|exact trivial|exact rfl|exact lz fun _=>rfl|exact S1.zz rfl|refine gd ?_)
  ·refine fun (hb0:(!gQ _)=false)=>?_
   have hb:fwU s i=false:=hb0
   repeat' (first|with_reducible exact b2|with_reducible exact b3|apply And.intro|exact trivial|exact rfl|exact lz fun _=>rfl|exact S1.zz rfl|refine gd ?_)
   refine Exists.intro (i+1) (And.intro ⟨hil,good hb⟩ ?_)
   repeat' (first|with_reducible exact em|apply And.intro|exact trivial|exact rfl|exact lz fun _=>rfl|exact S1.zz rfl|refine gd ?_)
 refine fun (h:decide ((i:Int) < (s.units.n:Int))=false)=>?_
 obtain rfl:i=s.units.n:=by have:=of_decide_eq_false h; omega
 clear h hi
 have e:true=gA s:=by unfold gA; rw [hA,hf_regions,hf_streets,hf_buildings,hf_doors,hf_units]; rfl
 repeat' (first|exact e|apply And.intro|exact trivial|exact rfl|exact lz fun _=>rfl|exact S1.zz rfl|refine gd ?_)
end S35
