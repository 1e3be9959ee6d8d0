/- A part of the proof. -/
import Derived.Test.YtijddkljgihcnaaGreatDoorS31
open Go Go.Eng Go.Proofs F1 F2 F5 F6 F10 G7 G4 L3 L10 G1 G3 EV0 S1 S10 S11 S12 S13 S14 S15 S16 S17 S18 S19 S20 S30 S31
set_option maxRecDepth 100000
namespace S32
def R8 (x:Rn):Ev:=evX x.id [] [] x.kind 0 hn0 (0,0) x.ring
def Sj (x:Sr):Ev:=evX x.id [] [] 0 0 hn0 (0,0) x.line
def Pp (x:Bu):Ev:=evX x.id [] [] 0 0 hn0 (0,0) x.ring
def Te (x:Un):Ev:=evX x.id x.door x.txt 0 0 hn0 (0,0) pt0
def rgB (s:Sta) (i:Nat):Bool:=(!jV (s.regions.f i).owner (s.regions.f i).ended 0 || !rB (s.regions.f i).names) || !mdV 1 (R8 (s.regions.f i))
def srB (s:Sta) (i:Nat):Bool:=(!jV (s.streets.f i).owner (s.streets.f i).ended 0 || !rB (s.streets.f i).names) || !mdV 2 (Sj (s.streets.f i))
def buB (s:Sta) (i:Nat):Bool:=!jV (s.buildings.f i).owner (s.buildings.f i).ended 0 || !mdV 5 (Pp (s.buildings.f i))
def drB (s:Sta) (i:Nat):Bool:=!jV (s.doors.f i).owner (s.doors.f i).ended (s.doors.f i).frm || !dW s i
def unA (s:Sta) (x:Un):Bool:=(decide (fdV s x.door < 0) || !jV 0 x.ended x.frm) || !mdV 7 (Te x)
def unC (s:Sta) (x:Un):Bool:=(decide (x.ended=-1) && (!decide (x.why=0) || !decide ((s.doors.f (fdV s x.door).toNat).ended=-1))) || ((!decide (x.ended=-1) && !decide (x.why=12)) && !decide (x.why=11))
def unB (s:Sta) (i:Nat):Bool:=unA s (s.units.f i) || unC s (s.units.f i)
def prT (s:Sta):Bool:=(lW (q5 s) && rC s) && fK s
def prV (s:Sta):Bool:=!orB (rgB s) s.regions.n && (!orB (srB s) s.streets.n && (!orB (buB s) s.buildings.n && (!orB (drB s) s.doors.n && (!orB (unB s) s.units.n && prT s))))
theorem Td {s:Sta} {x:Un} (h:unA s x=false):0<=fdV s x.door:=by
 unfold unA at h
 rw [Bool.or_eq_false_iff,Bool.or_eq_false_iff,decide_eq_false_iff_not] at h
 omega
attribute [local irreducible] jV rB mdV dW lW rC fK fdV q5
def prS:Eng.Spec where
 X:=Sta
 args:=fun x=>.cons (kM x) .nil
 pre:=kJ
 res:=fun x=>.bool (prV x)
 inst:=EV0.one rF
def g24:List Nat:=[0,16,18,15,4,43,17,47,49,46,6,72,48,76,78,75,8,95,77,99,101,98,10,9,118,100,122,124,121,151,13,12,183,123,1,2]
def c24:aH :=
 .seq (.region g24 [(zo 1 (.box 30 (.s 0))),(zo 2 (.move cF))]) (.seq (.seq (.region g24 [(fa 14 0 1),(ld 15 14),(zo 16 (.lenSl (.s 15))),(zo 17 (.move (cj 0)))]) (.block 0 (.loop 0 [18,19,20,4,21,22,23,24,25,26,27,28,29,30,31,32,33,34,35,36,37,38,39,40,41,42,43,2,44,17] (.seq (.region g24 [(zo 18 (.bin (.lss) (.s 17) (.s 16)))]) (.seq (.cond (.s 18) .skip (.exit 0)) (.seq (.block 1 (.seq (.region g24 [(zo 19 (.idxSl 6 (.s 15) (.s 17))),(zo 20 (.load 6 true (.s 19))),(zo 4 (.alloc 67 (.cons (.str []) (.cons (.int .i64 0) (.cons (.int .i64 0) (.cons (.nilsl) (.cons (.nilsl) (.cons (.int .i64 0) .nil)))))))),⟨none,none,.store 6 (.s 4) (.s 20),[]⟩]) (.seq (.region g24 [(fa 21 2 4),(ld 22 21),(fa 23 5 4),(ld 24 23),(zo 25 (.call (.c (.fn 44)) [.s 22,.s 24,cj 0])),(zo 26 (.not (.s 25))),(mv 27 26),(fg 28 27 false 4 4),(lg 29 27 false 28),(zg 30 27 false (.call (.c (.fn 45)) [.s 29])),(zg 31 27 false (.not (.s 30))),(zo 32 (.pick (.s 27) cT (.s 31))),(mv 33 32),(fg 34 33 false 0 4),(lg 35 33 false 34),(fg 36 33 false 1 4),(lg 37 33 false 36),(fg 38 33 false 3 4),(lg 39 33 false 38),(zg 40 33 false (.build zEv [(5,1,.s 35),(2,1,.s 37),(16,1,.s 39)])),(zg 41 33 false (.call (.c (.fn 46)) [cj 1,.s 40])),(zg 42 33 false (.not (.s 41))),(zo 43 (.pick (.s 33) cT (.s 42)))]) (.cond (.s 43) (.seq (.region g24 [(zo 2 (.move cF))]) .ret) .skip)))) (.region g24 [(zo 44 (.bin (.add) (.s 17) (cj 1))),(mv 17 44)]))))))) (.seq (.seq (.region g24 [(fa 45 1 1),(ld 46 45),(zo 47 (.lenSl (.s 46))),(zo 48 (.move (cj 0)))]) (.block 2 (.loop 1 [49,50,51,6,52,53,54,55,56,57,58,59,60,61,62,63,64,65,66,67,68,69,70,71,72,2,73,48] (.seq (.region g24 [(zo 49 (.bin (.lss) (.s 48) (.s 47)))]) (.seq (.cond (.s 49) .skip (.exit 2)) (.seq (.block 3 (.seq (.region g24 [(zo 50 (.idxSl 5 (.s 46) (.s 48))),(zo 51 (.load 5 true (.s 50))),(zo 6 (.alloc 70 (.cons (.str []) (.cons (.int .i64 0) (.cons (.nilsl) (.cons (.nilsl) (.cons (.int .i64 0) .nil))))))),⟨none,none,.store 5 (.s 6) (.s 51),[]⟩]) (.seq (.region g24 [(fa 52 1 6),(ld 53 52),(fa 54 4 6),(ld 55 54),(zo 56 (.call (.c (.fn 44)) [.s 53,.s 55,cj 0])),(zo 57 (.not (.s 56))),(mv 58 57),(fg 59 58 false 3 6),(lg 60 58 false 59),(zg 61 58 false (.call (.c (.fn 45)) [.s 60])),(zg 62 58 false (.not (.s 61))),(zo 63 (.pick (.s 58) cT (.s 62))),(mv 64 63),(fg 65 64 false 0 6),(lg 66 64 false 65),(fg 67 64 false 2 6),(lg 68 64 false 67),(zg 69 64 false (.build zEv [(5,1,.s 66),(16,1,.s 68)])),(zg 70 64 false (.call (.c (.fn 46)) [cj 2,.s 69])),(zg 71 64 false (.not (.s 70))),(zo 72 (.pick (.s 64) cT (.s 71)))]) (.cond (.s 72) (.seq (.region g24 [(zo 2 (.move cF))]) .ret) .skip)))) (.region g24 [(zo 73 (.bin (.add) (.s 48) (cj 1))),(mv 48 73)]))))))) (.seq (.seq (.region g24 [(fa 74 2 1),(ld 75 74),(zo 76 (.lenSl (.s 75))),(zo 77 (.move (cj 0)))]) (.block 4 (.loop 2 [78,79,80,8,81,82,83,84,85,86,87,88,89,90,91,92,93,94,95,2,96,77] (.seq (.region g24 [(zo 78 (.bin (.lss) (.s 77) (.s 76)))]) (.seq (.cond (.s 78) .skip (.exit 4)) (.seq (.block 5 (.seq (.region g24 [(zo 79 (.idxSl 4 (.s 75) (.s 77))),(zo 80 (.load 4 true (.s 79))),(zo 8 (.alloc 72 (.cons (.str []) (.cons (.int .i64 0) (.cons (.nilsl) (.cons (.int .i64 0) .nil)))))),⟨none,none,.store 4 (.s 8) (.s 80),[]⟩]) (.seq (.region g24 [(fa 81 1 8),(ld 82 81),(fa 83 3 8),(ld 84 83),(zo 85 (.call (.c (.fn 44)) [.s 82,.s 84,cj 0])),(zo 86 (.not (.s 85))),(mv 87 86),(fg 88 87 false 0 8),(lg 89 87 false 88),(fg 90 87 false 2 8),(lg 91 87 false 90),(zg 92 87 false (.build zEv [(5,1,.s 89),(16,1,.s 91)])),(zg 93 87 false (.call (.c (.fn 46)) [cj 5,.s 92])),(zg 94 87 false (.not (.s 93))),(zo 95 (.pick (.s 87) cT (.s 94)))]) (.cond (.s 95) (.seq (.region g24 [(zo 2 (.move cF))]) .ret) .skip)))) (.region g24 [(zo 96 (.bin (.add) (.s 77) (cj 1))),(mv 77 96)]))))))) (.seq (.seq (.region g24 [(fa 97 3 1),(ld 98 97),(zo 99 (.lenSl (.s 98))),(zo 100 (.move (cj 0)))]) (.block 6 (.loop 3 [101,102,103,104,10,9,105,106,107,108,109,110,111,112,113,114,115,116,117,118,2,119,100] (.seq (.region g24 [(zo 101 (.bin (.lss) (.s 100) (.s 99)))]) (.seq (.cond (.s 101) .skip (.exit 6)) (.seq (.block 7 (.seq (.region g24 [(mv 102 100),(zo 103 (.idxSl 16 (.s 98) (.s 100))),(zo 104 (.load 16 true (.s 103))),(zo 10 (.alloc 55 (.cons (.str []) (.cons (.str []) (.cons (.str []) (.cons (.int .i64 0) (.cons (.int .i64 0) (.cons (.str []) (.cons (.int .i64 0) (.cons (.int .i64 0) (.cons (.int .i64 0) (.cons (.int .i64 0) (.cons (.int .i64 0) (.cons (.int .i64 0) (.cons (.nilsl) (.cons (.int .i64 0) (.cons (.int .i64 0) (.cons (.str []) .nil)))))))))))))))))),(mv 9 102),⟨none,none,.store 16 (.s 10) (.s 104),[]⟩]) (.seq (.region g24 [(fa 105 3 10),(ld 106 105),(fa 107 11 10),(ld 108 107),(fa 109 10 10),(ld 110 109),(zo 111 (.call (.c (.fn 44)) [.s 106,.s 108,.s 110])),(zo 112 (.not (.s 111))),(mv 113 112),(zg 114 113 false (.load 7 true (.s 1))),(mg 115 113 false 9),(zg 116 113 false (.call (.c (.fn 47)) [.s 114,.s 115])),(zg 117 113 false (.not (.s 116))),(zo 118 (.pick (.s 113) cT (.s 117)))]) (.cond (.s 118) (.seq (.region g24 [(zo 2 (.move cF))]) .ret) .skip)))) (.region g24 [(zo 119 (.bin (.add) (.s 100) (cj 1))),(mv 100 119)]))))))) (.seq (.seq (.region g24 [(fa 120 4 1),(ld 121 120),(zo 122 (.lenSl (.s 121))),(zo 123 (.move (cj 0)))]) (.block 8 (.loop 4 [124,125,126,12,127,128,129,130,13,131,132,133,134,135,136,137,138,139,140,141,142,143,144,145,146,147,148,149,150,151,152,153,154,155,156,157,158,159,160,161,162,163,164,165,166,167,168,169,170,171,172,173,174,175,176,177,178,179,180,181,182,183,2,184,123] (.seq (.region g24 [(zo 124 (.bin (.lss) (.s 123) (.s 122)))]) (.seq (.cond (.s 124) .skip (.exit 8)) (.seq (.block 9 (.seq (.region g24 [(zo 125 (.idxSl 6 (.s 121) (.s 123))),(zo 126 (.load 6 true (.s 125))),(zo 12 (.alloc 74 (.cons (.str []) (.cons (.str []) (.cons (.str []) (.cons (.int .i64 0) (.cons (.int .i64 0) (.cons (.int .i64 0) .nil)))))))),⟨none,none,.store 6 (.s 12) (.s 126),[]⟩]) (.seq (.region g24 [(zo 127 (.load 7 true (.s 1))),(fa 128 1 12),(ld 129 128),(zo 130 (.call (.c (.fn 37)) [.s 127,.s 129])),(mv 13 130)]) (.seq (.seq (.region g24 [(mv 131 13),(zo 132 (.bin (.lss) (.s 131) (cj 0))),(mv 133 132),(fg 134 133 false 4 12),(lg 135 133 false 134),(fg 136 133 false 3 12),(lg 137 133 false 136),(zg 138 133 false (.call (.c (.fn 44)) [cj 0,.s 135,.s 137])),(zg 139 133 false (.not (.s 138))),(zo 140 (.pick (.s 133) cT (.s 139))),(mv 141 140),(fg 142 141 false 0 12),(lg 143 141 false 142),(fg 144 141 false 1 12),(lg 145 141 false 144),(fg 146 141 false 2 12),(lg 147 141 false 146),(zg 148 141 false (.build zEv [(5,1,.s 143),(6,1,.s 145),(7,1,.s 147)])),(zg 149 141 false (.call (.c (.fn 46)) [cj 7,.s 148])),(zg 150 141 false (.not (.s 149))),(zo 151 (.pick (.s 141) cT (.s 150)))]) (.cond (.s 151) (.seq (.region g24 [(zo 2 (.move cF))]) .ret) .skip)) (.seq (.region g24 [(fa 152 4 12),(ld 153 152),(zo 154 (.bin (.eql) (.s 153) (cj (-1)))),(mv 155 154),(fg 156 155 true 5 12),(lg 157 155 true 156),(zg 158 155 true (.bin (.neq) (.s 157) (cj 0))),(mg 159 155 true 158),(fg 160 159 false 3 1),(lg 161 159 false 160),(mg 162 159 false 13),(zg 163 159 false (.idxSl 16 (.s 161) (.s 162))),(fg 164 159 false 11 163),(lg 165 159 false 164),(zg 166 159 false (.bin (.neq) (.s 165) (cj (-1)))),(zg 167 155 true (.pick (.s 159) cT (.s 166))),(zo 168 (.pick (.s 155) (.s 167) cF)),(mv 169 168),(fg 170 169 false 4 12),(lg 171 169 false 170),(zg 172 169 false (.bin (.neq) (.s 171) (cj (-1)))),(mg 173 169 false 172),(fg 174 173 true 5 12),(lg 175 173 true 174),(zg 176 173 true (.bin (.neq) (.s 175) (cj 12))),(zg 177 169 false (.pick (.s 173) (.s 176) cF)),(mg 178 169 false 177),(fg 179 178 true 5 12),(lg 180 178 true 179),(zg 181 178 true (.bin (.neq) (.s 180) (cj 11))),(zg 182 169 false (.pick (.s 178) (.s 181) cF)),(zo 183 (.pick (.s 169) cT (.s 182)))]) (.cond (.s 183) (.seq (.region g24 [(zo 2 (.move cF))]) .ret) .skip)))))) (.region g24 [(zo 184 (.bin (.add) (.s 123) (cj 1))),(mv 123 184)]))))))) (.seq (.region g24 [(zo 185 (.load 7 true (.s 1))),(zo 186 (.call (.c (.fn 49)) [.s 185])),(zo 187 (.call (.c (.fn 48)) [.s 186])),(mv 188 187),(zg 189 188 true (.load 7 true (.s 1))),(zg 190 188 true (.call (.c (.fn 50)) [.s 189])),(zo 191 (.pick (.s 188) (.s 190) cF)),(mv 192 191),(zg 193 192 true (.load 7 true (.s 1))),(zg 194 192 true (.call (.c (.fn 51)) [.s 193])),(zo 195 (.pick (.s 192) (.s 194) cF)),(mv 2 195)]) .ret))))))
theorem e24:aI Tryz.prog 24 g24 [] [] []=some (c24,[.slot 2],196):=by kernel_rfl
set_option maxHeartbeats 80000000 in
theorem Oy:prS.Ok Tryz.prog 24:=by
 refine Eng.Spec.okR e24 .nil (fun _=>[(44,.p Rz),(45,.p Vg),(46,.p mdN),(47,.p J2),(37,.p fdS),(49,.m Ul),(48,.p P6),(50,.p Vi),(51,.p Vq)])
  (fun _ _=>aA.p Jl (aA.p Rk (aA.p I7 (aA.p Cv (aA.p Dz (aA.m Qr (aA.p Hs (aA.p Rp (aA.p R6 aA.nil))))))))) ?_
 rintro (s:Sta) (hs:kJ s)
 have hq:(q5 s).n<=10000000:=R7 hs
 have hdn:s.doors.n<=1000000:=hs.doors.1
 refine ⟨trivial,?_⟩
 repeat' (first|apply And.intro|exact trivial|exact rfl|exact lz fun _=>rfl|exact S1.zz rfl|refine gd ?_)
 refine ⟨⟨Nat,fun i=>i<=s.regions.n/\orB (rgB s) i=false,fun i=>[(17,.int .i64 (i:Int))],fun _=>[],fun i=>s.regions.n - i⟩,0,⟨Nat.zero_le _,rfl⟩,?_,?_⟩
 ·repeat' (first|apply And.intro|exact trivial|exact rfl|exact lz fun _=>rfl|exact S1.zz rfl|refine gd ?_)
 rintro (i:Nat) ⟨(hi:i<=s.regions.n),(hf_regions:orB (rgB s) i=false)⟩
 repeat' (first|apply And.intro|exact trivial|exact rfl|exact lz fun _=>rfl|exact S1.zz rfl|refine gd ?_)
 ·refine fun (h:decide ((i:Int) < (s.regions.n:Int))=true)=>?_
  have hil:i < s.regions.n:=by have:=of_decide_eq_true h; omega
  have hnn:=hs.regions.1
  have b0:(0:Int)<=(i:Int):=by omega
  have b1:(i:Int) < (s.regions.n:Int):=by omega
  have b2:-9223372036854775808<=(i:Int)+1:=by omega
  have b3:(i:Int)+1<=9223372036854775807:=by omega
  have em:s.regions.n - (i+1) < s.regions.n - i:=by omega
  have hok:okR (s.regions.f i):=hs.regions.2 i hil
  have bad:rgB s i=true->false=prV s:=fun hb=>by
   unfold prV
   rw [aO.2 ⟨i,hil,hb⟩]
   simp
  have good:rgB s i=false->orB (rgB s) (i+1)=false:=fun hb=>by
   simp only [orB]
   rw [hf_regions,hb]
   rfl
  have k1:=hok.names
  have k2:okV (R8 (s.regions.f i)):=pH hok.id cR cR cR hok.ring
  have eB:∀ a b:Nat,aE (aE (!jV (s.regions.f (i:Int).toNat).owner (s.regions.f (i:Int).toNat).ended 0) cT (.s a) true (!rB (s.regions.f (i:Int).toNat).names)) cT (.s b) true (!mdV 1 (R8 (s.regions.f (i:Int).toNat)))=rgB s i:=fun a b=>by rw [aD,aD]; rfl
  repeat' (first|with_reducible exact b0|with_reducible exact b1|exact k1|exact k1.1|exact k1.2|exact k2|apply And.intro|exact trivial|exact rfl|exact lz fun _=>rfl|exact S1.zz rfl|refine gd ?_)
  ·refine fun (hb0:aE _ cT (.s 42) true _=true)=>?_
   have hb:rgB s i=true:=(eB 31 42).symm.trans hb0
   have e:false=prV s:=bad hb
   repeat' (first|exact e|apply And.intro|exact trivial|exact rfl|exact lz fun _=>rfl|exact S1.zz rfl|refine gd ?_)
  ·refine fun (hb0:aE _ cT (.s 42) true _=false)=>?_
   have hb:rgB s i=false:=(eB 31 42).symm.trans hb0
   repeat' (first|with_reducible exact b2|with_reducible exact b3|apply And.intro|exact trivial|exact rfl|exact lz fun _=>rfl|exact S1.zz rfl|refine gd ?_)
   refine Exists.intro (i+1) (And.intro ⟨hil,good hb⟩ ?_)
   repeat' (first|with_reducible exact em|apply And.intro|exact trivial|exact rfl|exact lz fun _=>rfl|exact S1.zz rfl|refine gd ?_)
 refine fun (h:decide ((i:Int) < (s.regions.n:Int))=false)=>?_
 obtain rfl:i=s.regions.n:=by have:=of_decide_eq_false h; omega
 clear h hi
 repeat' (first|apply And.intro|exact trivial|exact rfl|exact lz fun _=>rfl|exact S1.zz rfl|refine gd ?_)
 refine ⟨⟨Nat,fun i=>i<=s.streets.n/\orB (srB s) i=false,fun i=>[(48,.int .i64 (i:Int))],fun _=>[],fun i=>s.streets.n - i⟩,0,⟨Nat.zero_le _,rfl⟩,?_,?_⟩
 ·repeat' (first|apply And.intro|exact trivial|exact rfl|exact lz fun _=>rfl|exact S1.zz rfl|refine gd ?_)
 rintro (i:Nat) ⟨(hi:i<=s.streets.n),(hf_streets:orB (srB s) i=false)⟩
 repeat' (first|apply And.intro|exact trivial|exact rfl|exact lz fun _=>rfl|exact S1.zz rfl|refine gd ?_)
 ·refine fun (h:decide ((i:Int) < (s.streets.n:Int))=true)=>?_
  have hil:i < s.streets.n:=by have:=of_decide_eq_true h; omega
  have hnn:=hs.streets.1
  have b0:(0:Int)<=(i:Int):=by omega
  have b1:(i:Int) < (s.streets.n:Int):=by omega
  have b2:-9223372036854775808<=(i:Int)+1:=by omega
  have b3:(i:Int)+1<=9223372036854775807:=by omega
  have em:s.streets.n - (i+1) < s.streets.n - i:=by omega
  have hok:wR (s.streets.f i):=hs.streets.2 i hil
  have bad:srB s i=true->false=prV s:=fun hb=>by
   unfold prV
   rw [aO.2 ⟨i,hil,hb⟩]
   simp
  have good:srB s i=false->orB (srB s) (i+1)=false:=fun hb=>by
   simp only [orB]
   rw [hf_streets,hb]
   rfl
  have k1:=hok.names
  have k2:okV (Sj (s.streets.f i)):=pH hok.id cR cR cR hok.line
  have eB:∀ a b:Nat,aE (aE (!jV (s.streets.f (i:Int).toNat).owner (s.streets.f (i:Int).toNat).ended 0) cT (.s a) true (!rB (s.streets.f (i:Int).toNat).names)) cT (.s b) true (!mdV 2 (Sj (s.streets.f (i:Int).toNat)))=srB s i:=fun a b=>by rw [aD,aD]; rfl
  repeat' (first|with_reducible exact b0|with_reducible exact b1|exact k1|exact k1.1|exact k1.2|exact k2|apply And.intro|exact trivial|exact rfl|exact lz fun _=>rfl|exact S1.zz rfl|refine gd ?_)
  ·refine fun (hb0:aE _ cT (.s 71) true _=true)=>?_
   have hb:srB s i=true:=(eB 62 71).symm.trans hb0
   have e:false=prV s:=bad hb
   repeat' (first|exact e|apply And.intro|exact trivial|exact rfl|exact lz fun _=>rfl|exact S1.zz rfl|refine gd ?_)
  ·refine fun (hb0:aE _ cT (.s 71) true _=false)=>?_
   have hb:srB s i=false:=(eB 62 71).symm.trans hb0
   repeat' (first|with_reducible exact b2|with_reducible exact b3|apply And.intro|exact trivial|exact rfl|exact lz fun _=>rfl|exact S1.zz rfl|refine gd ?_)
   refine Exists.intro (i+1) (And.intro ⟨hil,good hb⟩ ?_)
   repeat' (first|with_reducible exact em|apply And.intro|exact trivial|exact rfl|exact lz fun _=>rfl|exact S1.zz rfl|refine gd ?_)
 refine fun (h:decide ((i:Int) < (s.streets.n:Int))=false)=>?_
 obtain rfl:i=s.streets.n:=by have:=of_decide_eq_false h; omega
 clear h hi
 repeat' (first|apply And.intro|exact trivial|exact rfl|exact lz fun _=>rfl|exact S1.zz rfl|refine gd ?_)
 refine ⟨⟨Nat,fun i=>i<=s.buildings.n/\orB (buB s) i=false,fun i=>[(77,.int .i64 (i:Int))],fun _=>[],fun i=>s.buildings.n - i⟩,0,⟨Nat.zero_le _,rfl⟩,?_,?_⟩
 ·repeat' (first|apply And.intro|exact trivial|exact rfl|exact lz fun _=>rfl|exact S1.zz rfl|refine gd ?_)
 rintro (i:Nat) ⟨(hi:i<=s.buildings.n),(hf_buildings:orB (buB s) i=false)⟩
 repeat' (first|apply And.intro|exact trivial|exact rfl|exact lz fun _=>rfl|exact S1.zz rfl|refine gd ?_)
 ·refine fun (h:decide ((i:Int) < (s.buildings.n:Int))=true)=>?_
  have hil:i < s.buildings.n:=by have:=of_decide_eq_true h; omega
  have hnn:=hs.buildings.1
  have b0:(0:Int)<=(i:Int):=by omega
  have b1:(i:Int) < (s.buildings.n:Int):=by omega
  have b2:-9223372036854775808<=(i:Int)+1:=by omega
  have b3:(i:Int)+1<=9223372036854775807:=by omega
  have em:s.buildings.n - (i+1) < s.buildings.n - i:=by omega
  have hok:okB (s.buildings.f i):=hs.buildings.2 i hil
  have bad:buB s i=true->false=prV s:=fun hb=>by
   unfold prV
   rw [aO.2 ⟨i,hil,hb⟩]
   simp
  have good:buB s i=false->orB (buB s) (i+1)=false:=fun hb=>by
   simp only [orB]
   rw [hf_buildings,hb]
   rfl
  have k2:okV (Pp (s.buildings.f i)):=pH hok.id cR cR cR hok.ring
  have eB:∀ a:Nat,aE (!jV (s.buildings.f (i:Int).toNat).owner (s.buildings.f (i:Int).toNat).ended 0) cT (.s a) true (!mdV 5 (Pp (s.buildings.f (i:Int).toNat)))=buB s i:=fun a=>by rw [aD]; rfl
  repeat' (first|with_reducible exact b0|with_reducible exact b1|exact k2|apply And.intro|exact trivial|exact rfl|exact lz fun _=>rfl|exact S1.zz rfl|refine gd ?_)
  ·refine fun (hb0:aE _ cT (.s 94) true _=true)=>?_
   have hb:buB s i=true:=(eB 94).symm.trans hb0
   have e:false=prV s:=bad hb
   repeat' (first|exact e|apply And.intro|exact trivial|exact rfl|exact lz fun _=>rfl|exact S1.zz rfl|refine gd ?_)
  ·refine fun (hb0:aE _ cT (.s 94) true _=false)=>?_
   have hb:buB s i=false:=(eB 94).symm.trans hb0
   repeat' (first|with_reducible exact b2|with_reducible exact b3|apply And.intro|exact trivial|exact rfl|exact lz fun _=>rfl|exact S1.zz rfl|refine gd ?_)
   refine Exists.intro (i+1) (And.intro ⟨hil,good hb⟩ ?_)
   repeat' (first|with_reducible exact em|apply And.intro|exact trivial|exact rfl|exact lz fun _=>rfl|exact S1.zz rfl|refine gd ?_)
 refine fun (h:decide ((i:Int) < (s.buildings.n:Int))=false)=>?_
 obtain rfl:i=s.buildings.n:=by have:=of_decide_eq_false h; omega
 clear h hi
 repeat' (first|apply And.intro|exact trivial|exact rfl|exact lz fun _=>rfl|exact S1.zz rfl|refine gd ?_)
 refine ⟨⟨Nat,fun i=>i<=s.doors.n/\orB (drB s) i=false,fun i=>[(100,.int .i64 (i:Int))],fun _=>[],fun i=>s.doors.n - i⟩,0,⟨Nat.zero_le _,rfl⟩,?_,?_⟩
 ·repeat' (first|apply And.intro|exact trivial|exact rfl|exact lz fun _=>rfl|exact S1.zz rfl|refine gd ?_)
 rintro (i:Nat) ⟨(hi:i<=s.doors.n),(hf_doors:orB (drB s) i=false)⟩
 repeat' (first|apply And.intro|exact trivial|exact rfl|exact lz fun _=>rfl|exact S1.zz rfl|refine gd ?_)
 ·refine fun (h:decide ((i:Int) < (s.doors.n:Int))=true)=>?_
  have hil:i < s.doors.n:=by have:=of_decide_eq_true h; omega
  have hnn:=hs.doors.1
  have b0:(0:Int)<=(i:Int):=by omega
  have b1:(i:Int) < (s.doors.n:Int):=by omega
  have b2:-9223372036854775808<=(i:Int)+1:=by omega
  have b3:(i:Int)+1<=9223372036854775807:=by omega
  have em:s.doors.n - (i+1) < s.doors.n - i:=by omega
  have hok:okD (s.doors.f i):=hs.doors.2 i hil
  have bad:drB s i=true->false=prV s:=fun hb=>by
   unfold prV
   rw [aO.2 ⟨i,hil,hb⟩]
   simp
  have good:drB s i=false->orB (drB s) (i+1)=false:=fun hb=>by
   simp only [orB]
   rw [hf_doors,hb]
   rfl
  have eB:∀ a:Nat,aE (!jV (s.doors.f (i:Int).toNat).owner (s.doors.f (i:Int).toNat).ended (s.doors.f (i:Int).toNat).frm) cT (.s a) true (!dW s (i:Int).toNat)=drB s i:=fun a=>by rw [aD]; rfl
  have k1:kJ s/\i < s.doors.n:=⟨hs,hil⟩
  repeat' (first|with_reducible exact b0|with_reducible exact b1|exact k1|exact hs|exact hil|apply And.intro|exact trivial|exact rfl|exact lz fun _=>rfl|exact S1.zz rfl|refine gd ?_)
  ·refine fun (hb0:aE _ cT (.s 117) true _=true)=>?_
   have hb:drB s i=true:=(eB 117).symm.trans hb0
   have e:false=prV s:=bad hb
   repeat' (first|exact e|apply And.intro|exact trivial|exact rfl|exact lz fun _=>rfl|exact S1.zz rfl|refine gd ?_)
  ·refine fun (hb0:aE _ cT (.s 117) true _=false)=>?_
   have hb:drB s i=false:=(eB 117).symm.trans hb0
   repeat' (first|with_reducible exact b2|with_reducible exact b3|apply And.intro|exact trivial|exact rfl|exact lz fun _=>rfl|exact S1.zz rfl|refine gd ?_)
   refine Exists.intro (i+1) (And.intro ⟨hil,good hb⟩ ?_)
   repeat' (first|with_reducible exact em|apply And.intro|exact trivial|exact rfl|exact lz fun _=>rfl|exact S1.zz rfl|refine gd ?_)
 refine fun (h:decide ((i:Int) < (s.doors.n:Int))=false)=>?_
 obtain rfl:i=s.doors.n:=by have:=of_decide_eq_false h; omega
 clear h hi
 repeat' (first|apply And.intro|exact trivial|exact rfl|exact lz fun _=>rfl|exact S1.zz rfl|refine gd ?_)
 refine ⟨⟨Nat,fun i=>i<=s.units.n/\orB (unB s) i=false,fun i=>[(123,.int .i64 (i:Int))],fun _=>[],fun i=>s.units.n - i⟩,0,⟨Nat.zero_le _,rfl⟩,?_,?_⟩
 ·repeat' (first|apply And.intro|exact trivial|exact rfl|exact lz fun _=>rfl|exact S1.zz rfl|refine gd ?_)
 rintro (i:Nat) ⟨(hi:i<=s.units.n),(hf_units:orB (unB s) i=false)⟩
 repeat' (first|apply And.intro|exact trivial|exact rfl|exact lz fun _=>rfl|exact S1.zz rfl|refine gd ?_)
 ·refine fun (h:decide ((i:Int) < (s.units.n:Int))=true)=>?_
  have hil:i < s.units.n:=by have:=of_decide_eq_true h; omega
  have hnn:=hs.units.1
  have b0:(0:Int)<=(i:Int):=by omega
  have b1:(i:Int) < (s.units.n:Int):=by omega
  have b2:-9223372036854775808<=(i:Int)+1:=by omega
  have b3:(i:Int)+1<=9223372036854775807:=by omega
  have em:s.units.n - (i+1) < s.units.n - i:=by omega
  have hok:okU (s.units.f i):=hs.units.2 i hil
  have bad:unB s i=true->false=prV s:=fun hb=>by
   unfold prV
   rw [aO.2 ⟨i,hil,hb⟩]
   simp
  have good:unB s i=false->orB (unB s) (i+1)=false:=fun hb=>by
   simp only [orB]
   rw [hf_units,hb]
   rfl
  have k2:okV (Te (s.units.f i)):=pH hok.id hok.door hok.txt cR (Nat.zero_le _)
  have hfl:fdV s (s.units.f i).door < (s.doors.n:Int):=H6 s _
  have eA:∀ a b:Nat,aE (aE (decide (fdV s (s.units.f (i:Int).toNat).door < 0)) cT (.s a) true (!jV 0 (s.units.f (i:Int).toNat).ended (s.units.f (i:Int).toNat).frm)) cT (.s b) true (!mdV 7 (Te (s.units.f (i:Int).toNat)))=unA s (s.units.f i):=fun a b=>by rw [aD,aD]; rfl
  repeat' (first|with_reducible exact b0|with_reducible exact b1|exact hs.doors|exact hok.door|exact k2|apply And.intro|exact trivial|exact rfl|exact lz fun _=>rfl|exact S1.zz rfl|refine gd ?_)
  ·refine fun (hb0:aE _ cT (.s 150) true _=true)=>?_
   have hb:unA s (s.units.f i)=true:=(eA 139 150).symm.trans hb0
   have e:false=prV s:=bad (by unfold unB; rw [hb]; rfl)
   repeat' (first|exact e|apply And.intro|exact trivial|exact rfl|exact lz fun _=>rfl|exact S1.zz rfl|refine gd ?_)
  ·refine fun (hb0:aE _ cT (.s 150) true _=false)=>?_
   have hb:unA s (s.units.f i)=false:=(eA 139 150).symm.trans hb0
   have hfd:0<=fdV s (s.units.f i).door:=Td hb
   have eC:∀ a b c d e:Nat,aE (aE (decide ((s.units.f (i:Int).toNat).ended=-1)) (.s a) cF (aE (!decide ((s.units.f (i:Int).toNat).why=0)) cT (.s b) true (!decide ((s.doors.f (fdV s (s.units.f (i:Int).toNat).door).toNat).ended=-1))) false) cT (.s c) true (aE (aE (!decide ((s.units.f (i:Int).toNat).ended=-1)) (.s d) cF (!decide ((s.units.f (i:Int).toNat).why=12)) false) (.s e) cF (!decide ((s.units.f (i:Int).toNat).why=11)) false)=unC s (s.units.f i):=fun a b c d e=>by rw [aD,aD,aF,aF,aF]; rfl
   repeat' (first|exact fun (_:bD _ _ _ _)=>And.intro hfd hfl|apply And.intro|exact trivial|exact rfl|exact lz fun _=>rfl|exact S1.zz rfl|refine gd ?_)
   ·refine fun (hc0:aE _ cT (.s 182) true _=true)=>?_
    have hc:unC s (s.units.f i)=true:=(eC 167 166 182 176 181).symm.trans hc0
    have e:false=prV s:=bad (by unfold unB; rw [hc,Bool.or_true])
    repeat' (first|exact e|apply And.intro|exact trivial|exact rfl|exact lz fun _=>rfl|exact S1.zz rfl|refine gd ?_)
   ·refine fun (hc0:aE _ cT (.s 182) true _=false)=>?_
    have hc:unC s (s.units.f i)=false:=(eC 167 166 182 176 181).symm.trans hc0
    have hg:orB (unB s) (i+1)=false:=good (by unfold unB; rw [hb,hc]; rfl)
    repeat' (first|with_reducible exact b2|with_reducible exact b3|apply And.intro|exact trivial|exact rfl|exact lz fun _=>rfl|exact S1.zz rfl|refine gd ?_)
    refine Exists.intro (i+1) (And.intro ⟨hil,hg⟩ ?_)
    repeat' (first|with_reducible exact em|apply And.intro|exact trivial|exact rfl|exact lz fun _=>rfl|exact S1.zz rfl|refine gd ?_)
 refine fun (h:decide ((i:Int) < (s.units.n:Int))=false)=>?_
 obtain rfl:i=s.units.n:=by have:=of_decide_eq_false h; omega
 clear h hi
 repeat' (first|apply And.intro|exact trivial|exact rfl|exact lz fun _=>rfl|exact S1.zz rfl|refine gd ?_)
 refine Exists.intro s (Exists.intro [] ?_)
 repeat' (first|exact hs|apply And.intro|exact trivial|exact rfl|exact lz fun _=>rfl|exact S1.zz rfl|refine gd ?_)
 refine fun (_:Unit) (_:True)=>?_
 have e:aE (aE (lW (q5 s)) (.s 190) cF (rC s) false) (.s 194) cF (fK s) false=prV s:=by
  rw [aF,aF]
  unfold prV prT
  rw [hf_regions,hf_streets,hf_buildings,hf_doors,hf_units]
  rfl
 have z0:0+(q5 s).n<=(q5 s).n:=Nat.le_of_eq (Nat.zero_add _)
 repeat' (first|exact e|exact hq|with_reducible exact z0|exact fun (i:Nat) (hi:i < _)=>EL.aV (congrArg (fun q=>stL ((q5 s).f q)) (Nat.zero_add i)) (bX _ _ _ _)|exact hdn|exact hs.merged|exact hs.rulings|apply And.intro|exact trivial|exact rfl|exact lz fun _=>rfl|exact S1.zz rfl|refine gd ?_)
end S32
