/- A part of the proof. -/
import Derived.Test.YtijddkljgihcnaaGreatDoorS39
import Derived.Test.YtijddkljgihcnaaGreatDoorS37
import Derived.Test.YtijddkljgihcnaaGreatDoorS40
open Go Go.Eng Go.Proofs F1 F2 F5 F6 F10 G7 G4 L3 L10 G1 G3 EV0 B1 B2 S1 S2 S3 S4 S5 S6 S7 S8 S9 S10 S11 S12 S13 S14 S20 S28 S31 S32 S33 S35 S36 S37 S39 S40 PL PT
set_option maxRecDepth 100000
namespace S45
noncomputable def Wq:Eng.bZ:=Nw.mof (Int×Int) (fun x y=>y=tgT x.1 x.2.1 x.2.2) (fun _ y=>.tup (.cons (.int .i64 y.1) (.cons (.int .i64 y.2) .nil)))
theorem Nv:Wq.Ok Tryz.prog 18:=Eng.Spec.wM Kr fun x _=>⟨tgT x.1 x.2.1 x.2.2,rfl,rfl⟩
theorem G8 {s:Sta} (h:prV s=true) {k:Nat} (hk:k < s.doors.n):adT s (s.doors.f k).id=if (s.doors.f k).ended=-1 then if (s.doors.f k).veil=[] then (vJ s (s.doors.f k),0) else (adr0,24) else (adr0,11):=by
 have hd:lW (q5 s)=true:=by
  unfold prV prT at h
  simp only [Bool.and_eq_true] at h
  exact h.2.2.2.2.2.1.1
 have hf:=Oa hd hk
 unfold adT
 rw [if_pos h,hf,if_neg (by omega)]
 rfl
theorem Ud {s:Sta} (h:prV s=true) {k:Nat} (hk:k < s.doors.n):fdV s (s.doors.f k).id=(k:Int):=by
 unfold prV prT at h
 simp only [Bool.and_eq_true] at h
 exact Oa h.2.2.2.2.2.1.1 hk
theorem Sy {l:Sq Of} {s:Sta} (hv:vdV l=true) (h:prV s=true) {k:Nat} (hk:k < s.doors.n) (he:¬ (s.doors.f k).ended=-1):tgT l s (s.doors.f k).id=(0,11):=by
 unfold tgT
 rw [if_pos hv,G8 h hk,if_neg he,if_neg (by decide),if_neg (by decide)]
theorem Dk {s:Sta} (h:prV s=true) {k:Nat} (hk:k < s.doors.n) (he:(s.doors.f k).ended=-1) (hw:(s.doors.f k).veil=[]):(adT s (s.doors.f k).id).2=0:=by
 rw [G8 h hk,if_pos he,if_pos hw]
theorem Nu {l:Sq Of} {s:Sta} (hv:vdV l=true) (h:prV s=true) {k:Nat} (hk:k < s.doors.n) (he:(s.doors.f k).ended=-1) (hw:(s.doors.f k).veil=[]):tgT l s (s.doors.f k).id=xM l (adT s (s.doors.f k).id).1.code:=by
 unfold tgT
 rw [if_pos hv,if_pos (Dk h hk he hw)]
theorem Dd {l:Sq Of} {s:Sta} (hv:vdV l=true) (h:prV s=true) {k:Nat} (hk:k < s.doors.n) (he:(s.doors.f k).ended=-1) (hw:¬ (s.doors.f k).veil=[]):tgT l s (s.doors.f k).id=if (l.n:Int)<=(s.doors.f k).office then (0,9) else ((s.doors.f k).office,0):=by
 have e:(adT s (s.doors.f k).id).2=24:=by rw [G8 h hk,if_pos he,if_neg hw]
 unfold tgT
 rw [if_pos hv,if_neg (by rw [e]; decide),if_pos e,Ud h hk]
 rfl
theorem Wp {l:Sq Of} {s:Sta} (hv:vdV l=true) (h:prV s=true) {k:Nat} (hk:k < s.doors.n) (he:(s.doors.f k).ended=-1) (hw:¬ (s.doors.f k).veil=[]):tgT l (vl s k oth) (s.doors.f k).id=tgT l s (s.doors.f k).id:=by
 have e:((vl s k oth).doors.f k)={ s.doors.f k with veil:=oth }:=tO
 have h2:=Dd (l:=l) (s:=vl s k oth) (k:=k) hv (Ww hw h) hk (by rw [e]; exact he) (by rw [e]; exact wW)
 rw [e] at h2
 rw [Dd hv h hk he hw]
 exact h2
theorem Wv {s:Sta} (h:kJ s) {k:Nat} (hk:k < s.doors.n):kJ (vl s k oth):=by
 refine ⟨h.regions,h.streets,h.buildings,⟨h.doors.1,fun i hi=>?_⟩,h.units,h.merged,h.rulings⟩
 by_cases e:i=k
 ·subst e
  rw [tO]
  have d:=h.doors.2 i hi
  exact ⟨d.id,d.bld,d.str,d.num,d.after,Nat.le_of_ble_eq_true rfl⟩
 ·rw [vG e]; exact h.doors.2 i hi
theorem g1 {l:Sq Of} {s:Sta} (hb:bgO l) {a:Nat} (hg:aE (!kR l) cT (.s a) true (!gA s)=false):l.n<=1000000/\(l.n<=64->okO l):=by
 rw [aD,Bool.or_eq_false_iff] at hg
 exact D0 (by simpa using hg.1) hb
theorem g2 {l:Sq Of} {s:Sta} {a b:Nat} (hg:aE (aE (!kR l) cT (.s a) true (!gA s)) cT (.s b) true (!vdV l)=false):kJ s:=by
 rw [aD,aD,Bool.or_eq_false_iff,Bool.or_eq_false_iff] at hg
 exact H7 (by simpa using hg.1.2)
theorem rY {i q:Nat} (e:¬ i=q):Nat.beq i q=false:=by
 cases hb:Nat.beq i q with
 | false=>rfl
 | true=>exact absurd (Nat.eq_of_beq_eq_true hb) e
theorem el8 {K:Keep} {hp:List (Nat×aG)} {m:Nat} (hK:loose K=true) {s:Sta} {k:Nat} (j:Nat):oQ K (sub K hp (m+30)) (bif Nat.beq (0+j) (0+k) then drL { s.doors.f (0+k) with veil:=oth } else drL (s.doors.f (0+j))) (drL ((vl s k oth).doors.f j)):=by
 rw [Nat.zero_add,Nat.zero_add]
 by_cases e:j=k
 ·subst e
  rw [Nat.beq_refl,cond_true,tO]
  exact Or.inl (fT K hp m _ hK)
 ·rw [rY e,cond_false,vG e]
  exact Or.inl (fT K hp m _ hK)
def g8:List Nat:=[1,43,2,66,78,12,13,14,15,4,8,16,17,18,134,0,139,7,11,10,9,6]
def c8:aH :=
 .seq (.region g8 [(zo 4 (.box 30 (.s 1))),(zo 6 (.move cF))]) (.seq (.region g8 [(zo 19 (.call (.c (.fn 9)) [])),(mv 7 19)]) (.seq (.seq (.region g8 [(mv 20 0),(zo 21 (.call (.c (.fn 10)) [.s 20])),(zo 22 (.not (.s 21))),(mv 23 22),(zg 24 23 false (.load 7 true (.s 4))),(zg 25 23 false (.call (.c (.fn 11)) [.s 24])),(zg 26 23 false (.not (.s 25))),(zo 27 (.pick (.s 23) cT (.s 26))),(mv 28 27),(mg 29 28 false 0),(zg 30 28 false (.call (.c (.fn 20)) [.s 29])),(zg 31 28 false (.not (.s 30))),(zo 32 (.pick (.s 28) cT (.s 31))),(mv 33 32),(zg 34 33 false (.load 7 true (.s 4))),(zg 35 33 false (.call (.c (.fn 24)) [.s 34])),(zg 36 33 false (.not (.s 35))),(zo 37 (.pick (.s 33) cT (.s 36))),(mv 38 37),(fg 39 38 false 3 4),(lg 40 38 false 39),(zg 41 38 false (.lenSl (.s 40))),(zg 42 38 false (.bin (.eql) (.s 41) (cj 0))),(zo 43 (.pick (.s 38) cT (.s 42)))]) (.cond (.s 43) (.seq (.region g8 [(mv 44 7),(mv 6 44)]) .ret) .skip)) (.seq (.region g8 [(mv 45 2),(zo 46 (.cnv .i64 (.s 45))),(fa 47 3 4),(ld 48 47),(zo 49 (.lenSl (.s 48))),(zo 50 (.bin (.rem) (.s 46) (.s 49))),(mv 8 50)]) (.seq (.region g8 [(fa 51 3 4),(ld 52 51),(mv 53 8),(zo 54 (.idxSl 16 (.s 52) (.s 53))),(zo 55 (.load 16 true (.s 54))),(zo 9 (.alloc 55 (.cons (.str []) (.cons (.str []) (.cons (.str []) (.cons (.int .i64 0) (.cons (.int .i64 0) (.cons (.str []) (.cons (.int .i64 0) (.cons (.int .i64 0) (.cons (.int .i64 0) (.cons (.int .i64 0) (.cons (.int .i64 0) (.cons (.int .i64 0) (.cons (.nilsl) (.cons (.int .i64 0) (.cons (.int .i64 0) (.cons (.str []) .nil)))))))))))))))))),⟨none,none,.store 16 (.s 9) (.s 55),[]⟩]) (.seq (.region g8 [(mv 57 0),(zo 58 (.load 7 true (.s 4))),(fa 59 0 9),(ld 60 59),(zo 61 (.call (.c (.fn 18)) [.s 57,.s 58,.s 60])),(mv 56 61),(zo 62 (.extract 0 (.s 56))),(zo 63 (.extract 1 (.s 56))),(mv 10 62),(mv 11 63)]) (.seq (.seq (.region g8 [(fa 64 11 9),(ld 65 64),(zo 66 (.bin (.neq) (.s 65) (cj (-1))))]) (.cond (.s 66) (.seq (.region g8 [(mv 67 7),(mv 68 67),(mg 69 68 true 11),(zg 70 68 true (.bin (.eql) (.s 69) (cj 11))),(zo 71 (.pick (.s 68) (.s 70) cF)),(mv 72 71),(mg 73 72 true 10),(zg 74 72 true (.bin (.eql) (.s 73) (cj 0))),(zo 75 (.pick (.s 72) (.s 74) cF)),(mv 6 75)]) .ret) .skip)) (.seq (.seq (.region g8 [(fa 76 15 9),(ld 77 76),(zo 78 (.bin (.eql) (.s 77) (.c (.str []))))]) (.cond (.s 78) (.seq (.region g8 [(zo 80 (.load 7 true (.s 4))),(fa 81 0 9),(ld 82 81),(zo 83 (.call (.c (.fn 25)) [.s 80,.s 82])),(mv 79 83),(zo 84 (.extract 0 (.s 79))),(zo 85 (.extract 1 (.s 79))),(zo 12 (.alloc 57 (.cons (.str []) (.cons (.str []) (.cons (.str []) (.cons (.str []) (.cons (.str []) (.cons (.int .i64 0) (.cons (.str []) (.cons (.int .i64 0) (.cons (.int .i64 0) (.cons (.int .i64 0) (.cons (.int .i64 0) .nil))))))))))))),⟨none,none,.store 11 (.s 12) (.s 84),[]⟩,(mv 13 85)]) (.seq (.region g8 [(mv 87 0),(fa 88 2 12),(ld 89 88),(zo 90 (.call (.c (.fn 16)) [.s 87,.s 89])),(mv 86 90),(zo 91 (.extract 0 (.s 86))),(zo 92 (.extract 1 (.s 86))),(mv 14 91),(mv 15 92)]) (.seq (.region g8 [(mv 93 7),(mv 94 93),(mg 95 94 true 13),(zg 96 94 true (.bin (.eql) (.s 95) (cj 0))),(zo 97 (.pick (.s 94) (.s 96) cF)),(mv 98 97),(mg 99 98 true 10),(mg 100 98 true 14),(zg 101 98 true (.bin (.eql) (.s 99) (.s 100))),(zo 102 (.pick (.s 98) (.s 101) cF)),(mv 103 102),(mg 104 103 true 11),(mg 105 103 true 15),(zg 106 103 true (.bin (.eql) (.s 104) (.s 105))),(zo 107 (.pick (.s 103) (.s 106) cF)),(mv 6 107)]) .ret))) .skip)) (.seq (.region g8 [(zo 108 (.load 7 true (.s 4))),(zo 16 (.alloc 30 (.cons (.nilsl) (.cons (.nilsl) (.cons (.nilsl) (.cons (.nilsl) (.cons (.nilsl) (.cons (.nilsl) (.cons (.nilsl) .nil))))))))),⟨none,none,.store 7 (.s 16) (.s 108),[]⟩]) (.seq (.region g8 [(zo 109 (.buildSl 55 16 0 (.cons (.str []) (.cons (.str []) (.cons (.str []) (.cons (.int .i64 0) (.cons (.int .i64 0) (.cons (.str []) (.cons (.int .i64 0) (.cons (.int .i64 0) (.cons (.int .i64 0) (.cons (.int .i64 0) (.cons (.int .i64 0) (.cons (.int .i64 0) (.cons (.nilsl) (.cons (.int .i64 0) (.cons (.int .i64 0) (.cons (.str []) .nil)))))))))))))))) [])),(fa 110 3 4),(ld 111 110),(zo 112 (.app 55 16 184 (.s 109) (.s 111))),(fa 113 3 16),⟨none,none,.store 1 (.s 113) (.s 112),[]⟩]) (.seq (.region g8 [(fa 114 3 16),(ld 115 114),(mv 116 8),(zo 117 (.idxSl 16 (.s 115) (.s 116))),(fa 118 15 117),⟨none,none,.store 1 (.s 118) (.c (.str [111,116,104,101,114])),[]⟩]) (.seq (.region g8 [(mv 120 0),(zo 121 (.load 7 true (.s 16))),(fa 122 0 9),(ld 123 122),(zo 124 (.call (.c (.fn 18)) [.s 120,.s 121,.s 123])),(mv 119 124),(zo 125 (.extract 0 (.s 119))),(zo 126 (.extract 1 (.s 119))),(mv 17 125),(mv 18 126)]) (.seq (.seq (.region g8 [(mv 127 10),(mv 128 17),(zo 129 (.bin (.neq) (.s 127) (.s 128))),(mv 130 129),(mg 131 130 false 11),(mg 132 130 false 18),(zg 133 130 false (.bin (.neq) (.s 131) (.s 132))),(zo 134 (.pick (.s 130) cT (.s 133)))]) (.cond (.s 134) (.seq (.region g8 [(zo 6 (.move cF))]) .ret) .skip)) (.seq (.seq (.region g8 [(fa 135 14 9),(ld 136 135),(mv 137 0),(zo 138 (.lenSl (.s 137))),(zo 139 (.bin (.geq) (.s 136) (.s 138)))]) (.cond (.s 139) (.seq (.region g8 [(mv 140 7),(mv 141 140),(mg 142 141 true 11),(zg 143 141 true (.bin (.eql) (.s 142) (cj 9))),(zo 144 (.pick (.s 141) (.s 143) cF)),(mv 6 144)]) .ret) .skip)) (.seq (.region g8 [(mv 145 7),(mv 146 145),(mg 147 146 true 11),(zg 148 146 true (.bin (.eql) (.s 147) (cj 0))),(zo 149 (.pick (.s 146) (.s 148) cF)),(mv 150 149),(mg 151 150 true 10),(fg 152 150 true 14 9),(lg 153 150 true 152),(zg 154 150 true (.bin (.eql) (.s 151) (.s 153))),(zo 155 (.pick (.s 150) (.s 154) cF)),(mv 6 155)]) .ret))))))))))))))
theorem e8:aI Tryz.prog 8 g8 [] [61,83,90,124] []=some (c8,[.slot 6],156):=by kernel_rfl
attribute [local irreducible] kR gA vdV prV tgT adT xM
def Uq:Eng.Spec where
 X:=Sq Of×Sta×Int
 args:=fun (l,s,m)=>.cons (ofE l) (.cons (kM s) (.cons (.int .u8 m) .nil))
 pre:=fun x=>bgO x.1/\bgS x.2.1/\0<=x.2.2/\x.2.2<=255
 res:=fun _=>.bool true
 inst:=fun _=>none
set_option maxHeartbeats 16000000 in
theorem Mp:Uq.Ok Tryz.prog 8:=by
 refine Eng.Spec.okR e8 .nil (fun _=>[(9,.p Og),(10,.p Ug),(11,.p Uh),(20,.p vdS),(24,.p prS),(18,.m Wq),(25,.m Pd),(16,.m Sn)]) (fun _ _=>aA.p Mi (aA.p Qj (aA.p Qk (aA.p As (aA.p Oy (aA.m Nv (aA.m Dl (aA.m Ef aA.nil)))))))) ?_
 rintro ⟨l,s,m⟩ ⟨(hb:bgO l),(hbs:bgS s),(a0:0<=m),(a1:m<=255)⟩
 refine ⟨trivial,?_⟩
 repeat' (first|exact hb|exact hbs|refine fun hg=>And.intro (g1 hb hg) ?_|refine fun hg=>And.intro (g2 hg) ?_|apply And.intro|exact trivial|exact rfl|exact lz fun _=>rfl|exact S1.zz rfl|refine gd ?_)
 ·refine fun _=>?_
  repeat' (first|apply And.intro|exact trivial|exact rfl|exact lz fun _=>rfl|exact S1.zz rfl|refine gd ?_)
 refine fun (hc0:aE (aE (aE (aE (!kR l) cT (.s 26) true (!gA s)) cT (.s 31) true (!vdV l)) cT (.s 36) true (!prV s)) cT (.s 42) true (decide ((s.doors.n:Int)=0))=false)=>?_
 rw [aD,aD,aD,aD] at hc0
 simp only [Bool.or_eq_false_iff,Bool.not_eq_false',decide_eq_false_iff_not] at hc0
 obtain ⟨⟨⟨⟨hf,hfs⟩,hv⟩,hp⟩,hn0⟩:=hc0
 have hpre:=D0 hf hb
 have hs:=H7 hfs
 have hdn:=hs.doors.1
 have hn1:(0:Int) < (s.doors.n:Int):=by omega
 have t0:0<=Int.tmod m (s.doors.n:Int):=Int.tmod_nonneg _ a0
 have t1:Int.tmod m (s.doors.n:Int) < (s.doors.n:Int):=Int.tmod_lt_of_pos _ hn1
 have hk:(Int.tmod m (s.doors.n:Int)).toNat < s.doors.n:=by omega
 have w1:-9223372036854775808<=m:=by omega
 have w2:m<=9223372036854775807:=by omega
 have hid:okT (s.doors.f (Int.tmod m (s.doors.n:Int)).toNat).id:=(hs.doors.2 _ hk).id
 repeat' (first|with_reducible exact w1|with_reducible exact w2|exact hn0|exact And.intro t0 t1|apply And.intro|exact trivial|exact rfl|exact lz fun _=>rfl|exact S1.zz rfl|refine gd ?_)
 refine Exists.intro (l,s,(s.doors.f (Int.tmod m (s.doors.n:Int)).toNat).id) (Exists.intro [] ?_)
 repeat' (first|exact hpre.1|exact hpre.2|exact hs|exact hid|apply And.intro|exact trivial|exact rfl|exact lz fun _=>rfl|exact S1.zz rfl|refine gd ?_)
 rintro (y:Int×Int) (hy:y=tgT l s (s.doors.f (Int.tmod m (s.doors.n:Int)).toNat).id)
 repeat' (first|apply And.intro|exact trivial|exact rfl|exact lz fun _=>rfl|exact S1.zz rfl|refine gd ?_)
 ·refine fun (hc:(!decide ((s.doors.f (Int.tmod m (s.doors.n:Int)).toNat).ended=-1))=true)=>?_
  have he:¬ (s.doors.f (Int.tmod m (s.doors.n:Int)).toNat).ended=-1:=by simpa using hc
  rw [Sy hv hp hk he] at hy
  have tt:=fun (i j:Nat)=>lG (k:=j) (lG (k:=i) rfl (decide_eq_true (show y.2=11 by rw [hy]))) (decide_eq_true (show y.1=0 by rw [hy]))
  repeat' (first|exact tt _ _|apply And.intro|exact trivial|exact rfl|exact lz fun _=>rfl|exact S1.zz rfl|refine gd ?_)
 refine fun (hc:(!decide ((s.doors.f (Int.tmod m (s.doors.n:Int)).toNat).ended=-1))=false)=>?_
 have he:(s.doors.f (Int.tmod m (s.doors.n:Int)).toNat).ended=-1:=by simpa using hc
 repeat' (first|apply And.intro|exact trivial|exact rfl|exact lz fun _=>rfl|exact S1.zz rfl|refine gd ?_)
 ·refine fun (hc:decide ((s.doors.f (Int.tmod m (s.doors.n:Int)).toNat).veil=[])=true)=>?_
  have hw:(s.doors.f (Int.tmod m (s.doors.n:Int)).toNat).veil=[]:=of_decide_eq_true hc
  repeat' (first|apply And.intro|exact trivial|exact rfl|exact lz fun _=>rfl|exact S1.zz rfl|refine gd ?_)
  refine Exists.intro (s,(s.doors.f (Int.tmod m (s.doors.n:Int)).toNat).id) (Exists.intro [] ?_)
  repeat' (first|exact hs|exact hid|apply And.intro|exact trivial|exact rfl|exact lz fun _=>rfl|exact S1.zz rfl|refine gd ?_)
  rintro (u:Adr×Int) (hu:u=adT s (s.doors.f (Int.tmod m (s.doors.n:Int)).toNat).id)
  repeat' (first|apply And.intro|exact trivial|exact rfl|exact lz fun _=>rfl|exact S1.zz rfl|refine gd ?_)
  refine Exists.intro (l,u.1.code) (Exists.intro [] ?_)
  repeat' (first|exact hpre.1|exact hpre.2|apply And.intro|exact trivial|exact rfl|exact lz fun _=>rfl|exact S1.zz rfl|refine gd ?_)
  rintro (z:Int×Int) (hz:z=xM l u.1.code)
  have r0:decide (u.2=0)=true:=decide_eq_true (by rw [hu]; exact Dk hp hk he hw)
  have hyz:y=z:=by rw [hy,Nu hv hp hk he hw,hz,hu]
  have tt:=fun (i j n:Nat)=>lG (k:=n) (lG (k:=j) (lG (k:=i) rfl r0) (decide_eq_true (show y.1=z.1 by rw [hyz]))) (decide_eq_true (show y.2=z.2 by rw [hyz]))
  repeat' (first|exact tt _ _ _|apply And.intro|exact trivial|exact rfl|exact lz fun _=>rfl|exact S1.zz rfl|refine gd ?_)
 refine fun (hc:decide ((s.doors.f (Int.tmod m (s.doors.n:Int)).toNat).veil=[])=false)=>?_
 have hw:¬ (s.doors.f (Int.tmod m (s.doors.n:Int)).toNat).veil=[]:=of_decide_eq_false hc
 have m1:s.doors.n<=9223372036854775807:=by omega
 have m2:s.doors.n * 184<=140737488355328:=by omega
 have m3:0+(Int.tmod m (s.doors.n:Int)).toNat < s.doors.n:=by omega
 repeat' (first|exact And.intro t0 t1|with_reducible exact m1|with_reducible exact m2|with_reducible exact m3|exact fun (j:Nat) (_:j < _)=>(rfl:dX (drL _)=true)|apply And.intro|exact trivial|exact rfl|exact lz fun _=>rfl|exact S1.zz rfl|refine gd ?_)
 have q1:kJ (vl s (Int.tmod m (s.doors.n:Int)).toNat oth):=Wv hs hk
 have q2:0+s.doors.n<=s.doors.n:=Nat.le_of_eq (Nat.zero_add _)
 refine Exists.intro (l,vl s (Int.tmod m (s.doors.n:Int)).toNat oth,(s.doors.f (Int.tmod m (s.doors.n:Int)).toNat).id) (Exists.intro [] ?_)
 repeat' (first|exact hpre.1|exact hpre.2|exact q1|exact hid|with_reducible exact q2|exact fun (j:Nat) (_:j < _)=>el8 rfl j|apply And.intro|exact trivial|exact rfl|exact lz fun _=>rfl|exact S1.zz rfl|refine gd ?_)
 rintro (z:Int×Int) (hz:z=tgT l (vl s (Int.tmod m (s.doors.n:Int)).toNat oth) (s.doors.f (Int.tmod m (s.doors.n:Int)).toNat).id)
 rw [Wp hv hp hk he hw] at hz
 have hyz:y=z:=hy.trans hz.symm
 have r1:(!decide (y.1=z.1))=false:=by rw [hyz]; simp
 have r2:(!decide (y.2=z.2))=false:=by rw [hyz]; simp
 have rr:=fun (i:Nat)=>R1 (k:=i) r1 r2
 rw [Dd hv hp hk he hw] at hy
 repeat' (first|apply And.intro|exact trivial|exact rfl|exact lz fun _=>rfl|exact S1.zz rfl|refine gd ?_)
 ·exact fun hc=>Bool.noConfusion (hc.symm.trans (rr _))
 refine fun _=>?_
 repeat' (first|apply And.intro|exact trivial|exact rfl|exact lz fun _=>rfl|exact S1.zz rfl|refine gd ?_)
 ·refine fun (hc:decide ((l.n:Int)<=(s.doors.f (Int.tmod m (s.doors.n:Int)).toNat).office)=true)=>?_
  rw [if_pos (of_decide_eq_true hc)] at hy
  have tt:=fun (i:Nat)=>lG (k:=i) rfl (decide_eq_true (show y.2=9 by rw [hy]))
  repeat' (first|exact tt _|apply And.intro|exact trivial|exact rfl|exact lz fun _=>rfl|exact S1.zz rfl|refine gd ?_)
 ·refine fun (hc:decide ((l.n:Int)<=(s.doors.f (Int.tmod m (s.doors.n:Int)).toNat).office)=false)=>?_
  rw [if_neg (of_decide_eq_false hc)] at hy
  have tt:=fun (i j:Nat)=>lG (k:=j) (lG (k:=i) rfl (decide_eq_true (show y.2=0 by rw [hy]))) (decide_eq_true (show y.1=(s.doors.f (Int.tmod m (s.doors.n:Int)).toNat).office by rw [hy]))
  repeat' (first|exact tt _ _|apply And.intro|exact trivial|exact rfl|exact lz fun _=>rfl|exact S1.zz rfl|refine gd ?_)
end S45
