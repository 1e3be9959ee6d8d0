/- A part of the proof. -/
import Derived.Test.YtpiolkcdfgiefaaGreatDoorL5
import Derived.Lib.IndexLaws
import Derived.Test.YtpiolkcdfgiefaaGreatDoorProg
import Derived.Ground.NamesProg
import Derived.Ground.GgwProg
import Derived.KernelRfl
import Derived.Shelf.Strconv.AtoiAll
import Derived.Shelf.Strconv.Itoa3
import Derived.Shelf.Strings.Cut
import Derived.Shelf.Strings.Split
import Derived.Shelf.Strings.Prefix
import Derived.Shelf.Strings.OnBuilder
import Derived.Shelf.Strings.IndexAnyAll
import Derived.Shelf.GgClosure.StringsRunes
import Derived.Test.YtpiolkcdfgiefaaGreatDoorT2
section
open Go Go.Eng Go.Proofs L1 L2 L3 L4
set_option maxRecDepth 100000
namespace L6
def w1 (t:List UInt8) (f:Nat->Int) (j:Int):Int:=j+(whl ⟨t,f,j,1,fun _=>1⟩:Nat)
def nl (t:List UInt8) (j:Int):Int:=Lib.indexByte (t.drop j.toNat) 10
def tl (t:List UInt8) (f:Nat->Int):Nat->Int->Int
 | 0,j=>j
 | m+1,j=>if atV t f j=2 then (if nl t j < 0 then t.length else tl t f m (w1 t f (j+nl t j))) else j
def gap (t:List UInt8) (f:Nat->Int) (i:Int):Int:=tl t f (t.length+1) (w1 t f i)
theorem whl1 {t:List UInt8} {f:Nat->Int} {j:Int} {cs:Nat->Int} (h:cs 0=1):whl ⟨t,f,j,1,cs⟩=whl ⟨t,f,j,1,fun _=>1⟩:=by
 have e:Ed f 1 cs=Ed f 1 fun _=>1:=by
  funext b
  unfold Ed
  have:(∃ i,i < 1/\cs i=f b.toNat) ↔ (∃ i,i < 1/\(1:Int)=f b.toNat) :=
   ⟨fun ⟨i,h1,h2⟩=>⟨0,by omega,by rw [<- h2,show i=0 by omega,h]⟩,fun ⟨i,h1,h2⟩=>⟨0,by omega,by rw [h]; exact h2⟩⟩
  simp only [this]
 unfold whl
 simp only [e]
theorem Hr {t:List UInt8} {f:Nat->Int} {j:Int} (h0:0<=j) (h1:j<=(t.length:Int)):j<=w1 t f j/\w1 t f j<=(t.length:Int):=by
 have h:whl ⟨t,f,j,1,fun _=>1⟩<=t.length - j.toNat:=sN
 unfold w1
 omega
theorem Rd {t:List UInt8} {f:Nat->Int} {j:Int} (h0:0<=j) (h1:j<=(t.length:Int)) (h3:f 10≠2) (hg:atV t f j=2) (hn:¬ nl t j < 0):nl t j+j < (t.length:Int)/\1<=nl t j:=by
 have hs:=Lib.indexByte_some (l:=t.drop j.toNat) (c:=10) (o:=(nl t j).toNat) (by show nl t j=_; omega)
 obtain ⟨hs,_⟩:=hs
 rw [List.getElem?_drop] at hs
 obtain ⟨hl,he⟩:=List.getElem?_eq_some_iff.1 hs
 refine ⟨by omega,?_⟩
 by_cases e:nl t j=0
 ·exfalso
  apply h3
  unfold atV at hg
  have hj:¬ (j>=(t.length:Int)):=by omega
  rw [decide_eq_false hj,cond_false] at hg
  have e2:t.getD j.toNat 0=10:=by
   rw [List.getD_eq_getElem?_getD]
   rw [e] at hs
   simp only [Int.toNat_zero,Nat.add_zero] at hs
   rw [hs]; rfl
  rw [e2] at hg
  exact hg
 ·omega
def g94:List Nat:=[13,26,5,0,1,4]
def c94:aF :=
 .seq (.region g94 [(zo 4 (.move (cj 0)))]) (.seq (.seq (.region g94 [(mv 6 0),(mv 7 1),(zo 8 (.buildSl 3 1 1 (.cons (.int .i64 0) .nil) [(0,1,cj 1)])),(zo 9 (.call (.c (.fn 116)) [.s 6,.s 7,.s 8])),(mv 1 9)]) (.block 0 (.loop 0 [10,11,12,13,18,19,20,21,22,23,24,5,25,26,27,28,29,30,31,4,32,33,34,14,15,16,17,1] (.seq (.seq (.region g94 [(mv 10 0),(mv 11 1),(zo 12 (.call (.c (.fn 117)) [.s 10,.s 11])),(zo 13 (.bin (.eql) (.s 12) (cj 2)))]) (.cond (.s 13) .skip (.exit 0))) (.seq (.block 1 (.seq (.region g94 [(mv 18 0),(zo 19 (.nilCheck (.s 18))),(fa 20 0 19),(ld 21 20),(mv 22 1),(zo 23 (.sliceStr (.s 21) (some (.s 22)) none)),(zo 24 (.call (.c (.fn 118)) [.s 23,.c (.int (.u8) 10)])),(mv 5 24)]) (.seq (.seq (.region g94 [(mv 25 5),(zo 26 (.bin (.lss) (.s 25) (cj 0)))]) (.cond (.s 26) (.seq (.region g94 [(mv 27 0),(zo 28 (.nilCheck (.s 27))),(fa 29 0 28),(ld 30 29),(zo 31 (.lenStr (.s 30))),(mv 4 31)]) .ret) .skip)) (.region g94 [(mv 32 1),(mv 33 5),(zo 34 (.bin (.add) (.s 32) (.s 33))),(mv 1 34)])))) (.region g94 [(mv 14 0),(mv 15 1),(zo 16 (.buildSl 3 1 1 (.cons (.int .i64 0) .nil) [(0,1,cj 1)])),(zo 17 (.call (.c (.fn 116)) [.s 14,.s 15,.s 16])),(mv 1 17)])))))) (.seq (.region g94 [(mv 35 1),(mv 4 35)]) .ret))
theorem e94:aO Tryz.prog 94 g94 [] [] []=some (c94,[.slot 4],36):=by kernel_rfl
def U9:Eng.Spec where
 X:=AtX
 args:=atS.args
 pre:=fun x=>0<=x.2.2/\x.2.2<=(x.1.length:Int)/\x.1.length<=1000000/\x.2.1 10≠2
 res:=fun x=>.int .i64 (gap x.1 x.2.1 x.2.2)
 inst:=atS.inst
theorem S3:U9.Ok Tryz.prog 94:=by
 refine Eng.Spec.oU e94 .nil (fun _=>[(116,.p Ug),(117,.p atS),(118,.p jQ)]) (fun _ _=>aD.p Nx (aD.p wN (aD.p L5.indexByte aD.nil))) ?_
 rintro ⟨t,f,i⟩ ⟨(h0:0<=i),(h1:i<=(t.length:Int)),(h2:t.length<=1000000),(h3:f 10≠2)⟩
 refine ⟨trivial,?_⟩
 repeat' (first|apply And.intro|exact trivial|exact rfl|exact fun (j:Nat) (_:j < 256)=>rfl|exact h0|exact h1|exact h2)
 ·exact (by decide:(1:Nat)<=1000000)
 have ew:∀ (j:Int) (cs:Nat->Int),cs 0=1->j+((whl ⟨t,f,j,1,cs⟩:Nat):Int)=w1 t f j:=fun j cs h=>by unfold w1; rw [whl1 h]
 refine ⟨⟨Nat×Int,fun x=>(0<=x.2/\x.2<=(t.length:Int))/\(t.length:Int) - x.2 < x.1/\tl t f x.1 x.2=gap t f i,fun x=>[(1,.int .i64 x.2)],fun _=>[],fun x=>x.1⟩,(t.length+1,w1 t f i),?_,?_,?_⟩
 ·obtain ⟨w2,w3⟩:=Hr (f:=f) h0 h1
  exact ⟨⟨by show 0<=w1 t f i; omega,w3⟩,by show (t.length:Int) - w1 t f i < ((t.length+1:Nat):Int); omega,rfl⟩
 ·repeat' (first|apply And.intro|exact trivial|exact rfl|exact fun (j:Nat) (_:j < 256)=>rfl|exact ew _ _ rfl)
 rintro ⟨m,j⟩ ⟨⟨(k0:0<=j),(k1:j<=(t.length:Int))⟩,(k2:(t.length:Int) - j < m),(k3:tl t f m j=gap t f i)⟩
 obtain ⟨m,rfl⟩:∃ q,m=q+1:=⟨m - 1,by omega⟩
 repeat' (first|apply And.intro|exact trivial|exact rfl|exact fun (j:Nat) (_:j < 256)=>rfl|exact k0)
 ·refine fun (hg:decide (atV t f j=2)=true)=>?_
  have hg:=of_decide_eq_true hg
  rw [tl,if_pos hg] at k3
  repeat' (first|apply And.intro|exact trivial|exact rfl|exact fun (j:Nat) (_:j < 256)=>rfl|exact k0|exact k1)
  ·refine fun (hn:decide (nl t j < 0)=true)=>?_
   have hn:=of_decide_eq_true hn
   have e:(t.length:Int)=gap t f i:=by rw [<- k3,if_pos hn]
   repeat' (first|apply And.intro|exact trivial|exact rfl|exact e)
  ·refine fun (hn:decide (nl t j < 0)=false)=>?_
   have hn:=of_decide_eq_false hn
   rw [if_neg hn] at k3
   have n1:nl t j+j < (t.length:Int)/\1<=nl t j:=Rd k0 k1 h3 hg hn
   obtain ⟨n1,n2⟩:=n1
   have b1:-9223372036854775808<=j+nl t j:=by omega
   have b2:j+nl t j<=9223372036854775807:=by omega
   have c1:0<=j+nl t j:=by omega
   have c2:j+nl t j<=(t.length:Int):=by omega
   repeat' (first|apply And.intro|exact trivial|exact rfl|exact fun (j:Nat) (_:j < 256)=>rfl|exact b1|exact b2|exact c1|exact c2|exact h2)
   ·exact (by decide:(1:Nat)<=1000000)
   obtain ⟨w2,w3⟩:=Hr (f:=f) c1 c2
   have w4:0<=w1 t f (j+nl t j):=by omega
   have w5:(t.length:Int) - w1 t f (j+nl t j) < (m:Int):=by omega
   refine Exists.intro (m,w1 t f (j+nl t j)) ?_
   repeat' (first|apply And.intro|exact trivial|exact rfl|exact fun (j:Nat) (_:j < 256)=>rfl|exact ew _ _ rfl|exact w4|exact w3|exact w5|exact k3)
   exact Nat.lt_succ_self m
 ·refine fun (hg:decide (atV t f j=2)=false)=>?_
  have hg:=of_decide_eq_false hg
  have e:j=gap t f i:=by rw [<- k3,tl,if_neg hg]
  repeat' (first|apply And.intro|exact trivial|exact rfl|exact e)
end L6
end
section
namespace Go.Proofs
open Go.Shelf
set_option maxRecDepth 100000
def Tryz.Bp:Go.Shelf.Ren:=⟨fun|172=>119|244=>139|245=>140|247=>156|279=>157|280=>158|281=>159|282=>160|287=>173|316=>174|171=>52|205=>175|321=>182|322=>183|243=>76|246=>103|283=>126|284=>127|285=>128|286=>129|129=>146|317=>145|318=>147|319=>148|320=>149|337=>171|338=>172|n=>n,fun|9=>9|3=>3|75=>91|76=>92|4=>4|5=>5|167=>185|37=>87|0=>0|85=>186|2=>2|168=>188|53=>109|175=>200|46=>103|210=>203|127=>123|145=>216|143=>214|21=>21|171=>157|173=>160|212=>176|51=>163|20=>20|213=>177|232=>211|233=>212|80=>45|n=>n,fun|15=>4|16=>5|17=>0|18=>6|19=>7|n=>n⟩
theorem Tryz.G8:Go.Proofs.LaysC.n172 Tryz.prog Tryz.Bp:={
 mixed:=by kernel_rfl
 f129:=Tryz.func146.trans (congrArg some (by kernel_rfl))
 f171:=Tryz.func52.trans (congrArg some (by kernel_rfl))
 f172:=Tryz.func119.trans (congrArg some (by kernel_rfl))
 f205:=Tryz.func175.trans (congrArg some (by kernel_rfl))
 f243:=Tryz.func76.trans (congrArg some (by kernel_rfl))
 f244:=Tryz.func139.trans (congrArg some (by kernel_rfl))
 f245:=Tryz.func140.trans (congrArg some (by kernel_rfl))
 f246:=Tryz.func103.trans (congrArg some (by kernel_rfl))
 f247:=Tryz.func156.trans (congrArg some (by kernel_rfl))
 f279:=Tryz.func157.trans (congrArg some (by kernel_rfl))
 f280:=Tryz.func158.trans (congrArg some (by kernel_rfl))
 f281:=Tryz.func159.trans (congrArg some (by kernel_rfl))
 f282:=Tryz.func160.trans (congrArg some (by kernel_rfl))
 f283:=Tryz.func126.trans (congrArg some (by kernel_rfl))
 f284:=Tryz.func127.trans (congrArg some (by kernel_rfl))
 f285:=Tryz.func128.trans (congrArg some (by kernel_rfl))
 f286:=Tryz.func129.trans (congrArg some (by kernel_rfl))
 f287:=Tryz.func173.trans (congrArg some (by kernel_rfl))
 f316:=Tryz.func174.trans (congrArg some (by kernel_rfl))
 f317:=Tryz.func145.trans (congrArg some (by kernel_rfl))
 f318:=Tryz.func147.trans (congrArg some (by kernel_rfl))
 f319:=Tryz.func148.trans (congrArg some (by kernel_rfl))
 f320:=Tryz.func149.trans (congrArg some (by kernel_rfl))
 f321:=Tryz.func182.trans (congrArg some (by kernel_rfl))
 f322:=Tryz.func183.trans (congrArg some (by kernel_rfl))
 f337:=Tryz.func171.trans (congrArg some (by kernel_rfl))
 f338:=Tryz.func172.trans (congrArg some (by kernel_rfl))
 t0:=Tryz.underlying0
 a0:=Tryz.isAgg0
 z0:=Tryz.sizeOf0
 v0:=Tryz.zeroValue0
 t2:=Tryz.underlying2
 a2:=Tryz.isAgg2
 z2:=Tryz.sizeOf2
 v2:=Tryz.zeroValue2
 t3:=Tryz.underlying3
 a3:=Tryz.isAgg3
 z3:=Tryz.sizeOf3
 v3:=Tryz.zeroValue3
 t4:=Tryz.underlying4
 a4:=Tryz.isAgg4
 z4:=Tryz.sizeOf4
 v4:=Tryz.zeroValue4
 t5:=Tryz.underlying5
 a5:=Tryz.isAgg5
 z5:=Tryz.sizeOf5
 v5:=Tryz.zeroValue5
 t9:=Tryz.underlying9
 a9:=Tryz.isAgg9
 z9:=Tryz.sizeOf9
 v9:=Tryz.zeroValue9
 t20:=Tryz.underlying20
 a20:=Tryz.isAgg20
 z20:=Tryz.sizeOf20
 v20:=Tryz.zeroValue20
 t21:=Tryz.underlying21
 a21:=Tryz.isAgg21
 z21:=Tryz.sizeOf21
 v21:=Tryz.zeroValue21
 t37:=Tryz.underlying87
 a37:=Tryz.isAgg87
 z37:=Tryz.sizeOf87
 v37:=Tryz.zeroValue87
 t46:=Tryz.underlying103
 a46:=Tryz.isAgg103
 z46:=Tryz.sizeOf103
 v46:=Tryz.zeroValue103
 t51:=Tryz.underlying163
 a51:=Tryz.isAgg163
 z51:=Tryz.sizeOf163
 v51:=Tryz.zeroValue163
 t53:=Tryz.underlying109
 a53:=Tryz.isAgg109
 z53:=Tryz.sizeOf109
 v53:=Tryz.zeroValue109
 t75:=Tryz.underlying91
 a75:=Tryz.isAgg91
 z75:=Tryz.sizeOf91
 v75:=Tryz.zeroValue91
 t76:=Tryz.underlying92
 a76:=Tryz.isAgg92
 z76:=Tryz.sizeOf92
 v76:=Tryz.zeroValue92
 t85:=Tryz.underlying186
 a85:=Tryz.isAgg186
 z85:=Tryz.sizeOf186
 v85:=Tryz.zeroValue186
 t127:=Tryz.underlying123
 a127:=Tryz.isAgg123
 z127:=Tryz.sizeOf123
 v127:=Tryz.zeroValue123
 t143:=Tryz.underlying214
 a143:=Tryz.isAgg214
 z143:=Tryz.sizeOf214
 v143:=Tryz.zeroValue214
 t145:=Tryz.underlying216
 a145:=Tryz.isAgg216
 z145:=Tryz.sizeOf216
 v145:=Tryz.zeroValue216
 t167:=Tryz.underlying185
 a167:=Tryz.isAgg185
 z167:=Tryz.sizeOf185
 v167:=Tryz.zeroValue185
 t168:=Tryz.underlying188
 a168:=Tryz.isAgg188
 z168:=Tryz.sizeOf188
 v168:=Tryz.zeroValue188
 t171:=Tryz.underlying157
 a171:=Tryz.isAgg157
 z171:=Tryz.sizeOf157
 v171:=Tryz.zeroValue157
 t173:=Tryz.underlying160
 a173:=Tryz.isAgg160
 z173:=Tryz.sizeOf160
 v173:=Tryz.zeroValue160
 t175:=Tryz.underlying200
 a175:=Tryz.isAgg200
 z175:=Tryz.sizeOf200
 v175:=Tryz.zeroValue200
 t210:=Tryz.underlying203
 a210:=Tryz.isAgg203
 z210:=Tryz.sizeOf203
 v210:=Tryz.zeroValue203
 t212:=Tryz.underlying176
 a212:=Tryz.isAgg176
 z212:=Tryz.sizeOf176
 v212:=Tryz.zeroValue176
 t213:=Tryz.underlying177
 a213:=Tryz.isAgg177
 z213:=Tryz.sizeOf177
 t232:=Tryz.underlying211
 a232:=Tryz.isAgg211
 z232:=Tryz.sizeOf211
 v232:=Tryz.zeroValue211
 t233:=Tryz.underlying212
 a233:=Tryz.isAgg212
 z233:=Tryz.sizeOf212
 v233:=Tryz.zeroValue212
 g15:=by kernel_rfl
 g16:=by kernel_rfl
 g17:=by kernel_rfl
 g18:=by kernel_rfl
 g19:=by kernel_rfl
 t80:=Tryz.underlying45
 a80:=Tryz.isAgg45
 z80:=Tryz.sizeOf45
 v80:=Tryz.zeroValue45
 i0:=by kernel_rfl
 i2:=by kernel_rfl
 i3:=by kernel_rfl
 i4:=by kernel_rfl
 i5:=by kernel_rfl
 i9:=by kernel_rfl
 i20:=by kernel_rfl
 i21:=by kernel_rfl
 i37:=by kernel_rfl
 i46:=by kernel_rfl
 i51:=by kernel_rfl
 i53:=by kernel_rfl
 i75:=by kernel_rfl
 i76:=by kernel_rfl
 i80:=by kernel_rfl
 i85:=by kernel_rfl
 i127:=by kernel_rfl
 i143:=by kernel_rfl
 i145:=by kernel_rfl
 i167:=by kernel_rfl
 i168:=by kernel_rfl
 i171:=by kernel_rfl
 i173:=by kernel_rfl
 i175:=by kernel_rfl
 i210:=by kernel_rfl
 i212:=by kernel_rfl
 i232:=by kernel_rfl
 i233:=by kernel_rfl
 m15:=by kernel_rfl
 m16:=by kernel_rfl
 m17:=by kernel_rfl
 m18:=by kernel_rfl
 m19:=by kernel_rfl
 c0:=by kernel_rfl
 c2:=by kernel_rfl
 c3:=by kernel_rfl
 c4:=by kernel_rfl
 c5:=by kernel_rfl
 c9:=by kernel_rfl
 c20:=by kernel_rfl
 c21:=by kernel_rfl
 c37:=by kernel_rfl
 c46:=by kernel_rfl
 c51:=by kernel_rfl
 c53:=by kernel_rfl
 c75:=by kernel_rfl
 c76:=by kernel_rfl
 c80:=by kernel_rfl
 c85:=by kernel_rfl
 c127:=by kernel_rfl
 c143:=by kernel_rfl
 c145:=by kernel_rfl
 c167:=by kernel_rfl
 c168:=by kernel_rfl
 c171:=by kernel_rfl
 c173:=by kernel_rfl
 c175:=by kernel_rfl
 c210:=by kernel_rfl
 c212:=by kernel_rfl
 c213:=by kernel_rfl
 c232:=by kernel_rfl
 c233:=by kernel_rfl }
def Tryz.Bs:Go.Shelf.Ren:=⟨fun|153=>120|152=>131|226=>141|227=>83|228=>105|137=>118|119=>150|224=>151|225=>152|217=>138|266=>155|n=>n,fun|9=>9|3=>3|4=>4|5=>5|21=>21|117=>114|116=>113|0=>0|46=>103|124=>117|n=>n,fun n=>n⟩
theorem Tryz.lays153:Go.Proofs.Lays.n153 Tryz.prog Tryz.Bs:={
 mixed:=by kernel_rfl
 f119:=Tryz.func150.trans (congrArg some (by kernel_rfl))
 f137:=Tryz.func118.trans (congrArg some (by kernel_rfl))
 f152:=Tryz.func131.trans (congrArg some (by kernel_rfl))
 f153:=Tryz.func120.trans (congrArg some (by kernel_rfl))
 f217:=Tryz.func138.trans (congrArg some (by kernel_rfl))
 f224:=Tryz.func151.trans (congrArg some (by kernel_rfl))
 f225:=Tryz.func152.trans (congrArg some (by kernel_rfl))
 f226:=Tryz.func141.trans (congrArg some (by kernel_rfl))
 f227:=Tryz.func83.trans (congrArg some (by kernel_rfl))
 f228:=Tryz.func105.trans (congrArg some (by kernel_rfl))
 f266:=Tryz.func155.trans (congrArg some (by kernel_rfl))
 t0:=Tryz.underlying0
 a0:=Tryz.isAgg0
 z0:=Tryz.sizeOf0
 v0:=Tryz.zeroValue0
 t3:=Tryz.underlying3
 a3:=Tryz.isAgg3
 z3:=Tryz.sizeOf3
 v3:=Tryz.zeroValue3
 t4:=Tryz.underlying4
 a4:=Tryz.isAgg4
 z4:=Tryz.sizeOf4
 v4:=Tryz.zeroValue4
 t5:=Tryz.underlying5
 a5:=Tryz.isAgg5
 z5:=Tryz.sizeOf5
 v5:=Tryz.zeroValue5
 t9:=Tryz.underlying9
 a9:=Tryz.isAgg9
 z9:=Tryz.sizeOf9
 v9:=Tryz.zeroValue9
 t21:=Tryz.underlying21
 a21:=Tryz.isAgg21
 z21:=Tryz.sizeOf21
 v21:=Tryz.zeroValue21
 t46:=Tryz.underlying103
 a46:=Tryz.isAgg103
 z46:=Tryz.sizeOf103
 v46:=Tryz.zeroValue103
 t116:=Tryz.underlying113
 a116:=Tryz.isAgg113
 z116:=Tryz.sizeOf113
 t117:=Tryz.underlying114
 a117:=Tryz.isAgg114
 z117:=Tryz.sizeOf114
 v117:=Tryz.zeroValue114
 t124:=Tryz.underlying117
 a124:=Tryz.isAgg117
 z124:=Tryz.sizeOf117
 v124:=Tryz.zeroValue117 }
end Go.Proofs
end
section
open Go Go.Eng Go.Proofs
set_option maxRecDepth 100000
namespace V2
theorem atoi:jK.Ok Tryz.prog 119:=Dh rfl Tryz.G8 (by kernel_rfl) (by kernel_rfl) (enters_of Tryz.G8.f172 (by kernel_rfl) rfl)
end V2
end
