/- A part of the proof. -/
import Derived.Test.YtlfdokecdilkcaaGreatDoorProg
import Derived.Ground.NamesProg
import Derived.KernelRfl
import Derived.Test.YtlfdokecdilkcaaGreatDoorEngLib
import Derived.Lib.IndexLaws
import Derived.Ground.GgwProg
import Derived.Shelf.Strconv.AtoiAll
import Derived.Shelf.Strconv.Itoa3
import Derived.Shelf.Strings.Cut
import Derived.Shelf.Strings.Split
import Derived.Shelf.Strings.Prefix
import Derived.Shelf.Strings.OnBuilder
import Derived.Shelf.Strings.IndexAnyAll
import Derived.Shelf.GgClosure.StringsRunes
import Derived.Shelf.Strconv.Atoi
import Derived.Lib.SmallJoins
section
namespace Go.Proofs
open Go.Shelf
def Tryz.zZ:Go.Shelf.Ren:=⟨fun|137=>190|217=>174|266=>203|n=>n,fun|9=>9|5=>5|3=>3|n=>n,fun n=>n⟩
theorem Tryz.lays137:Go.Proofs.Lays.n137 Tryz.prog Tryz.zZ:={
 mixed:=by kernel_rfl
 f137:=Tryz.func190.trans (congrArg some (by kernel_rfl))
 f217:=Tryz.func174.trans (congrArg some (by kernel_rfl))
 f266:=Tryz.func203.trans (congrArg some (by kernel_rfl))
 t3:=Tryz.underlying3
 a3:=Tryz.isAgg3
 z3:=Tryz.sizeOf3
 v3:=Tryz.zeroValue3
 t5:=Tryz.underlying5
 a5:=Tryz.isAgg5
 z5:=Tryz.sizeOf5
 v5:=Tryz.zeroValue5
 t9:=Tryz.underlying9
 a9:=Tryz.isAgg9
 z9:=Tryz.sizeOf9
 v9:=Tryz.zeroValue9 }
def Tryz.Cr:Go.Shelf.Ren:=⟨fun|99=>192|206=>152|n=>n,fun|9=>9|4=>4|3=>3|n=>n,fun n=>n⟩
theorem Tryz.lays99:Go.Proofs.Lays.n99 Tryz.prog Tryz.Cr:={
 mixed:=by kernel_rfl
 f99:=Tryz.func192.trans (congrArg some (by kernel_rfl))
 f206:=Tryz.func152.trans (congrArg some (by kernel_rfl))
 t3:=Tryz.underlying3
 a3:=Tryz.isAgg3
 z3:=Tryz.sizeOf3
 v3:=Tryz.zeroValue3
 t4:=Tryz.underlying4
 a4:=Tryz.isAgg4
 z4:=Tryz.sizeOf4
 v4:=Tryz.zeroValue4
 t9:=Tryz.underlying9
 a9:=Tryz.isAgg9
 z9:=Tryz.sizeOf9
 v9:=Tryz.zeroValue9 }
end Go.Proofs
open Go Go.Eng Go.Proofs
namespace L5
theorem indexByte:iO.Ok Tryz.prog 190:=xB Tryz.lays137 (enters_of Tryz.lays137.f137 (by kernel_rfl) rfl)
theorem hasPrefix:iL.Ok Tryz.prog 192:=wZ Tryz.lays99 (enters_of Tryz.lays99.f99 (by kernel_rfl) rfl)
end L5
end
section
open Go Go.Eng Go.Proofs L1 L2 L3 L4
set_option maxRecDepth 100000
namespace L6
def w1 (t:List UInt8) (f:Nat->Int) (j:Int):Int:=j+(whl ⟨t,f,j,1,fun _=>1⟩:Nat)
def nl (t:List UInt8) (j:Int):Int:=Lib.indexByte (t.drop j.toNat) 10
def tl (t:List UInt8) (f:Nat->Int):Nat->Int->Int
 | 0,j=>j
 | m+1,j=>if atV t f j=2 then (if nl t j < 0 then t.length else tl t f m (w1 t f (j+nl t j))) else j
def gap (t:List UInt8) (f:Nat->Int) (i:Int):Int:=tl t f (t.length+1) (w1 t f i)
theorem whl1 {t:List UInt8} {f:Nat->Int} {j:Int} {cs:Nat->Int} (h:cs 0=1):whl ⟨t,f,j,1,cs⟩=whl ⟨t,f,j,1,fun _=>1⟩:=by
 have e:mO f 1 cs=mO f 1 fun _=>1:=by
  funext b
  unfold mO
  have:(∃ i,i < 1/\cs i=f b.toNat) ↔ (∃ i,i < 1/\(1:Int)=f b.toNat) :=
   ⟨fun ⟨i,h1,h2⟩=>⟨0,by omega,by rw [<- h2,show i=0 by omega,h]⟩,fun ⟨i,h1,h2⟩=>⟨0,by omega,by rw [h]; exact h2⟩⟩
  simp only [this]
 unfold whl
 simp only [e]
theorem Bb {t:List UInt8} {f:Nat->Int} {j:Int} (h0:0<=j) (h1:j<=(t.length:Int)):j<=w1 t f j/\w1 t f j<=(t.length:Int):=by
 have h:whl ⟨t,f,j,1,fun _=>1⟩<=t.length - j.toNat:=nX
 unfold w1
 omega
theorem Ph {t:List UInt8} {f:Nat->Int} {j:Int} (h0:0<=j) (h1:j<=(t.length:Int)) (h3:f 10≠2) (hg:atV t f j=2) (hn:¬ nl t j < 0):nl t j+j < (t.length:Int)/\1<=nl t j:=by
 have hs:=Lib.indexByte_some (l:=t.drop j.toNat) (c:=10) (o:=(nl t j).toNat) (by show nl t j=_; omega)
 obtain ⟨hs,_⟩:=hs
 rw [List.getElem?_drop] at hs
 obtain ⟨hl,he⟩:=List.getElem?_eq_some_iff.1 hs
 refine ⟨by omega,?_⟩
 by_cases e:nl t j=0
 ·exfalso
  apply h3
  unfold atV at hg
  have hj:¬ (j>=(t.length:Int)):=by omega
  rw [decide_eq_false hj,cond_false] at hg
  have e2:t.getD j.toNat 0=10:=by
   rw [List.getD_eq_getElem?_getD]
   rw [e] at hs
   simp only [Int.toNat_zero,Nat.add_zero] at hs
   rw [hs]; rfl
  rw [e2] at hg
  exact hg
 ·omega
def g157:List Nat:=[13,26,5,0,1,4]
def c157:aD :=
 .seq (.region g157 [(zo 4 (.move (.c (.int .i64 0))))]) (.seq (.seq (.region g157 [(zo 6 (.move (.s 0))),(zo 7 (.move (.s 1))),(zo 8 (.buildSl 3 1 1 (.cons (.int .i64 0) .nil) [(0,1,.c (.int .i64 1))])),(zo 9 (.call (.c (.fn 188)) [.s 6,.s 7,.s 8])),(zo 1 (.move (.s 9)))]) (.block 0 (.loop 0 [10,11,12,13,18,19,20,21,22,23,24,5,25,26,27,28,29,30,31,4,32,33,34,14,15,16,17,1] (.seq (.seq (.region g157 [(zo 10 (.move (.s 0))),(zo 11 (.move (.s 1))),(zo 12 (.call (.c (.fn 189)) [.s 10,.s 11])),(zo 13 (.bin (.eql) (.s 12) (.c (.int .i64 2))))]) (.cond (.s 13) .skip (.exit 0))) (.seq (.block 1 (.seq (.region g157 [(zo 18 (.move (.s 0))),(zo 19 (.nilCheck (.s 18))),(zo 20 (.fldA 0 (.s 19))),(zo 21 (.load 1 false (.s 20))),(zo 22 (.move (.s 1))),(zo 23 (.sliceStr (.s 21) (some (.s 22)) none)),(zo 24 (.call (.c (.fn 190)) [.s 23,.c (.int (.u8) 10)])),(zo 5 (.move (.s 24)))]) (.seq (.seq (.region g157 [(zo 25 (.move (.s 5))),(zo 26 (.bin (.lss) (.s 25) (.c (.int .i64 0))))]) (.cond (.s 26) (.seq (.region g157 [(zo 27 (.move (.s 0))),(zo 28 (.nilCheck (.s 27))),(zo 29 (.fldA 0 (.s 28))),(zo 30 (.load 1 false (.s 29))),(zo 31 (.lenStr (.s 30))),(zo 4 (.move (.s 31)))]) .ret) .skip)) (.region g157 [(zo 32 (.move (.s 1))),(zo 33 (.move (.s 5))),(zo 34 (.bin (.add) (.s 32) (.s 33))),(zo 1 (.move (.s 34)))])))) (.region g157 [(zo 14 (.move (.s 0))),(zo 15 (.move (.s 1))),(zo 16 (.buildSl 3 1 1 (.cons (.int .i64 0) .nil) [(0,1,.c (.int .i64 1))])),(zo 17 (.call (.c (.fn 188)) [.s 14,.s 15,.s 16])),(zo 1 (.move (.s 17)))])))))) (.seq (.region g157 [(zo 35 (.move (.s 1))),(zo 4 (.move (.s 35)))]) .ret))
def r157:List aR:=[.slot 4]
def k157:List (Nat×Nat×aD×Nat):=[]
theorem e157:aK Tryz.prog 157 g157 [] [] k157=some (c157,r157,36):=by kernel_rfl
theorem q157:aF Tryz.prog k157:=aF.nil
def T9:Eng.Spec where
 X:=AtX
 args:=atS.args
 pre:=fun x=>0<=x.2.2/\x.2.2<=(x.1.length:Int)/\x.1.length<=1000000/\x.2.1 10≠2
 res:=fun x=>.int .i64 (gap x.1 x.2.1 x.2.2)
 inst:=atS.inst
theorem Q3:T9.Ok Tryz.prog 157:=by
 refine Eng.Spec.dG e157 q157 (fun _=>[(188,.p Td),(189,.p atS),(190,.p iO)]) (fun _ _=>aA.p Lk (aA.p H6 (aA.p L5.indexByte aA.nil))) ?_
 rintro ⟨t,f,i⟩ ⟨(h0:0<=i),(h1:i<=(t.length:Int)),(h2:t.length<=1000000),(h3:f 10≠2)⟩
 refine ⟨trivial,?_⟩
 repeat' (first|apply And.intro|exact trivial|exact rfl|exact fun (j:Nat) (_:j < 256)=>rfl|exact h0|exact h1|exact h2)
 ·exact (by decide:(1:Nat)<=1000000)
 have ew:∀ (j:Int) (cs:Nat->Int),cs 0=1->j+((whl ⟨t,f,j,1,cs⟩:Nat):Int)=w1 t f j:=fun j cs h=>by unfold w1; rw [whl1 h]
 refine ⟨⟨Nat×Int,fun x=>(0<=x.2/\x.2<=(t.length:Int))/\(t.length:Int) - x.2 < x.1/\tl t f x.1 x.2=gap t f i,fun x=>[(1,.int .i64 x.2)],fun _=>[],fun x=>x.1⟩,(t.length+1,w1 t f i),?_,?_,?_⟩
 ·obtain ⟨w2,w3⟩:=Bb (f:=f) h0 h1
  exact ⟨⟨by show 0<=w1 t f i; omega,w3⟩,by show (t.length:Int) - w1 t f i < ((t.length+1:Nat):Int); omega,rfl⟩
 ·repeat' (first|apply And.intro|exact trivial|exact rfl|exact fun (j:Nat) (_:j < 256)=>rfl|exact ew _ _ rfl)
 rintro ⟨m,j⟩ ⟨⟨(k0:0<=j),(k1:j<=(t.length:Int))⟩,(k2:(t.length:Int) - j < m),(k3:tl t f m j=gap t f i)⟩
 obtain ⟨m,rfl⟩:∃ q,m=q+1:=⟨m - 1,by omega⟩
 repeat' (first|apply And.intro|exact trivial|exact rfl|exact fun (j:Nat) (_:j < 256)=>rfl|exact k0)
 ·refine fun (hg:decide (atV t f j=2)=true)=>?_
  have hg:=of_decide_eq_true hg
  rw [tl,if_pos hg] at k3
  repeat' (first|apply And.intro|exact trivial|exact rfl|exact fun (j:Nat) (_:j < 256)=>rfl|exact k0|exact k1)
  ·refine fun (hn:decide (nl t j < 0)=true)=>?_
   have hn:=of_decide_eq_true hn
   have e:(t.length:Int)=gap t f i:=by rw [<- k3,if_pos hn]
   repeat' (first|apply And.intro|exact trivial|exact rfl|exact e)
  ·refine fun (hn:decide (nl t j < 0)=false)=>?_
   have hn:=of_decide_eq_false hn
   rw [if_neg hn] at k3
   have n1:nl t j+j < (t.length:Int)/\1<=nl t j:=Ph k0 k1 h3 hg hn
   obtain ⟨n1,n2⟩:=n1
   have b1:-9223372036854775808<=j+nl t j:=by omega
   have b2:j+nl t j<=9223372036854775807:=by omega
   have c1:0<=j+nl t j:=by omega
   have c2:j+nl t j<=(t.length:Int):=by omega
   repeat' (first|apply And.intro|exact trivial|exact rfl|exact fun (j:Nat) (_:j < 256)=>rfl|exact b1|exact b2|exact c1|exact c2|exact h2)
   ·exact (by decide:(1:Nat)<=1000000)
   obtain ⟨w2,w3⟩:=Bb (f:=f) c1 c2
   have w4:0<=w1 t f (j+nl t j):=by omega
   have w5:(t.length:Int) - w1 t f (j+nl t j) < (m:Int):=by omega
   refine Exists.intro (m,w1 t f (j+nl t j)) ?_
   repeat' (first|apply And.intro|exact trivial|exact rfl|exact fun (j:Nat) (_:j < 256)=>rfl|exact ew _ _ rfl|exact w4|exact w3|exact w5|exact k3)
   exact Nat.lt_succ_self m
 ·refine fun (hg:decide (atV t f j=2)=false)=>?_
  have hg:=of_decide_eq_false hg
  have e:j=gap t f i:=by rw [<- k3,tl,if_neg hg]
  repeat' (first|apply And.intro|exact trivial|exact rfl|exact e)
end L6
end
section
namespace Go.Proofs
open Go.Shelf
set_option maxRecDepth 100000
def Tryz.zW:Go.Shelf.Ren:=⟨fun|172=>120|244=>153|245=>154|247=>178|279=>179|280=>180|281=>181|282=>182|287=>205|316=>206|171=>27|205=>207|321=>219|322=>220|243=>64|246=>114|283=>145|284=>146|285=>147|286=>148|129=>170|317=>169|318=>171|319=>172|320=>173|337=>201|338=>202|n=>n,fun|9=>9|3=>3|75=>99|76=>100|4=>4|5=>5|167=>183|37=>94|0=>0|85=>184|2=>2|168=>186|53=>125|175=>214|46=>180|210=>217|127=>123|145=>231|143=>229|21=>21|171=>145|173=>148|212=>178|51=>49|20=>20|213=>179|232=>226|233=>227|80=>71|n=>n,fun|15=>2|16=>3|17=>0|18=>4|19=>5|n=>n⟩
theorem Tryz.Es:Go.Proofs.LaysC.n172 Tryz.prog Tryz.zW:={
 mixed:=by kernel_rfl
 f129:=Tryz.func170.trans (congrArg some (by kernel_rfl))
 f171:=Tryz.func27.trans (congrArg some (by kernel_rfl))
 f172:=Tryz.func120.trans (congrArg some (by kernel_rfl))
 f205:=Tryz.func207.trans (congrArg some (by kernel_rfl))
 f243:=Tryz.func64.trans (congrArg some (by kernel_rfl))
 f244:=Tryz.func153.trans (congrArg some (by kernel_rfl))
 f245:=Tryz.func154.trans (congrArg some (by kernel_rfl))
 f246:=Tryz.func114.trans (congrArg some (by kernel_rfl))
 f247:=Tryz.func178.trans (congrArg some (by kernel_rfl))
 f279:=Tryz.func179.trans (congrArg some (by kernel_rfl))
 f280:=Tryz.func180.trans (congrArg some (by kernel_rfl))
 f281:=Tryz.func181.trans (congrArg some (by kernel_rfl))
 f282:=Tryz.func182.trans (congrArg some (by kernel_rfl))
 f283:=Tryz.func145.trans (congrArg some (by kernel_rfl))
 f284:=Tryz.func146.trans (congrArg some (by kernel_rfl))
 f285:=Tryz.func147.trans (congrArg some (by kernel_rfl))
 f286:=Tryz.func148.trans (congrArg some (by kernel_rfl))
 f287:=Tryz.func205.trans (congrArg some (by kernel_rfl))
 f316:=Tryz.func206.trans (congrArg some (by kernel_rfl))
 f317:=Tryz.func169.trans (congrArg some (by kernel_rfl))
 f318:=Tryz.func171.trans (congrArg some (by kernel_rfl))
 f319:=Tryz.func172.trans (congrArg some (by kernel_rfl))
 f320:=Tryz.func173.trans (congrArg some (by kernel_rfl))
 f321:=Tryz.func219.trans (congrArg some (by kernel_rfl))
 f322:=Tryz.func220.trans (congrArg some (by kernel_rfl))
 f337:=Tryz.func201.trans (congrArg some (by kernel_rfl))
 f338:=Tryz.func202.trans (congrArg some (by kernel_rfl))
 t0:=Tryz.underlying0
 a0:=Tryz.isAgg0
 z0:=Tryz.sizeOf0
 v0:=Tryz.zeroValue0
 t2:=Tryz.underlying2
 a2:=Tryz.isAgg2
 z2:=Tryz.sizeOf2
 v2:=Tryz.zeroValue2
 t3:=Tryz.underlying3
 a3:=Tryz.isAgg3
 z3:=Tryz.sizeOf3
 v3:=Tryz.zeroValue3
 t4:=Tryz.underlying4
 a4:=Tryz.isAgg4
 z4:=Tryz.sizeOf4
 v4:=Tryz.zeroValue4
 t5:=Tryz.underlying5
 a5:=Tryz.isAgg5
 z5:=Tryz.sizeOf5
 v5:=Tryz.zeroValue5
 t9:=Tryz.underlying9
 a9:=Tryz.isAgg9
 z9:=Tryz.sizeOf9
 v9:=Tryz.zeroValue9
 t20:=Tryz.underlying20
 a20:=Tryz.isAgg20
 z20:=Tryz.sizeOf20
 v20:=Tryz.zeroValue20
 t21:=Tryz.underlying21
 a21:=Tryz.isAgg21
 z21:=Tryz.sizeOf21
 v21:=Tryz.zeroValue21
 t37:=Tryz.underlying94
 a37:=Tryz.isAgg94
 z37:=Tryz.sizeOf94
 v37:=Tryz.zeroValue94
 t46:=Tryz.underlying180
 a46:=Tryz.isAgg180
 z46:=Tryz.sizeOf180
 v46:=Tryz.zeroValue180
 t51:=Tryz.underlying49
 a51:=Tryz.isAgg49
 z51:=Tryz.sizeOf49
 v51:=Tryz.zeroValue49
 t53:=Tryz.underlying125
 a53:=Tryz.isAgg125
 z53:=Tryz.sizeOf125
 v53:=Tryz.zeroValue125
 t75:=Tryz.underlying99
 a75:=Tryz.isAgg99
 z75:=Tryz.sizeOf99
 v75:=Tryz.zeroValue99
 t76:=Tryz.underlying100
 a76:=Tryz.isAgg100
 z76:=Tryz.sizeOf100
 v76:=Tryz.zeroValue100
 t85:=Tryz.underlying184
 a85:=Tryz.isAgg184
 z85:=Tryz.sizeOf184
 v85:=Tryz.zeroValue184
 t127:=Tryz.underlying123
 a127:=Tryz.isAgg123
 z127:=Tryz.sizeOf123
 v127:=Tryz.zeroValue123
 t143:=Tryz.underlying229
 a143:=Tryz.isAgg229
 z143:=Tryz.sizeOf229
 v143:=Tryz.zeroValue229
 t145:=Tryz.underlying231
 a145:=Tryz.isAgg231
 z145:=Tryz.sizeOf231
 v145:=Tryz.zeroValue231
 t167:=Tryz.underlying183
 a167:=Tryz.isAgg183
 z167:=Tryz.sizeOf183
 v167:=Tryz.zeroValue183
 t168:=Tryz.underlying186
 a168:=Tryz.isAgg186
 z168:=Tryz.sizeOf186
 v168:=Tryz.zeroValue186
 t171:=Tryz.underlying145
 a171:=Tryz.isAgg145
 z171:=Tryz.sizeOf145
 v171:=Tryz.zeroValue145
 t173:=Tryz.underlying148
 a173:=Tryz.isAgg148
 z173:=Tryz.sizeOf148
 v173:=Tryz.zeroValue148
 t175:=Tryz.underlying214
 a175:=Tryz.isAgg214
 z175:=Tryz.sizeOf214
 v175:=Tryz.zeroValue214
 t210:=Tryz.underlying217
 a210:=Tryz.isAgg217
 z210:=Tryz.sizeOf217
 v210:=Tryz.zeroValue217
 t212:=Tryz.underlying178
 a212:=Tryz.isAgg178
 z212:=Tryz.sizeOf178
 v212:=Tryz.zeroValue178
 t213:=Tryz.underlying179
 a213:=Tryz.isAgg179
 z213:=Tryz.sizeOf179
 t232:=Tryz.underlying226
 a232:=Tryz.isAgg226
 z232:=Tryz.sizeOf226
 v232:=Tryz.zeroValue226
 t233:=Tryz.underlying227
 a233:=Tryz.isAgg227
 z233:=Tryz.sizeOf227
 v233:=Tryz.zeroValue227
 g15:=by kernel_rfl
 g16:=by kernel_rfl
 g17:=by kernel_rfl
 g18:=by kernel_rfl
 g19:=by kernel_rfl
 t80:=Tryz.underlying71
 a80:=Tryz.isAgg71
 z80:=Tryz.sizeOf71
 v80:=Tryz.zeroValue71
 i0:=by kernel_rfl
 i2:=by kernel_rfl
 i3:=by kernel_rfl
 i4:=by kernel_rfl
 i5:=by kernel_rfl
 i9:=by kernel_rfl
 i20:=by kernel_rfl
 i21:=by kernel_rfl
 i37:=by kernel_rfl
 i46:=by kernel_rfl
 i51:=by kernel_rfl
 i53:=by kernel_rfl
 i75:=by kernel_rfl
 i76:=by kernel_rfl
 i80:=by kernel_rfl
 i85:=by kernel_rfl
 i127:=by kernel_rfl
 i143:=by kernel_rfl
 i145:=by kernel_rfl
 i167:=by kernel_rfl
 i168:=by kernel_rfl
 i171:=by kernel_rfl
 i173:=by kernel_rfl
 i175:=by kernel_rfl
 i210:=by kernel_rfl
 i212:=by kernel_rfl
 i232:=by kernel_rfl
 i233:=by kernel_rfl
 m15:=by kernel_rfl
 m16:=by kernel_rfl
 m17:=by kernel_rfl
 m18:=by kernel_rfl
 m19:=by kernel_rfl
 c0:=by kernel_rfl
 c2:=by kernel_rfl
 c3:=by kernel_rfl
 c4:=by kernel_rfl
 c5:=by kernel_rfl
 c9:=by kernel_rfl
 c20:=by kernel_rfl
 c21:=by kernel_rfl
 c37:=by kernel_rfl
 c46:=by kernel_rfl
 c51:=by kernel_rfl
 c53:=by kernel_rfl
 c75:=by kernel_rfl
 c76:=by kernel_rfl
 c80:=by kernel_rfl
 c85:=by kernel_rfl
 c127:=by kernel_rfl
 c143:=by kernel_rfl
 c145:=by kernel_rfl
 c167:=by kernel_rfl
 c168:=by kernel_rfl
 c171:=by kernel_rfl
 c173:=by kernel_rfl
 c175:=by kernel_rfl
 c210:=by kernel_rfl
 c212:=by kernel_rfl
 c213:=by kernel_rfl
 c232:=by kernel_rfl
 c233:=by kernel_rfl }
def Tryz.zX:Go.Shelf.Ren:=⟨fun|171=>27|243=>64|246=>114|283=>145|284=>146|285=>147|286=>148|129=>170|317=>169|318=>171|319=>172|320=>173|337=>201|338=>202|n=>n,fun|3=>3|9=>9|2=>2|4=>4|171=>145|0=>0|53=>125|37=>94|5=>5|173=>148|212=>178|51=>49|20=>20|213=>179|46=>180|232=>226|233=>227|n=>n,fun|17=>0|18=>4|19=>5|n=>n⟩
theorem Tryz.Et:Go.Proofs.LaysM.n171 Tryz.prog Tryz.zX:={
 mixed:=by kernel_rfl
 f129:=Tryz.func170.trans (congrArg some (by kernel_rfl))
 f171:=Tryz.func27.trans (congrArg some (by kernel_rfl))
 f243:=Tryz.func64.trans (congrArg some (by kernel_rfl))
 f246:=Tryz.func114.trans (congrArg some (by kernel_rfl))
 f283:=Tryz.func145.trans (congrArg some (by kernel_rfl))
 f284:=Tryz.func146.trans (congrArg some (by kernel_rfl))
 f285:=Tryz.func147.trans (congrArg some (by kernel_rfl))
 f286:=Tryz.func148.trans (congrArg some (by kernel_rfl))
 f317:=Tryz.func169.trans (congrArg some (by kernel_rfl))
 f318:=Tryz.func171.trans (congrArg some (by kernel_rfl))
 f319:=Tryz.func172.trans (congrArg some (by kernel_rfl))
 f320:=Tryz.func173.trans (congrArg some (by kernel_rfl))
 f337:=Tryz.func201.trans (congrArg some (by kernel_rfl))
 f338:=Tryz.func202.trans (congrArg some (by kernel_rfl))
 t0:=Tryz.underlying0
 a0:=Tryz.isAgg0
 z0:=Tryz.sizeOf0
 v0:=Tryz.zeroValue0
 t2:=Tryz.underlying2
 a2:=Tryz.isAgg2
 z2:=Tryz.sizeOf2
 v2:=Tryz.zeroValue2
 t3:=Tryz.underlying3
 a3:=Tryz.isAgg3
 z3:=Tryz.sizeOf3
 v3:=Tryz.zeroValue3
 t4:=Tryz.underlying4
 a4:=Tryz.isAgg4
 z4:=Tryz.sizeOf4
 v4:=Tryz.zeroValue4
 t5:=Tryz.underlying5
 a5:=Tryz.isAgg5
 z5:=Tryz.sizeOf5
 v5:=Tryz.zeroValue5
 t9:=Tryz.underlying9
 a9:=Tryz.isAgg9
 z9:=Tryz.sizeOf9
 v9:=Tryz.zeroValue9
 t20:=Tryz.underlying20
 a20:=Tryz.isAgg20
 z20:=Tryz.sizeOf20
 v20:=Tryz.zeroValue20
 t37:=Tryz.underlying94
 a37:=Tryz.isAgg94
 z37:=Tryz.sizeOf94
 v37:=Tryz.zeroValue94
 t46:=Tryz.underlying180
 a46:=Tryz.isAgg180
 z46:=Tryz.sizeOf180
 v46:=Tryz.zeroValue180
 t51:=Tryz.underlying49
 a51:=Tryz.isAgg49
 z51:=Tryz.sizeOf49
 v51:=Tryz.zeroValue49
 t53:=Tryz.underlying125
 a53:=Tryz.isAgg125
 z53:=Tryz.sizeOf125
 v53:=Tryz.zeroValue125
 t171:=Tryz.underlying145
 a171:=Tryz.isAgg145
 z171:=Tryz.sizeOf145
 v171:=Tryz.zeroValue145
 t173:=Tryz.underlying148
 a173:=Tryz.isAgg148
 z173:=Tryz.sizeOf148
 v173:=Tryz.zeroValue148
 t212:=Tryz.underlying178
 a212:=Tryz.isAgg178
 z212:=Tryz.sizeOf178
 v212:=Tryz.zeroValue178
 t213:=Tryz.underlying179
 a213:=Tryz.isAgg179
 z213:=Tryz.sizeOf179
 t232:=Tryz.underlying226
 a232:=Tryz.isAgg226
 z232:=Tryz.sizeOf226
 v232:=Tryz.zeroValue226
 t233:=Tryz.underlying227
 a233:=Tryz.isAgg227
 z233:=Tryz.sizeOf227
 v233:=Tryz.zeroValue227
 g17:=by kernel_rfl
 g18:=by kernel_rfl
 g19:=by kernel_rfl
 i0:=by kernel_rfl
 i2:=by kernel_rfl
 i3:=by kernel_rfl
 i4:=by kernel_rfl
 i5:=by kernel_rfl
 i9:=by kernel_rfl
 i20:=by kernel_rfl
 i37:=by kernel_rfl
 i46:=by kernel_rfl
 i51:=by kernel_rfl
 i53:=by kernel_rfl
 i171:=by kernel_rfl
 i173:=by kernel_rfl
 i212:=by kernel_rfl
 i232:=by kernel_rfl
 i233:=by kernel_rfl
 m17:=by kernel_rfl
 m18:=by kernel_rfl
 m19:=by kernel_rfl }
def Tryz.Aa:Go.Shelf.Ren:=⟨fun|145=>73|220=>118|219=>151|217=>174|225=>175|224=>176|267=>177|266=>203|314=>204|n=>n,fun|9=>9|4=>4|59=>103|3=>3|5=>5|46=>180|146=>212|51=>49|n=>n,fun|1=>1|n=>n⟩
theorem Tryz.lays145:Go.Proofs.Lays.n145 Tryz.prog Tryz.Aa:={
 mixed:=by kernel_rfl
 f145:=Tryz.func73.trans (congrArg some (by kernel_rfl))
 f217:=Tryz.func174.trans (congrArg some (by kernel_rfl))
 f219:=Tryz.func151.trans (congrArg some (by kernel_rfl))
 f220:=Tryz.func118.trans (congrArg some (by kernel_rfl))
 f224:=Tryz.func176.trans (congrArg some (by kernel_rfl))
 f225:=Tryz.func175.trans (congrArg some (by kernel_rfl))
 f266:=Tryz.func203.trans (congrArg some (by kernel_rfl))
 f267:=Tryz.func177.trans (congrArg some (by kernel_rfl))
 f314:=Tryz.func204.trans (congrArg some (by kernel_rfl))
 t3:=Tryz.underlying3
 a3:=Tryz.isAgg3
 z3:=Tryz.sizeOf3
 v3:=Tryz.zeroValue3
 t4:=Tryz.underlying4
 a4:=Tryz.isAgg4
 z4:=Tryz.sizeOf4
 v4:=Tryz.zeroValue4
 t5:=Tryz.underlying5
 a5:=Tryz.isAgg5
 z5:=Tryz.sizeOf5
 v5:=Tryz.zeroValue5
 t9:=Tryz.underlying9
 a9:=Tryz.isAgg9
 z9:=Tryz.sizeOf9
 v9:=Tryz.zeroValue9
 t46:=Tryz.underlying180
 a46:=Tryz.isAgg180
 z46:=Tryz.sizeOf180
 v46:=Tryz.zeroValue180
 t51:=Tryz.underlying49
 a51:=Tryz.isAgg49
 z51:=Tryz.sizeOf49
 v51:=Tryz.zeroValue49
 t59:=Tryz.underlying103
 a59:=Tryz.isAgg103
 z59:=Tryz.sizeOf103
 v59:=Tryz.zeroValue103
 t146:=Tryz.underlying212
 a146:=Tryz.isAgg212
 z146:=Tryz.sizeOf212
 v146:=Tryz.zeroValue212
 g1:=by kernel_rfl }
def Tryz.Ab:Go.Shelf.Ren:=⟨fun|146=>163|221=>199|268=>216|138=>217|143=>218|195=>224|197=>222|218=>225|219=>151|260=>226|217=>174|225=>175|224=>176|267=>177|266=>203|314=>204|n=>n,fun|9=>9|31=>22|3=>3|4=>4|0=>0|105=>219|21=>21|5=>5|46=>180|119=>232|139=>235|138=>234|146=>212|51=>49|n=>n,fun|1=>1|3=>6|4=>7|n=>n⟩
theorem Tryz.lays146:Go.Proofs.Lays.n146 Tryz.prog Tryz.Ab:={
 mixed:=by kernel_rfl
 f138:=Tryz.func217.trans (congrArg some (by kernel_rfl))
 f143:=Tryz.func218.trans (congrArg some (by kernel_rfl))
 f146:=Tryz.func163.trans (congrArg some (by kernel_rfl))
 f195:=Tryz.func224.trans (congrArg some (by kernel_rfl))
 f197:=Tryz.func222.trans (congrArg some (by kernel_rfl))
 f217:=Tryz.func174.trans (congrArg some (by kernel_rfl))
 f218:=Tryz.func225.trans (congrArg some (by kernel_rfl))
 f219:=Tryz.func151.trans (congrArg some (by kernel_rfl))
 f221:=Tryz.func199.trans (congrArg some (by kernel_rfl))
 f224:=Tryz.func176.trans (congrArg some (by kernel_rfl))
 f225:=Tryz.func175.trans (congrArg some (by kernel_rfl))
 f260:=Tryz.func226.trans (congrArg some (by kernel_rfl))
 f266:=Tryz.func203.trans (congrArg some (by kernel_rfl))
 f267:=Tryz.func177.trans (congrArg some (by kernel_rfl))
 f268:=Tryz.func216.trans (congrArg some (by kernel_rfl))
 f314:=Tryz.func204.trans (congrArg some (by kernel_rfl))
 t0:=Tryz.underlying0
 a0:=Tryz.isAgg0
 z0:=Tryz.sizeOf0
 v0:=Tryz.zeroValue0
 t3:=Tryz.underlying3
 a3:=Tryz.isAgg3
 z3:=Tryz.sizeOf3
 v3:=Tryz.zeroValue3
 t4:=Tryz.underlying4
 a4:=Tryz.isAgg4
 z4:=Tryz.sizeOf4
 v4:=Tryz.zeroValue4
 t5:=Tryz.underlying5
 a5:=Tryz.isAgg5
 z5:=Tryz.sizeOf5
 v5:=Tryz.zeroValue5
 t9:=Tryz.underlying9
 a9:=Tryz.isAgg9
 z9:=Tryz.sizeOf9
 v9:=Tryz.zeroValue9
 t21:=Tryz.underlying21
 a21:=Tryz.isAgg21
 z21:=Tryz.sizeOf21
 v21:=Tryz.zeroValue21
 t31:=Tryz.underlying22
 a31:=Tryz.isAgg22
 z31:=Tryz.sizeOf22
 v31:=Tryz.zeroValue22
 t46:=Tryz.underlying180
 a46:=Tryz.isAgg180
 z46:=Tryz.sizeOf180
 v46:=Tryz.zeroValue180
 t51:=Tryz.underlying49
 a51:=Tryz.isAgg49
 z51:=Tryz.sizeOf49
 v51:=Tryz.zeroValue49
 t105:=Tryz.underlying219
 a105:=Tryz.isAgg219
 z105:=Tryz.sizeOf219
 v105:=Tryz.zeroValue219
 t119:=Tryz.underlying232
 a119:=Tryz.isAgg232
 z119:=Tryz.sizeOf232
 t138:=Tryz.underlying234
 a138:=Tryz.isAgg234
 z138:=Tryz.sizeOf234
 v138:=Tryz.zeroValue234
 t139:=Tryz.underlying235
 a139:=Tryz.isAgg235
 z139:=Tryz.sizeOf235
 v139:=Tryz.zeroValue235
 t146:=Tryz.underlying212
 a146:=Tryz.isAgg212
 z146:=Tryz.sizeOf212
 v146:=Tryz.zeroValue212
 g1:=by kernel_rfl
 g3:=by kernel_rfl
 g4:=by kernel_rfl }
def Tryz.zY:Go.Shelf.Ren:=⟨fun|101=>74|208=>119|206=>152|n=>n,fun|9=>9|4=>4|3=>3|n=>n,fun n=>n⟩
theorem Tryz.lays101:Go.Proofs.Lays.n101 Tryz.prog Tryz.zY:={
 mixed:=by kernel_rfl
 f101:=Tryz.func74.trans (congrArg some (by kernel_rfl))
 f206:=Tryz.func152.trans (congrArg some (by kernel_rfl))
 f208:=Tryz.func119.trans (congrArg some (by kernel_rfl))
 t3:=Tryz.underlying3
 a3:=Tryz.isAgg3
 z3:=Tryz.sizeOf3
 v3:=Tryz.zeroValue3
 t4:=Tryz.underlying4
 a4:=Tryz.isAgg4
 z4:=Tryz.sizeOf4
 v4:=Tryz.zeroValue4
 t9:=Tryz.underlying9
 a9:=Tryz.isAgg9
 z9:=Tryz.sizeOf9
 v9:=Tryz.zeroValue9 }
def Tryz.qT:Go.Shelf.Ren:=⟨fun|156=>32|165=>66|166=>67|169=>68|240=>115|241=>116|276=>149|277=>150|n=>n,fun|31=>22|9=>9|3=>3|4=>4|0=>0|20=>20|72=>96|76=>100|70=>93|37=>94|75=>99|127=>123|164=>150|5=>5|80=>71|n=>n,fun n=>n⟩
theorem Tryz.lays156:Go.Proofs.Lays.n156 Tryz.prog Tryz.qT:={
 mixed:=by kernel_rfl
 f156:=Tryz.func32.trans (congrArg some (by kernel_rfl))
 f165:=Tryz.func66.trans (congrArg some (by kernel_rfl))
 f166:=Tryz.func67.trans (congrArg some (by kernel_rfl))
 f169:=Tryz.func68.trans (congrArg some (by kernel_rfl))
 f240:=Tryz.func115.trans (congrArg some (by kernel_rfl))
 f241:=Tryz.func116.trans (congrArg some (by kernel_rfl))
 f276:=Tryz.func149.trans (congrArg some (by kernel_rfl))
 f277:=Tryz.func150.trans (congrArg some (by kernel_rfl))
 t0:=Tryz.underlying0
 a0:=Tryz.isAgg0
 z0:=Tryz.sizeOf0
 v0:=Tryz.zeroValue0
 t3:=Tryz.underlying3
 a3:=Tryz.isAgg3
 z3:=Tryz.sizeOf3
 v3:=Tryz.zeroValue3
 t4:=Tryz.underlying4
 a4:=Tryz.isAgg4
 z4:=Tryz.sizeOf4
 v4:=Tryz.zeroValue4
 t9:=Tryz.underlying9
 a9:=Tryz.isAgg9
 z9:=Tryz.sizeOf9
 v9:=Tryz.zeroValue9
 t20:=Tryz.underlying20
 a20:=Tryz.isAgg20
 z20:=Tryz.sizeOf20
 v20:=Tryz.zeroValue20
 t31:=Tryz.underlying22
 a31:=Tryz.isAgg22
 z31:=Tryz.sizeOf22
 v31:=Tryz.zeroValue22
 t37:=Tryz.underlying94
 a37:=Tryz.isAgg94
 z37:=Tryz.sizeOf94
 v37:=Tryz.zeroValue94
 t70:=Tryz.underlying93
 a70:=Tryz.isAgg93
 z70:=Tryz.sizeOf93
 v70:=Tryz.zeroValue93
 t72:=Tryz.underlying96
 a72:=Tryz.isAgg96
 z72:=Tryz.sizeOf96
 v72:=Tryz.zeroValue96
 t75:=Tryz.underlying99
 a75:=Tryz.isAgg99
 z75:=Tryz.sizeOf99
 v75:=Tryz.zeroValue99
 t76:=Tryz.underlying100
 a76:=Tryz.isAgg100
 z76:=Tryz.sizeOf100
 v76:=Tryz.zeroValue100
 t127:=Tryz.underlying123
 a127:=Tryz.isAgg123
 z127:=Tryz.sizeOf123
 v127:=Tryz.zeroValue123
 t164:=Tryz.underlying150
 a164:=Tryz.isAgg150
 z164:=Tryz.sizeOf150
 v164:=Tryz.zeroValue150 }
def Tryz.Ae:Go.Shelf.Ren:=⟨fun|17=>136|15=>167|20=>200|n=>n,fun|9=>9|23=>137|4=>4|3=>3|0=>0|21=>21|n=>n,fun n=>n⟩
theorem Tryz.rK:Go.Proofs.LaysGw.n17 Tryz.prog Tryz.Ae:={
 mixed:=by kernel_rfl
 f15:=Tryz.func167.trans (congrArg some (by kernel_rfl))
 f17:=Tryz.func136.trans (congrArg some (by kernel_rfl))
 f20:=Tryz.func200.trans (congrArg some (by kernel_rfl))
 t0:=Tryz.underlying0
 a0:=Tryz.isAgg0
 z0:=Tryz.sizeOf0
 v0:=Tryz.zeroValue0
 i0:=by kernel_rfl
 t3:=Tryz.underlying3
 a3:=Tryz.isAgg3
 z3:=Tryz.sizeOf3
 v3:=Tryz.zeroValue3
 i3:=by kernel_rfl
 t4:=Tryz.underlying4
 a4:=Tryz.isAgg4
 z4:=Tryz.sizeOf4
 v4:=Tryz.zeroValue4
 i4:=by kernel_rfl
 t9:=Tryz.underlying9
 a9:=Tryz.isAgg9
 z9:=Tryz.sizeOf9
 v9:=Tryz.zeroValue9
 i9:=by kernel_rfl
 t21:=Tryz.underlying21
 a21:=Tryz.isAgg21
 z21:=Tryz.sizeOf21
 v21:=Tryz.zeroValue21
 i21:=by kernel_rfl
 t23:=Tryz.underlying137
 a23:=Tryz.isAgg137
 z23:=Tryz.sizeOf137
 v23:=Tryz.zeroValue137
 i23:=by kernel_rfl }
def Tryz.Ac:Go.Shelf.Ren:=⟨fun|153=>191|152=>211|226=>212|227=>184|228=>208|137=>190|119=>223|224=>176|225=>175|217=>174|266=>203|n=>n,fun|9=>9|3=>3|4=>4|5=>5|21=>21|117=>192|116=>191|0=>0|46=>180|124=>195|n=>n,fun n=>n⟩
theorem Tryz.lays153:Go.Proofs.Lays.n153 Tryz.prog Tryz.Ac:={
 mixed:=by kernel_rfl
 f119:=Tryz.func223.trans (congrArg some (by kernel_rfl))
 f137:=Tryz.func190.trans (congrArg some (by kernel_rfl))
 f152:=Tryz.func211.trans (congrArg some (by kernel_rfl))
 f153:=Tryz.func191.trans (congrArg some (by kernel_rfl))
 f217:=Tryz.func174.trans (congrArg some (by kernel_rfl))
 f224:=Tryz.func176.trans (congrArg some (by kernel_rfl))
 f225:=Tryz.func175.trans (congrArg some (by kernel_rfl))
 f226:=Tryz.func212.trans (congrArg some (by kernel_rfl))
 f227:=Tryz.func184.trans (congrArg some (by kernel_rfl))
 f228:=Tryz.func208.trans (congrArg some (by kernel_rfl))
 f266:=Tryz.func203.trans (congrArg some (by kernel_rfl))
 t0:=Tryz.underlying0
 a0:=Tryz.isAgg0
 z0:=Tryz.sizeOf0
 v0:=Tryz.zeroValue0
 t3:=Tryz.underlying3
 a3:=Tryz.isAgg3
 z3:=Tryz.sizeOf3
 v3:=Tryz.zeroValue3
 t4:=Tryz.underlying4
 a4:=Tryz.isAgg4
 z4:=Tryz.sizeOf4
 v4:=Tryz.zeroValue4
 t5:=Tryz.underlying5
 a5:=Tryz.isAgg5
 z5:=Tryz.sizeOf5
 v5:=Tryz.zeroValue5
 t9:=Tryz.underlying9
 a9:=Tryz.isAgg9
 z9:=Tryz.sizeOf9
 v9:=Tryz.zeroValue9
 t21:=Tryz.underlying21
 a21:=Tryz.isAgg21
 z21:=Tryz.sizeOf21
 v21:=Tryz.zeroValue21
 t46:=Tryz.underlying180
 a46:=Tryz.isAgg180
 z46:=Tryz.sizeOf180
 v46:=Tryz.zeroValue180
 t116:=Tryz.underlying191
 a116:=Tryz.isAgg191
 z116:=Tryz.sizeOf191
 t117:=Tryz.underlying192
 a117:=Tryz.isAgg192
 z117:=Tryz.sizeOf192
 v117:=Tryz.zeroValue192
 t124:=Tryz.underlying195
 a124:=Tryz.isAgg195
 z124:=Tryz.sizeOf195
 v124:=Tryz.zeroValue195 }
end Go.Proofs
end
section
namespace Go.Eng
open Go Go.RowKit Go.Proofs Go.Shelf Go.Sort
theorem dV {P:Program} {f:Nat} {S:Spec} (hc:∀ args w,(callFunc f args).run P w=.ok (.enter f args) w)
  (h:∀ (x:S.X) (w:World) (vs:List Value) (U:Nat->Prop),(∀ b,U b->b < w.heap.size/\Plain w b)->GV w->S.pre x->R (fG U w) (S.args x) vs ->
   Calls P f vs.toArray w fun e w'=>∃ v,e=.returned v/\Below w.heap.size w w'/\R (fG (Di S.fresh U w w') w') (S.res x) [v]):S.Ok P f:=by
 refine ⟨hc,?_⟩
 intro x w vs U hU hg hp hR
 refine (h x w vs U hU hg hp hR).mono ?_
 rintro e w' ⟨v,rfl,h1,h2⟩
 exact ⟨h2,h1⟩
theorem Gu:pow10=Lib.pow10Tab:=by decide
theorem DLe.no {w w':World} (h:DRN=false):DLe w w':=fun e=>by rw [h] at e; cases e
def aM (s:List UInt8):Int:=match Lib.atoiAll s with
 | .ok v=>v
 | .range=>Lib.atoiSat s
 | _=>0
def fF:Spec where
 X:=List UInt8
 args:=fun x=>.cons (.str x) .nil
 pre:=fun x=>x.length<=1000000
 res:=fun x=>.tup (.cons (.int .i64 (aM x)) (.cons .junk .nil))
 inst:=fun s=>match s with
  | .cons (.str t) _=>some t
  | _=>none
theorem Bo (hD:DRN=false) {P:Program} {ρ:Ren} (L:LaysC.n172 P ρ) (h15:ρ.g 15=Jb) (h16:ρ.g 16=Ja) (hc:∀ args w,(callFunc (ρ.f 172) args).run P w=.ok (.enter (ρ.f 172) args) w):fF.Ok P (ρ.f 172):=by
 refine dV hc ?_
 intro t w vs U hU hg hp hR
 replace hp:t.length<=1000000:=hp
 simp only [fF,R] at hR
 obtain ⟨v1,r1,rfl,e1,rfl⟩:=hR
 obtain rfl:=List.singleton_inj.1 e1
 have hsz:ByteArray.size ⟨t.toArray⟩=t.length:=by rw [Lib.size_eq]
 cases hA:Lib.atoiAll t with
 | ok v =>
  refine (Any.strconv_Atoi_ok L ⟨t.toArray⟩ (by rw [hsz]; omega) v hA w).mono ?_
  rintro e w' ⟨rfl,hw⟩
  refine ⟨_,rfl,?_,?_⟩
  ·rcases hw with rfl|⟨s,rfl⟩
   ·exact Below.refl _ _
   ·exact .kY (Go.Joins.below_bytesWorld _ w _ s (Nat.le_refl _)) (DLe.no hD)
  ·simp only [fF,R,aM,hA]
   exact ⟨_,rfl,_,_,rfl,rfl,_,_,rfl,⟨_,rfl⟩,rfl⟩
 | range =>
  obtain ⟨ev,h1,h2⟩:=hg.r
  refine (Any.strconv_Atoi_range L ⟨t.toArray⟩ (by rw [hsz]; omega) hA ev w (by rw [h16]; exact h1) h2).mono ?_
  rintro e w' ⟨N,rfl,_,_,hb⟩
  refine ⟨_,rfl,.kY hb (DLe.no hD),?_⟩
  simp only [fF,R,aM,hA]
  exact ⟨_,rfl,_,_,rfl,rfl,_,_,rfl,⟨_,rfl⟩,rfl⟩
 | _ =>
  obtain ⟨ev,h1,h2⟩:=hg.s
  refine (Any.strconv_Atoi_syntax L ⟨t.toArray⟩ (by rw [hsz]; omega) hA ev w (by rw [h15]; exact h1) h2).mono ?_
  rintro e w' ⟨N,rfl,_,_,hb⟩
  refine ⟨_,rfl,.kY hb (DLe.no hD),?_⟩
  simp only [fF,R,aM,hA]
  exact ⟨_,rfl,_,_,rfl,rfl,_,_,rfl,⟨_,rfl⟩,rfl⟩
def tA:Spec where
 X:=Int
 args:=fun x=>.cons (.int .i64 x) .nil
 pre:=fun x=>-9223372036854775808<=x/\x<=9223372036854775807
 res:=fun x=>.str (Lib.itoa x)
 inst:=fun s=>match s with
  | .cons (.int _ t) _=>some t
  | _=>none
theorem below_grown (hD:DRN=false) (w:World) (k:Nat) (os:Array Obj):Below w.heap.size w (grow (w.drewN k) os) :=
 ⟨rfl,rfl,rfl,by rw [size_grow]; exact Nat.le_add_right _ _,fun i hi=>heap_grow_old (w.drewN k) os hi,DLe.no hD⟩
theorem below_drewN (hD:DRN=false) (w:World) (k:Nat):Below w.heap.size w (w.drewN k):=⟨rfl,rfl,rfl,Nat.le_refl _,fun _ _=>rfl,DLe.no hD⟩
theorem M6 (hD : DRN = false) {P : Program} {ρ : Ren} (L : LaysM.n171 P ρ) (hn : P.globalNamed "internal/strconv.uint64pow10" = some I9) (hc : ∀ args w, (callFunc (ρ.f 171) args).run P w = .ok (.enter (ρ.f 171) args) w) : tA.Ok P (ρ.f 171) := by
 refine dV hc ?_
 rintro n w vs U hU hg ⟨h0,h1⟩ hR
 simp only [tA,R] at hR
 obtain ⟨v1,r1,rfl,e1,rfl⟩:=hR
 obtain rfl:=List.singleton_inj.1 e1
 refine (Any.strconv_Itoa L n h0 h1 w (by rw [<- Gu]; exact hg.tab hn)).mono ?_
 rintro e w' ⟨rfl,k,os,rfl⟩
 exact ⟨_,rfl,below_grown hD w k os,by simp only [tA,R]⟩
def Bu:Spec where
 X:=List UInt8×List UInt8
 args:=fun x=>.cons (.str x.1) (.cons (.str x.2) .nil)
 pre:=fun x=>x.1.length<=1000000
 res:=fun x=>.tup (.cons (.str (Lib.cut x.1 x.2).1) (.cons (.str (Lib.cut x.1 x.2).2.1) (.cons (.bool (Lib.cut x.1 x.2).2.2) .nil)))
 inst:=fun s=>match s with
  | .cons (.str t) (.cons (.str c) _)=>some (t,c)
  | _=>none
theorem Qd (hD:DRN=false) {P:Program} {ρ:Ren} (L:Lays.n145 P ρ) (h1:ρ.g 1=Ga) (hc:∀ args w,(callFunc (ρ.f 145) args).run P w=.ok (.enter (ρ.f 145) args) w):Bu.Ok P (ρ.f 145):=by
 refine dV hc ?_
 rintro ⟨t,c⟩ w vs U hU hg hp hR
 replace hp:t.length<=1000000:=hp
 simp only [Bu,R] at hR
 obtain ⟨v1,r1,rfl,e1,v2,r2,rfl,e2,rfl⟩:=hR
 obtain rfl:=List.singleton_inj.1 e1
 obtain rfl:=List.singleton_inj.1 e2
 obtain ⟨m,hm⟩:=hg.m
 refine (Any.strings_Cut L ⟨t.toArray⟩ ⟨c.toArray⟩ m w (by rw [Lib.size_eq]; simp; omega) (by rw [h1]; exact hm)).mono ?_
 rintro e w' ⟨rfl,n,rfl⟩
 refine ⟨_,rfl,below_drewN hD w n,?_⟩
 simp only [Bu,R]
 exact ⟨_,rfl,_,_,rfl,rfl,_,_,rfl,rfl,_,_,rfl,rfl,rfl⟩
def gW:Spec where
 X:=List UInt8×List UInt8
 args:=fun x=>.cons (.str x.1) (.cons (.str x.2) .nil)
 pre:=fun _=>True
 res:=fun x=>.str (Lib.trimPrefix x.1 x.2)
 inst:=fun s=>match s with
  | .cons (.str t) (.cons (.str c) _)=>some (t,c)
  | _=>none
theorem uU {P:Program} {ρ:Ren} (L:Lays.n101 P ρ) (hc:∀ args w,(callFunc (ρ.f 101) args).run P w=.ok (.enter (ρ.f 101) args) w):gW.Ok P (ρ.f 101):=by
 refine jW hc ?_
 rintro ⟨t,c⟩ w vs U _ _ hR
 simp only [gW,R] at hR
 obtain ⟨v1,r1,rfl,h1,v2,r2,rfl,h2,rfl⟩:=hR
 obtain rfl:=List.singleton_inj.1 h1
 obtain rfl:=List.singleton_inj.1 h2
 exact ⟨_,Any.strings_TrimPrefix L ⟨t.toArray⟩ ⟨c.toArray⟩ w,fun E=>by simp only [gW,R]⟩
def tZ:Spec where
 X:=List UInt8×UInt8
 args:=fun x=>.cons (.str x.1) (.cons (.str [x.2]) .nil)
 pre:=fun x=>x.1.length<=1000000
 res:=fun x=>.slice 1 (Lib.split x.1 [x.2]).length fun i=>.cons (.str ((Lib.split x.1 [x.2]).getD i [])) .nil
 inst:=fun s=>match s with
  | .cons (.str t) (.cons (.str [c]) _)=>some (t,c)
  | _=>none
theorem Kx {P:Program} {ρ:Ren} (L:Lays.n146 P ρ) (hi9:(P.info? (ρ.t 9)).map (fun i=>(i.zero,i.size,i.bytes))=some (some (.string ByteArray.empty),1,16)) (h1:ρ.g 1=Ga) (hc:∀ args w,(callFunc (ρ.f 146) args).run P w=.ok (.enter (ρ.f 146) args) w):tZ.Ok P (ρ.f 146):=by
 refine dV hc ?_
 rintro ⟨t,c⟩ w vs U hU hg hp hR
 replace hp:t.length<=1000000:=hp
 simp only [tZ,R] at hR
 obtain ⟨v1,r1,rfl,e1,v2,r2,rfl,e2,rfl⟩:=hR
 obtain rfl:=List.singleton_inj.1 e1
 obtain rfl:=List.singleton_inj.1 e2
 obtain ⟨m,hm⟩:=hg.m
 refine (Any.strings_Split L hi9 ⟨t.toArray⟩ ⟨[c].toArray⟩ m w (by rw [Lib.size_eq]; simp; omega) (by rw [h1]; exact hm) (by rw [Lib.size_eq]; simp)).mono ?_
 rintro e w' ⟨rfl,rfl⟩
 have hall:=Lib.splitB_all (⟨[c].toArray⟩:ByteArray) (by rw [Lib.size_eq]; simp) 0 (Lib.countB ⟨t.toArray⟩ ⟨[c].toArray⟩) ⟨t.toArray⟩ rfl
 have hdat:=Lib.splitB_data (⟨[c].toArray⟩:ByteArray) 0 (Lib.countB ⟨t.toArray⟩ ⟨[c].toArray⟩) ⟨t.toArray⟩
 have hsp:Lib.split t [c]=(Lib.splitB (⟨[c].toArray⟩:ByteArray) 0 (Lib.countB ⟨t.toArray⟩ ⟨[c].toArray⟩) ⟨t.toArray⟩).map (·.data.toList):=by
  rw [hdat]; rfl
 generalize Lib.splitB (⟨[c].toArray⟩:ByteArray) 0 (Lib.countB ⟨t.toArray⟩ ⟨[c].toArray⟩) ⟨t.toArray⟩=l at hall hsp
 have hlen:(Lib.split t [c]).length=l.length:=by rw [hsp]; simp
 refine ⟨_,rfl,(Below.refl _ _).alloc (Nat.le_refl _) _,?_⟩
 simp only [tZ,R,hlen]
 refine ⟨_,_,by rw [hall],Nat.le_of_eq hall,fun i hi=>?_⟩
 refine ⟨w.heap.size,0,[.string l[i]],rfl,.inr ⟨Nat.le_refl _,by simp,?_⟩,⟨_,_,rfl,?_,rfl⟩,rfl,?_⟩
 ·intro ds e
  rw [heap_alloc_new] at e
  cases e
 ·have:(Lib.split t [c]).getD i []=l[i].data.toList:=by
   rw [hsp,List.getD_eq_getElem?_getD]; simp [hi]
  rw [this]
 ·intro j v hj
  cases j with
  | zero =>
   simp only [List.getElem?_cons_zero,Option.some.injEq] at hj
   subst hj
   have hh:(w.alloc (.cells (l.map Value.string).toArray (ρ.t 9))).heap[w.heap.size]?=some (.cells (l.map Value.string).toArray (ρ.t 9) (0,0)):=by rw [heap_alloc_new]
   show (w.alloc (.cells (l.map Value.string).toArray (ρ.t 9))).cell? ⟨w.heap.size,0+i * 1+0,none⟩=_
   simp only [World.cell?,hh]
   simp [hi]
  | succ j=>simp at hj
def vL:Spec where
 X:=Nat×(Nat->List UInt8)×List UInt8
 args:=fun x=>.cons (.slice 1 x.1 fun i=>.cons (.str (x.2.1 i)) .nil) (.cons (.str x.2.2) .nil)
 pre:=fun x=>x.1<=1000000/\(Lib.join ((List.range x.1).map x.2.1) x.2.2).length<=140737488355328
 res:=fun x=>.str (Lib.join ((List.range x.1).map x.2.1) x.2.2)
 inst:=fun s=>match s with
  | .cons (.slice _ n enc) (.cons (.str sep) _)=>some (n,(fun i=>match enc i with|.cons (.str t) _=>t|_=>[]),sep)
  | _=>none
theorem M8 (hD:DRN=false) {P:Program} {ρ:Ren} (L:Lays.n156 P ρ) (X:Builder.Extra P ρ) (hc:∀ args w,(callFunc (ρ.f 156) args).run P w=.ok (.enter (ρ.f 156) args) w):vL.Ok P (ρ.f 156):=by
 refine dV hc ?_
 rintro ⟨n,f,sep⟩ w vs U hU hg ⟨hn,hl⟩ hR
 replace hn:n<=1000000:=hn
 replace hl:(Lib.join ((List.range n).map f) sep).length<=140737488355328:=hl
 simp only [vL,R] at hR
 obtain ⟨v1,r1,rfl,⟨a,cap,e1,hcap,hel⟩,v2,r2,rfl,e2,rfl⟩:=hR
 obtain rfl:=List.singleton_inj.1 e1
 obtain rfl:=List.singleton_inj.1 e2
 rcases Nat.eq_zero_or_pos n with rfl|hpos
 ·refine (Any.strings_Join_none L X a cap ⟨sep.toArray⟩ w).mono ?_
  rintro e w' ⟨rfl,rfl⟩
  exact ⟨_,rfl,Below.refl _ _,by simp only [vL,R]; rfl⟩
 ·obtain ⟨b,o,cs,rfl,hb,_⟩:=hel 0 hpos
  have hmap:(((List.range n).map fun i=>(⟨(f i).toArray⟩:ByteArray)).map (·.data.toList))=(List.range n).map f:=by simp
  have:=Any.strings_Join L X b o cap ((List.range n).map fun i=>(⟨(f i).toArray⟩:ByteArray)) ⟨sep.toArray⟩ w (by
   intro j x hj
   have hjn:j < n:=by
    rcases Nat.lt_or_ge j n with h|h
    ·exact h
    ·rw [List.getElem?_eq_none (by simpa using h)] at hj; cases hj
   obtain ⟨b',o',cs',e',_,⟨v,r,rfl,e3,rfl⟩,_,hh⟩:=hel j hjn
   obtain ⟨rfl,rfl⟩:b=b'/\o=o':=by simpa using e'
   obtain rfl:=List.singleton_inj.1 e3
   have:=hh 0 _ rfl
   have hx:x=⟨(f j).toArray⟩:=by simpa [hjn] using hj.symm
   rw [hx]
   simpa using this) (hU b hb).1 (by simp; omega) (by simp; exact hcap) (by rw [hmap]; exact hl)
  rw [hmap] at this
  have hlen:((List.range n).map fun i=>(⟨(f i).toArray⟩:ByteArray)).length=n:=by simp
  rw [hlen] at this
  refine this.mono ?_
  rintro e w' ⟨rfl,hbl⟩
  exact ⟨_,rfl,.kY hbl (DLe.no hD),by simp only [vL,R]⟩
end Go.Eng
end
section
open Go Go.Eng Go.Proofs
set_option maxRecDepth 100000
namespace V2
theorem atoi:fF.Ok Tryz.prog 120:=Bo rfl Tryz.Es (by kernel_rfl) (by kernel_rfl) (enters_of Tryz.Es.f172 (by kernel_rfl) rfl)
theorem itoa:tA.Ok Tryz.prog 27:=M6 rfl Tryz.Et (by kernel_rfl) (enters_of Tryz.Et.f171 (by kernel_rfl) rfl)
theorem cut:Bu.Ok Tryz.prog 73:=Qd rfl Tryz.lays145 (by kernel_rfl) (enters_of Tryz.lays145.f145 (by kernel_rfl) rfl)
theorem trimPrefix:gW.Ok Tryz.prog 74:=uU Tryz.lays101 (enters_of Tryz.lays101.f101 (by kernel_rfl) rfl)
theorem split:tZ.Ok Tryz.prog 163:=Kx Tryz.lays146 (by kernel_rfl) (by kernel_rfl) (enters_of Tryz.lays146.f146 (by kernel_rfl) rfl)
theorem extra:Builder.Extra Tryz.prog Tryz.qT where
 t5:=by kernel_rfl
 a5:=Tryz.isAgg5
 z5:=Tryz.sizeOf5
 v5:=Tryz.zeroValue5
 infoByte:=by kernel_rfl
 cellsByte:=by kernel_rfl
 sizeByte:=by kernel_rfl
 neB5:=by decide
 sizeBuilder:=by kernel_rfl
 liesBuilder:=by kernel_rfl
theorem join:vL.Ok Tryz.prog 32:=M8 rfl Tryz.lays156 extra (enters_of Tryz.lays156.f156 (by kernel_rfl) rfl)
end V2
end
