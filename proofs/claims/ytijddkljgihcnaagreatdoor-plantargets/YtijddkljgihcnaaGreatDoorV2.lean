/- A part of the proof. -/
import Derived.Test.YtijddkljgihcnaaGreatDoorL5
import Derived.Lib.IndexLaws
import Derived.Test.YtijddkljgihcnaaGreatDoorProg
import Derived.Ground.NamesProg
import Derived.Ground.GgwProg
import Derived.KernelRfl
import Derived.Shelf.Strconv.AtoiAll
import Derived.Shelf.Strconv.Itoa3
import Derived.Shelf.Strings.Cut
import Derived.Shelf.Strings.Split
import Derived.Shelf.Strings.Prefix
import Derived.Shelf.Strings.OnBuilder
import Derived.Shelf.Strings.IndexAnyAll
import Derived.Shelf.GgClosure.StringsRunes
import Derived.Shelf.Strconv.Atoi
import Derived.Lib.SmallJoins
section
open Go Go.Eng Go.Proofs L1 L2 L3 L4
set_option maxRecDepth 100000
namespace L6
def w1 (t:List UInt8) (f:Nat->Int) (j:Int):Int:=j+(whl ⟨t,f,j,1,fun _=>1⟩:Nat)
def nl (t:List UInt8) (j:Int):Int:=Lib.indexByte (t.drop j.toNat) 10
def tl (t:List UInt8) (f:Nat->Int):Nat->Int->Int
 | 0,j=>j
 | m+1,j=>if atV t f j=2 then (if nl t j < 0 then t.length else tl t f m (w1 t f (j+nl t j))) else j
def gap (t:List UInt8) (f:Nat->Int) (i:Int):Int:=tl t f (t.length+1) (w1 t f i)
theorem whl1 {t:List UInt8} {f:Nat->Int} {j:Int} {cs:Nat->Int} (h:cs 0=1):whl ⟨t,f,j,1,cs⟩=whl ⟨t,f,j,1,fun _=>1⟩:=by
 have e:lZ f 1 cs=lZ f 1 fun _=>1:=by
  funext b
  unfold lZ
  have:(∃ i,i < 1/\cs i=f b.toNat) ↔ (∃ i,i < 1/\(1:Int)=f b.toNat) :=
   ⟨fun ⟨i,h1,h2⟩=>⟨0,by omega,by rw [<- h2,show i=0 by omega,h]⟩,fun ⟨i,h1,h2⟩=>⟨0,by omega,by rw [h]; exact h2⟩⟩
  simp only [this]
 unfold whl
 simp only [e]
theorem Ei {t:List UInt8} {f:Nat->Int} {j:Int} (h0:0<=j) (h1:j<=(t.length:Int)):j<=w1 t f j/\w1 t f j<=(t.length:Int):=by
 have h:whl ⟨t,f,j,1,fun _=>1⟩<=t.length - j.toNat:=qG
 unfold w1
 omega
theorem Ox {t:List UInt8} {f:Nat->Int} {j:Int} (h0:0<=j) (h1:j<=(t.length:Int)) (h3:f 10≠2) (hg:atV t f j=2) (hn:¬ nl t j < 0):nl t j+j < (t.length:Int)/\1<=nl t j:=by
 have hs:=Lib.indexByte_some (l:=t.drop j.toNat) (c:=10) (o:=(nl t j).toNat) (by show nl t j=_; omega)
 obtain ⟨hs,_⟩:=hs
 rw [List.getElem?_drop] at hs
 obtain ⟨hl,he⟩:=List.getElem?_eq_some_iff.1 hs
 refine ⟨by omega,?_⟩
 by_cases e:nl t j=0
 ·exfalso
  apply h3
  unfold atV at hg
  have hj:¬ (j>=(t.length:Int)):=by omega
  rw [decide_eq_false hj,cond_false] at hg
  have e2:t.getD j.toNat 0=10:=by
   rw [List.getD_eq_getElem?_getD]
   rw [e] at hs
   simp only [Int.toNat_zero,Nat.add_zero] at hs
   rw [hs]; rfl
  rw [e2] at hg
  exact hg
 ·omega
def g92:List Nat:=[13,26,5,0,1,4]
def c92:aH :=
 .seq (.region g92 [(zo 4 (.move (cj 0)))]) (.seq (.seq (.region g92 [(mv 6 0),(mv 7 1),(zo 8 (.buildSl 3 1 1 (.cons (.int .i64 0) .nil) [(0,1,cj 1)])),(zo 9 (.call (.c (.fn 128)) [.s 6,.s 7,.s 8])),(mv 1 9)]) (.block 0 (.loop 0 [10,11,12,13,18,19,20,21,22,23,24,5,25,26,27,28,29,30,31,4,32,33,34,14,15,16,17,1] (.seq (.seq (.region g92 [(mv 10 0),(mv 11 1),(zo 12 (.call (.c (.fn 129)) [.s 10,.s 11])),(zo 13 (.bin (.eql) (.s 12) (cj 2)))]) (.cond (.s 13) .skip (.exit 0))) (.seq (.block 1 (.seq (.region g92 [(mv 18 0),(zo 19 (.nilCheck (.s 18))),(fa 20 0 19),(ld 21 20),(mv 22 1),(zo 23 (.sliceStr (.s 21) (some (.s 22)) none)),(zo 24 (.call (.c (.fn 130)) [.s 23,.c (.int (.u8) 10)])),(mv 5 24)]) (.seq (.seq (.region g92 [(mv 25 5),(zo 26 (.bin (.lss) (.s 25) (cj 0)))]) (.cond (.s 26) (.seq (.region g92 [(mv 27 0),(zo 28 (.nilCheck (.s 27))),(fa 29 0 28),(ld 30 29),(zo 31 (.lenStr (.s 30))),(mv 4 31)]) .ret) .skip)) (.region g92 [(mv 32 1),(mv 33 5),(zo 34 (.bin (.add) (.s 32) (.s 33))),(mv 1 34)])))) (.region g92 [(mv 14 0),(mv 15 1),(zo 16 (.buildSl 3 1 1 (.cons (.int .i64 0) .nil) [(0,1,cj 1)])),(zo 17 (.call (.c (.fn 128)) [.s 14,.s 15,.s 16])),(mv 1 17)])))))) (.seq (.region g92 [(mv 35 1),(mv 4 35)]) .ret))
theorem e92:aI Tryz.prog 92 g92 [] [] []=some (c92,[.slot 4],36):=by kernel_rfl
def Ui:Eng.Spec where
 X:=AtX
 args:=atS.args
 pre:=fun x=>0<=x.2.2/\x.2.2<=(x.1.length:Int)/\x.1.length<=1000000/\x.2.1 10≠2
 res:=fun x=>.int .i64 (gap x.1 x.2.1 x.2.2)
 inst:=atS.inst
theorem Ql:Ui.Ok Tryz.prog 92:=by
 refine Eng.Spec.cY e92 .nil (fun _=>[(128,.p Tn),(129,.p atS),(130,.p hM)]) (fun _ _=>aA.p K6 (aA.p Hb (aA.p L5.indexByte aA.nil))) ?_
 rintro ⟨t,f,i⟩ ⟨(h0:0<=i),(h1:i<=(t.length:Int)),(h2:t.length<=1000000),(h3:f 10≠2)⟩
 refine ⟨trivial,?_⟩
 repeat' (first|apply And.intro|exact trivial|exact rfl|exact fun (j:Nat) (_:j < 256)=>rfl|exact h0|exact h1|exact h2)
 ·exact (by decide:(1:Nat)<=1000000)
 have ew:∀ (j:Int) (cs:Nat->Int),cs 0=1->j+((whl ⟨t,f,j,1,cs⟩:Nat):Int)=w1 t f j:=fun j cs h=>by unfold w1; rw [whl1 h]
 refine ⟨⟨Nat×Int,fun x=>(0<=x.2/\x.2<=(t.length:Int))/\(t.length:Int) - x.2 < x.1/\tl t f x.1 x.2=gap t f i,fun x=>[(1,.int .i64 x.2)],fun _=>[],fun x=>x.1⟩,(t.length+1,w1 t f i),?_,?_,?_⟩
 ·obtain ⟨w2,w3⟩:=Ei (f:=f) h0 h1
  exact ⟨⟨by show 0<=w1 t f i; omega,w3⟩,by show (t.length:Int) - w1 t f i < ((t.length+1:Nat):Int); omega,rfl⟩
 ·repeat' (first|apply And.intro|exact trivial|exact rfl|exact fun (j:Nat) (_:j < 256)=>rfl|exact ew _ _ rfl)
 rintro ⟨m,j⟩ ⟨⟨(k0:0<=j),(k1:j<=(t.length:Int))⟩,(k2:(t.length:Int) - j < m),(k3:tl t f m j=gap t f i)⟩
 obtain ⟨m,rfl⟩:∃ q,m=q+1:=⟨m - 1,by omega⟩
 repeat' (first|apply And.intro|exact trivial|exact rfl|exact fun (j:Nat) (_:j < 256)=>rfl|exact k0)
 ·refine fun (hg:decide (atV t f j=2)=true)=>?_
  have hg:=of_decide_eq_true hg
  rw [tl,if_pos hg] at k3
  repeat' (first|apply And.intro|exact trivial|exact rfl|exact fun (j:Nat) (_:j < 256)=>rfl|exact k0|exact k1)
  ·refine fun (hn:decide (nl t j < 0)=true)=>?_
   have hn:=of_decide_eq_true hn
   have e:(t.length:Int)=gap t f i:=by rw [<- k3,if_pos hn]
   repeat' (first|apply And.intro|exact trivial|exact rfl|exact e)
  ·refine fun (hn:decide (nl t j < 0)=false)=>?_
   have hn:=of_decide_eq_false hn
   rw [if_neg hn] at k3
   have n1:nl t j+j < (t.length:Int)/\1<=nl t j:=Ox k0 k1 h3 hg hn
   obtain ⟨n1,n2⟩:=n1
   have b1:-9223372036854775808<=j+nl t j:=by omega
   have b2:j+nl t j<=9223372036854775807:=by omega
   have c1:0<=j+nl t j:=by omega
   have c2:j+nl t j<=(t.length:Int):=by omega
   repeat' (first|apply And.intro|exact trivial|exact rfl|exact fun (j:Nat) (_:j < 256)=>rfl|exact b1|exact b2|exact c1|exact c2|exact h2)
   ·exact (by decide:(1:Nat)<=1000000)
   obtain ⟨w2,w3⟩:=Ei (f:=f) c1 c2
   have w4:0<=w1 t f (j+nl t j):=by omega
   have w5:(t.length:Int) - w1 t f (j+nl t j) < (m:Int):=by omega
   refine Exists.intro (m,w1 t f (j+nl t j)) ?_
   repeat' (first|apply And.intro|exact trivial|exact rfl|exact fun (j:Nat) (_:j < 256)=>rfl|exact ew _ _ rfl|exact w4|exact w3|exact w5|exact k3)
   exact Nat.lt_succ_self m
 ·refine fun (hg:decide (atV t f j=2)=false)=>?_
  have hg:=of_decide_eq_false hg
  have e:j=gap t f i:=by rw [<- k3,tl,if_neg hg]
  repeat' (first|apply And.intro|exact trivial|exact rfl|exact e)
end L6
end
section
namespace Go.Proofs
open Go.Shelf
set_option maxRecDepth 100000
def Tryz.zA:Go.Shelf.Ren:=⟨fun|172=>131|244=>191|245=>192|247=>229|279=>230|280=>231|281=>232|282=>233|287=>249|316=>250|171=>252|205=>251|321=>261|322=>262|243=>263|246=>270|283=>275|284=>276|285=>277|286=>278|129=>173|317=>281|318=>282|319=>283|320=>284|337=>286|338=>287|n=>n,fun|9=>9|3=>3|75=>170|76=>171|4=>4|5=>5|167=>229|37=>230|0=>0|85=>231|2=>2|168=>233|53=>190|175=>255|46=>151|210=>259|127=>274|145=>277|143=>275|21=>21|171=>285|173=>287|212=>290|51=>188|20=>20|213=>291|232=>298|233=>299|80=>300|n=>n,fun|15=>1|16=>2|17=>3|18=>6|19=>7|n=>n⟩
theorem Tryz.D6:Go.Proofs.LaysC.n172 Tryz.prog Tryz.zA:={
 mixed:=by kernel_rfl
 f129:=Tryz.func173.trans (congrArg some (by kernel_rfl))
 f171:=Tryz.func252.trans (congrArg some (by kernel_rfl))
 f172:=Tryz.func131.trans (congrArg some (by kernel_rfl))
 f205:=Tryz.func251.trans (congrArg some (by kernel_rfl))
 f243:=Tryz.func263.trans (congrArg some (by kernel_rfl))
 f244:=Tryz.func191.trans (congrArg some (by kernel_rfl))
 f245:=Tryz.func192.trans (congrArg some (by kernel_rfl))
 f246:=Tryz.func270.trans (congrArg some (by kernel_rfl))
 f247:=Tryz.func229.trans (congrArg some (by kernel_rfl))
 f279:=Tryz.func230.trans (congrArg some (by kernel_rfl))
 f280:=Tryz.func231.trans (congrArg some (by kernel_rfl))
 f281:=Tryz.func232.trans (congrArg some (by kernel_rfl))
 f282:=Tryz.func233.trans (congrArg some (by kernel_rfl))
 f283:=Tryz.func275.trans (congrArg some (by kernel_rfl))
 f284:=Tryz.func276.trans (congrArg some (by kernel_rfl))
 f285:=Tryz.func277.trans (congrArg some (by kernel_rfl))
 f286:=Tryz.func278.trans (congrArg some (by kernel_rfl))
 f287:=Tryz.func249.trans (congrArg some (by kernel_rfl))
 f316:=Tryz.func250.trans (congrArg some (by kernel_rfl))
 f317:=Tryz.func281.trans (congrArg some (by kernel_rfl))
 f318:=Tryz.func282.trans (congrArg some (by kernel_rfl))
 f319:=Tryz.func283.trans (congrArg some (by kernel_rfl))
 f320:=Tryz.func284.trans (congrArg some (by kernel_rfl))
 f321:=Tryz.func261.trans (congrArg some (by kernel_rfl))
 f322:=Tryz.func262.trans (congrArg some (by kernel_rfl))
 f337:=Tryz.func286.trans (congrArg some (by kernel_rfl))
 f338:=Tryz.func287.trans (congrArg some (by kernel_rfl))
 t0:=Tryz.underlying0
 a0:=Tryz.isAgg0
 z0:=Tryz.sizeOf0
 v0:=Tryz.zeroValue0
 t2:=Tryz.underlying2
 a2:=Tryz.isAgg2
 z2:=Tryz.sizeOf2
 v2:=Tryz.zeroValue2
 t3:=Tryz.underlying3
 a3:=Tryz.isAgg3
 z3:=Tryz.sizeOf3
 v3:=Tryz.zeroValue3
 t4:=Tryz.underlying4
 a4:=Tryz.isAgg4
 z4:=Tryz.sizeOf4
 v4:=Tryz.zeroValue4
 t5:=Tryz.underlying5
 a5:=Tryz.isAgg5
 z5:=Tryz.sizeOf5
 v5:=Tryz.zeroValue5
 t9:=Tryz.underlying9
 a9:=Tryz.isAgg9
 z9:=Tryz.sizeOf9
 v9:=Tryz.zeroValue9
 t20:=Tryz.underlying20
 a20:=Tryz.isAgg20
 z20:=Tryz.sizeOf20
 v20:=Tryz.zeroValue20
 t21:=Tryz.underlying21
 a21:=Tryz.isAgg21
 z21:=Tryz.sizeOf21
 v21:=Tryz.zeroValue21
 t37:=Tryz.underlying230
 a37:=Tryz.isAgg230
 z37:=Tryz.sizeOf230
 v37:=Tryz.zeroValue230
 t46:=Tryz.underlying151
 a46:=Tryz.isAgg151
 z46:=Tryz.sizeOf151
 v46:=Tryz.zeroValue151
 t51:=Tryz.underlying188
 a51:=Tryz.isAgg188
 z51:=Tryz.sizeOf188
 v51:=Tryz.zeroValue188
 t53:=Tryz.underlying190
 a53:=Tryz.isAgg190
 z53:=Tryz.sizeOf190
 v53:=Tryz.zeroValue190
 t75:=Tryz.underlying170
 a75:=Tryz.isAgg170
 z75:=Tryz.sizeOf170
 v75:=Tryz.zeroValue170
 t76:=Tryz.underlying171
 a76:=Tryz.isAgg171
 z76:=Tryz.sizeOf171
 v76:=Tryz.zeroValue171
 t85:=Tryz.underlying231
 a85:=Tryz.isAgg231
 z85:=Tryz.sizeOf231
 v85:=Tryz.zeroValue231
 t127:=Tryz.underlying274
 a127:=Tryz.isAgg274
 z127:=Tryz.sizeOf274
 v127:=Tryz.zeroValue274
 t143:=Tryz.underlying275
 a143:=Tryz.isAgg275
 z143:=Tryz.sizeOf275
 v143:=Tryz.zeroValue275
 t145:=Tryz.underlying277
 a145:=Tryz.isAgg277
 z145:=Tryz.sizeOf277
 v145:=Tryz.zeroValue277
 t167:=Tryz.underlying229
 a167:=Tryz.isAgg229
 z167:=Tryz.sizeOf229
 v167:=Tryz.zeroValue229
 t168:=Tryz.underlying233
 a168:=Tryz.isAgg233
 z168:=Tryz.sizeOf233
 v168:=Tryz.zeroValue233
 t171:=Tryz.underlying285
 a171:=Tryz.isAgg285
 z171:=Tryz.sizeOf285
 v171:=Tryz.zeroValue285
 t173:=Tryz.underlying287
 a173:=Tryz.isAgg287
 z173:=Tryz.sizeOf287
 v173:=Tryz.zeroValue287
 t175:=Tryz.underlying255
 a175:=Tryz.isAgg255
 z175:=Tryz.sizeOf255
 v175:=Tryz.zeroValue255
 t210:=Tryz.underlying259
 a210:=Tryz.isAgg259
 z210:=Tryz.sizeOf259
 v210:=Tryz.zeroValue259
 t212:=Tryz.underlying290
 a212:=Tryz.isAgg290
 z212:=Tryz.sizeOf290
 v212:=Tryz.zeroValue290
 t213:=Tryz.underlying291
 a213:=Tryz.isAgg291
 z213:=Tryz.sizeOf291
 t232:=Tryz.underlying298
 a232:=Tryz.isAgg298
 z232:=Tryz.sizeOf298
 v232:=Tryz.zeroValue298
 t233:=Tryz.underlying299
 a233:=Tryz.isAgg299
 z233:=Tryz.sizeOf299
 v233:=Tryz.zeroValue299
 g15:=by kernel_rfl
 g16:=by kernel_rfl
 g17:=by kernel_rfl
 g18:=by kernel_rfl
 g19:=by kernel_rfl
 t80:=Tryz.underlying300
 a80:=Tryz.isAgg300
 z80:=Tryz.sizeOf300
 v80:=Tryz.zeroValue300
 i0:=by kernel_rfl
 i2:=by kernel_rfl
 i3:=by kernel_rfl
 i4:=by kernel_rfl
 i5:=by kernel_rfl
 i9:=by kernel_rfl
 i20:=by kernel_rfl
 i21:=by kernel_rfl
 i37:=by kernel_rfl
 i46:=by kernel_rfl
 i51:=by kernel_rfl
 i53:=by kernel_rfl
 i75:=by kernel_rfl
 i76:=by kernel_rfl
 i80:=by kernel_rfl
 i85:=by kernel_rfl
 i127:=by kernel_rfl
 i143:=by kernel_rfl
 i145:=by kernel_rfl
 i167:=by kernel_rfl
 i168:=by kernel_rfl
 i171:=by kernel_rfl
 i173:=by kernel_rfl
 i175:=by kernel_rfl
 i210:=by kernel_rfl
 i212:=by kernel_rfl
 i232:=by kernel_rfl
 i233:=by kernel_rfl
 m15:=by kernel_rfl
 m16:=by kernel_rfl
 m17:=by kernel_rfl
 m18:=by kernel_rfl
 m19:=by kernel_rfl
 c0:=by kernel_rfl
 c2:=by kernel_rfl
 c3:=by kernel_rfl
 c4:=by kernel_rfl
 c5:=by kernel_rfl
 c9:=by kernel_rfl
 c20:=by kernel_rfl
 c21:=by kernel_rfl
 c37:=by kernel_rfl
 c46:=by kernel_rfl
 c51:=by kernel_rfl
 c53:=by kernel_rfl
 c75:=by kernel_rfl
 c76:=by kernel_rfl
 c80:=by kernel_rfl
 c85:=by kernel_rfl
 c127:=by kernel_rfl
 c143:=by kernel_rfl
 c145:=by kernel_rfl
 c167:=by kernel_rfl
 c168:=by kernel_rfl
 c171:=by kernel_rfl
 c173:=by kernel_rfl
 c175:=by kernel_rfl
 c210:=by kernel_rfl
 c212:=by kernel_rfl
 c213:=by kernel_rfl
 c232:=by kernel_rfl
 c233:=by kernel_rfl }
def Tryz.zD:Go.Shelf.Ren:=⟨fun|146=>241|221=>259|268=>267|138=>268|143=>269|195=>271|197=>272|218=>273|219=>274|260=>279|217=>190|225=>236|224=>235|267=>280|266=>228|314=>285|n=>n,fun|9=>9|31=>42|3=>3|4=>4|0=>0|105=>283|21=>21|5=>5|46=>151|119=>292|139=>295|138=>294|146=>296|51=>188|n=>n,fun|1=>0|3=>4|4=>5|n=>n⟩
theorem Tryz.lays146:Go.Proofs.Lays.n146 Tryz.prog Tryz.zD:={
 mixed:=by kernel_rfl
 f138:=Tryz.func268.trans (congrArg some (by kernel_rfl))
 f143:=Tryz.func269.trans (congrArg some (by kernel_rfl))
 f146:=Tryz.func241.trans (congrArg some (by kernel_rfl))
 f195:=Tryz.func271.trans (congrArg some (by kernel_rfl))
 f197:=Tryz.func272.trans (congrArg some (by kernel_rfl))
 f217:=Tryz.func190.trans (congrArg some (by kernel_rfl))
 f218:=Tryz.func273.trans (congrArg some (by kernel_rfl))
 f219:=Tryz.func274.trans (congrArg some (by kernel_rfl))
 f221:=Tryz.func259.trans (congrArg some (by kernel_rfl))
 f224:=Tryz.func235.trans (congrArg some (by kernel_rfl))
 f225:=Tryz.func236.trans (congrArg some (by kernel_rfl))
 f260:=Tryz.func279.trans (congrArg some (by kernel_rfl))
 f266:=Tryz.func228.trans (congrArg some (by kernel_rfl))
 f267:=Tryz.func280.trans (congrArg some (by kernel_rfl))
 f268:=Tryz.func267.trans (congrArg some (by kernel_rfl))
 f314:=Tryz.func285.trans (congrArg some (by kernel_rfl))
 t0:=Tryz.underlying0
 a0:=Tryz.isAgg0
 z0:=Tryz.sizeOf0
 v0:=Tryz.zeroValue0
 t3:=Tryz.underlying3
 a3:=Tryz.isAgg3
 z3:=Tryz.sizeOf3
 v3:=Tryz.zeroValue3
 t4:=Tryz.underlying4
 a4:=Tryz.isAgg4
 z4:=Tryz.sizeOf4
 v4:=Tryz.zeroValue4
 t5:=Tryz.underlying5
 a5:=Tryz.isAgg5
 z5:=Tryz.sizeOf5
 v5:=Tryz.zeroValue5
 t9:=Tryz.underlying9
 a9:=Tryz.isAgg9
 z9:=Tryz.sizeOf9
 v9:=Tryz.zeroValue9
 t21:=Tryz.underlying21
 a21:=Tryz.isAgg21
 z21:=Tryz.sizeOf21
 v21:=Tryz.zeroValue21
 t31:=Tryz.underlying42
 a31:=Tryz.isAgg42
 z31:=Tryz.sizeOf42
 v31:=Tryz.zeroValue42
 t46:=Tryz.underlying151
 a46:=Tryz.isAgg151
 z46:=Tryz.sizeOf151
 v46:=Tryz.zeroValue151
 t51:=Tryz.underlying188
 a51:=Tryz.isAgg188
 z51:=Tryz.sizeOf188
 v51:=Tryz.zeroValue188
 t105:=Tryz.underlying283
 a105:=Tryz.isAgg283
 z105:=Tryz.sizeOf283
 v105:=Tryz.zeroValue283
 t119:=Tryz.underlying292
 a119:=Tryz.isAgg292
 z119:=Tryz.sizeOf292
 t138:=Tryz.underlying294
 a138:=Tryz.isAgg294
 z138:=Tryz.sizeOf294
 v138:=Tryz.zeroValue294
 t139:=Tryz.underlying295
 a139:=Tryz.isAgg295
 z139:=Tryz.sizeOf295
 v139:=Tryz.zeroValue295
 t146:=Tryz.underlying296
 a146:=Tryz.isAgg296
 z146:=Tryz.sizeOf296
 v146:=Tryz.zeroValue296
 g1:=by kernel_rfl
 g3:=by kernel_rfl
 g4:=by kernel_rfl }
def Tryz.zF:Go.Shelf.Ren:=⟨fun|17=>210|15=>245|20=>260|n=>n,fun|9=>9|23=>214|4=>4|3=>3|0=>0|21=>21|n=>n,fun n=>n⟩
theorem Tryz.rL:Go.Proofs.LaysGw.n17 Tryz.prog Tryz.zF:={
 mixed:=by kernel_rfl
 f15:=Tryz.func245.trans (congrArg some (by kernel_rfl))
 f17:=Tryz.func210.trans (congrArg some (by kernel_rfl))
 f20:=Tryz.func260.trans (congrArg some (by kernel_rfl))
 t0:=Tryz.underlying0
 a0:=Tryz.isAgg0
 z0:=Tryz.sizeOf0
 v0:=Tryz.zeroValue0
 i0:=by kernel_rfl
 t3:=Tryz.underlying3
 a3:=Tryz.isAgg3
 z3:=Tryz.sizeOf3
 v3:=Tryz.zeroValue3
 i3:=by kernel_rfl
 t4:=Tryz.underlying4
 a4:=Tryz.isAgg4
 z4:=Tryz.sizeOf4
 v4:=Tryz.zeroValue4
 i4:=by kernel_rfl
 t9:=Tryz.underlying9
 a9:=Tryz.isAgg9
 z9:=Tryz.sizeOf9
 v9:=Tryz.zeroValue9
 i9:=by kernel_rfl
 t21:=Tryz.underlying21
 a21:=Tryz.isAgg21
 z21:=Tryz.sizeOf21
 v21:=Tryz.zeroValue21
 i21:=by kernel_rfl
 t23:=Tryz.underlying214
 a23:=Tryz.isAgg214
 z23:=Tryz.sizeOf214
 v23:=Tryz.zeroValue214
 i23:=by kernel_rfl }
def Tryz.zE:Go.Shelf.Ren:=⟨fun|153=>132|152=>193|226=>194|227=>195|228=>196|137=>130|119=>234|224=>235|225=>236|217=>190|266=>228|n=>n,fun|9=>9|3=>3|4=>4|5=>5|21=>21|117=>207|116=>206|0=>0|46=>151|124=>236|n=>n,fun n=>n⟩
theorem Tryz.lays153:Go.Proofs.Lays.n153 Tryz.prog Tryz.zE:={
 mixed:=by kernel_rfl
 f119:=Tryz.func234.trans (congrArg some (by kernel_rfl))
 f137:=Tryz.func130.trans (congrArg some (by kernel_rfl))
 f152:=Tryz.func193.trans (congrArg some (by kernel_rfl))
 f153:=Tryz.func132.trans (congrArg some (by kernel_rfl))
 f217:=Tryz.func190.trans (congrArg some (by kernel_rfl))
 f224:=Tryz.func235.trans (congrArg some (by kernel_rfl))
 f225:=Tryz.func236.trans (congrArg some (by kernel_rfl))
 f226:=Tryz.func194.trans (congrArg some (by kernel_rfl))
 f227:=Tryz.func195.trans (congrArg some (by kernel_rfl))
 f228:=Tryz.func196.trans (congrArg some (by kernel_rfl))
 f266:=Tryz.func228.trans (congrArg some (by kernel_rfl))
 t0:=Tryz.underlying0
 a0:=Tryz.isAgg0
 z0:=Tryz.sizeOf0
 v0:=Tryz.zeroValue0
 t3:=Tryz.underlying3
 a3:=Tryz.isAgg3
 z3:=Tryz.sizeOf3
 v3:=Tryz.zeroValue3
 t4:=Tryz.underlying4
 a4:=Tryz.isAgg4
 z4:=Tryz.sizeOf4
 v4:=Tryz.zeroValue4
 t5:=Tryz.underlying5
 a5:=Tryz.isAgg5
 z5:=Tryz.sizeOf5
 v5:=Tryz.zeroValue5
 t9:=Tryz.underlying9
 a9:=Tryz.isAgg9
 z9:=Tryz.sizeOf9
 v9:=Tryz.zeroValue9
 t21:=Tryz.underlying21
 a21:=Tryz.isAgg21
 z21:=Tryz.sizeOf21
 v21:=Tryz.zeroValue21
 t46:=Tryz.underlying151
 a46:=Tryz.isAgg151
 z46:=Tryz.sizeOf151
 v46:=Tryz.zeroValue151
 t116:=Tryz.underlying206
 a116:=Tryz.isAgg206
 z116:=Tryz.sizeOf206
 t117:=Tryz.underlying207
 a117:=Tryz.isAgg207
 z117:=Tryz.sizeOf207
 v117:=Tryz.zeroValue207
 t124:=Tryz.underlying236
 a124:=Tryz.isAgg236
 z124:=Tryz.sizeOf236
 v124:=Tryz.zeroValue236 }
end Go.Proofs
end
section
namespace Go.Eng
open Go Go.RowKit Go.Proofs Go.Shelf Go.Sort
theorem iP {P:Program} {f:Nat} {S:Spec} (hc:∀ args w,(callFunc f args).run P w=.ok (.enter f args) w)
  (h:∀ (x:S.X) (w:World) (vs:List Value) (U:Nat->Prop),(∀ b,U b->b < w.heap.size/\Plain w b)->GV w->S.pre x->R (eM U w) (S.args x) vs ->
   Calls P f vs.toArray w fun e w'=>∃ v,e=.returned v/\Below w.heap.size w w'/\R (eM (Ct S.fresh U w w') w') (S.res x) [v]):S.Ok P f:=by
 refine ⟨hc,?_⟩
 intro x w vs U hU hg hp hR
 refine (h x w vs U hU hg hp hR).mono ?_
 rintro e w' ⟨v,rfl,h1,h2⟩
 exact ⟨h2,h1⟩
theorem DLe.no {w w':World} (h:DRN=false):DLe w w':=fun e=>by rw [h] at e; cases e
def uJ (s:List UInt8):Int:=match Lib.atoiAll s with
 | .ok v=>v
 | .range=>Lib.atoiSat s
 | _=>0
def gW:Spec where
 X:=List UInt8
 args:=fun x=>.cons (.str x) .nil
 pre:=fun x=>x.length<=1000000
 res:=fun x=>.tup (.cons (.int .i64 (uJ x)) (.cons .junk .nil))
 inst:=fun s=>match s with
  | .cons (.str t) _=>some t
  | _=>none
theorem A6 (hD:DRN=false) {P:Program} {ρ:Ren} (L:LaysC.n172 P ρ) (h15:ρ.g 15=Ih) (h16:ρ.g 16=Ig) (hc:∀ args w,(callFunc (ρ.f 172) args).run P w=.ok (.enter (ρ.f 172) args) w):gW.Ok P (ρ.f 172):=by
 refine iP hc ?_
 intro t w vs U hU hg hp hR
 replace hp:t.length<=1000000:=hp
 simp only [gW,R] at hR
 obtain ⟨v1,r1,rfl,e1,rfl⟩:=hR
 obtain rfl:=List.singleton_inj.1 e1
 have hsz:ByteArray.size ⟨t.toArray⟩=t.length:=by rw [Lib.size_eq]
 cases hA:Lib.atoiAll t with
 | ok v =>
  refine (Any.strconv_Atoi_ok L ⟨t.toArray⟩ (by rw [hsz]; omega) v hA w).mono ?_
  rintro e w' ⟨rfl,hw⟩
  refine ⟨_,rfl,?_,?_⟩
  ·rcases hw with rfl|⟨s,rfl⟩
   ·exact Below.refl _ _
   ·exact .nF (Go.Joins.below_bytesWorld _ w _ s (Nat.le_refl _)) (DLe.no hD)
  ·simp only [gW,R,uJ,hA]
   exact ⟨_,rfl,_,_,rfl,rfl,_,_,rfl,⟨_,rfl⟩,rfl⟩
 | range =>
  obtain ⟨ev,h1,h2⟩:=hg.r
  refine (Any.strconv_Atoi_range L ⟨t.toArray⟩ (by rw [hsz]; omega) hA ev w (by rw [h16]; exact h1) h2).mono ?_
  rintro e w' ⟨N,rfl,_,_,hb⟩
  refine ⟨_,rfl,.nF hb (DLe.no hD),?_⟩
  simp only [gW,R,uJ,hA]
  exact ⟨_,rfl,_,_,rfl,rfl,_,_,rfl,⟨_,rfl⟩,rfl⟩
 | _ =>
  obtain ⟨ev,h1,h2⟩:=hg.s
  refine (Any.strconv_Atoi_syntax L ⟨t.toArray⟩ (by rw [hsz]; omega) hA ev w (by rw [h15]; exact h1) h2).mono ?_
  rintro e w' ⟨N,rfl,_,_,hb⟩
  refine ⟨_,rfl,.nF hb (DLe.no hD),?_⟩
  simp only [gW,R,uJ,hA]
  exact ⟨_,rfl,_,_,rfl,rfl,_,_,rfl,⟨_,rfl⟩,rfl⟩
theorem below_drewN (hD:DRN=false) (w:World) (k:Nat):Below w.heap.size w (w.drewN k):=⟨rfl,rfl,rfl,Nat.le_refl _,fun _ _=>rfl,DLe.no hD⟩
def tI:Spec where
 X:=List UInt8×UInt8
 args:=fun x=>.cons (.str x.1) (.cons (.str [x.2]) .nil)
 pre:=fun x=>x.1.length<=1000000
 res:=fun x=>.slice 1 (Lib.split x.1 [x.2]).length fun i=>.cons (.str ((Lib.split x.1 [x.2]).getD i [])) .nil
 inst:=fun s=>match s with
  | .cons (.str t) (.cons (.str [c]) _)=>some (t,c)
  | _=>none
theorem Kh {P:Program} {ρ:Ren} (L:Lays.n146 P ρ) (hi9:(P.info? (ρ.t 9)).map (fun i=>(i.zero,i.size,i.bytes))=some (some (.string ByteArray.empty),1,16)) (h1:ρ.g 1=Ie) (hc:∀ args w,(callFunc (ρ.f 146) args).run P w=.ok (.enter (ρ.f 146) args) w):tI.Ok P (ρ.f 146):=by
 refine iP hc ?_
 rintro ⟨t,c⟩ w vs U hU hg hp hR
 replace hp:t.length<=1000000:=hp
 simp only [tI,R] at hR
 obtain ⟨v1,r1,rfl,e1,v2,r2,rfl,e2,rfl⟩:=hR
 obtain rfl:=List.singleton_inj.1 e1
 obtain rfl:=List.singleton_inj.1 e2
 obtain ⟨m,hm⟩:=hg.m
 refine (Any.strings_Split L hi9 ⟨t.toArray⟩ ⟨[c].toArray⟩ m w (by rw [Lib.size_eq]; simp; omega) (by rw [h1]; exact hm) (by rw [Lib.size_eq]; simp)).mono ?_
 rintro e w' ⟨rfl,rfl⟩
 have hall:=Lib.splitB_all (⟨[c].toArray⟩:ByteArray) (by rw [Lib.size_eq]; simp) 0 (Lib.countB ⟨t.toArray⟩ ⟨[c].toArray⟩) ⟨t.toArray⟩ rfl
 have hdat:=Lib.splitB_data (⟨[c].toArray⟩:ByteArray) 0 (Lib.countB ⟨t.toArray⟩ ⟨[c].toArray⟩) ⟨t.toArray⟩
 have hsp:Lib.split t [c]=(Lib.splitB (⟨[c].toArray⟩:ByteArray) 0 (Lib.countB ⟨t.toArray⟩ ⟨[c].toArray⟩) ⟨t.toArray⟩).map (·.data.toList):=by
  rw [hdat]; rfl
 generalize Lib.splitB (⟨[c].toArray⟩:ByteArray) 0 (Lib.countB ⟨t.toArray⟩ ⟨[c].toArray⟩) ⟨t.toArray⟩=l at hall hsp
 have hlen:(Lib.split t [c]).length=l.length:=by rw [hsp]; simp
 refine ⟨_,rfl,(Below.refl _ _).alloc (Nat.le_refl _) _,?_⟩
 simp only [tI,R,hlen]
 refine ⟨_,_,by rw [hall],Nat.le_of_eq hall,fun i hi=>?_⟩
 refine ⟨w.heap.size,0,[.string l[i]],rfl,.inr ⟨Nat.le_refl _,by simp,?_⟩,⟨_,_,rfl,?_,rfl⟩,rfl,?_⟩
 ·intro ds e
  rw [heap_alloc_new] at e
  cases e
 ·have:(Lib.split t [c]).getD i []=l[i].data.toList:=by
   rw [hsp,List.getD_eq_getElem?_getD]; simp [hi]
  rw [this]
 ·intro j v hj
  cases j with
  | zero =>
   simp only [List.getElem?_cons_zero,Option.some.injEq] at hj
   subst hj
   have hh:(w.alloc (.cells (l.map Value.string).toArray (ρ.t 9))).heap[w.heap.size]?=some (.cells (l.map Value.string).toArray (ρ.t 9) (0,0)):=by rw [heap_alloc_new]
   show (w.alloc (.cells (l.map Value.string).toArray (ρ.t 9))).cell? ⟨w.heap.size,0+i * 1+0,none⟩=_
   simp only [World.cell?,hh]
   simp [hi]
  | succ j=>simp at hj
end Go.Eng
end
section
open Go Go.Eng Go.Proofs
set_option maxRecDepth 100000
namespace V2
theorem atoi:gW.Ok Tryz.prog 131:=A6 rfl Tryz.D6 (by kernel_rfl) (by kernel_rfl) (enters_of Tryz.D6.f172 (by kernel_rfl) rfl)
theorem split:tI.Ok Tryz.prog 241:=Kh Tryz.lays146 (by kernel_rfl) (by kernel_rfl) (enters_of Tryz.lays146.f146 (by kernel_rfl) rfl)
end V2
end
