/- A part of the proof. -/
import Derived.Test.YtlfdokecdilkcaaGreatDoorV2
import Derived.Shelf.Strings.SlTrimAscii
import Derived.Test.YtlfdokecdilkcaaGreatDoorN1
import Derived.WalkKit
import Derived.Lib.Split
import Derived.Lib.IndexMore
section
namespace Go.Proofs
open Go.Shelf
set_option maxRecDepth 100000
def Tryz.Ad:Go.Shelf.Ren:=⟨fun|162=>155|232=>183|227=>184|234=>185|236=>186|228=>208|271=>209|151=>210|120=>221|197=>222|152=>211|260=>226|137=>190|119=>223|224=>176|225=>175|217=>174|266=>203|n=>n,fun|9=>9|4=>4|3=>3|5=>5|117=>192|116=>191|0=>0|124=>195|21=>21|105=>219|46=>180|119=>232|139=>235|138=>234|n=>n,fun|3=>6|4=>7|n=>n⟩
theorem Tryz.lays162:Go.Proofs.Lays.n162 Tryz.prog Tryz.Ad:={
 mixed:=by kernel_rfl
 f119:=Tryz.func223.trans (congrArg some (by kernel_rfl))
 f120:=Tryz.func221.trans (congrArg some (by kernel_rfl))
 f137:=Tryz.func190.trans (congrArg some (by kernel_rfl))
 f151:=Tryz.func210.trans (congrArg some (by kernel_rfl))
 f152:=Tryz.func211.trans (congrArg some (by kernel_rfl))
 f162:=Tryz.func155.trans (congrArg some (by kernel_rfl))
 f197:=Tryz.func222.trans (congrArg some (by kernel_rfl))
 f217:=Tryz.func174.trans (congrArg some (by kernel_rfl))
 f224:=Tryz.func176.trans (congrArg some (by kernel_rfl))
 f225:=Tryz.func175.trans (congrArg some (by kernel_rfl))
 f227:=Tryz.func184.trans (congrArg some (by kernel_rfl))
 f228:=Tryz.func208.trans (congrArg some (by kernel_rfl))
 f232:=Tryz.func183.trans (congrArg some (by kernel_rfl))
 f234:=Tryz.func185.trans (congrArg some (by kernel_rfl))
 f236:=Tryz.func186.trans (congrArg some (by kernel_rfl))
 f260:=Tryz.func226.trans (congrArg some (by kernel_rfl))
 f266:=Tryz.func203.trans (congrArg some (by kernel_rfl))
 f271:=Tryz.func209.trans (congrArg some (by kernel_rfl))
 t0:=Tryz.underlying0
 a0:=Tryz.isAgg0
 z0:=Tryz.sizeOf0
 v0:=Tryz.zeroValue0
 t3:=Tryz.underlying3
 a3:=Tryz.isAgg3
 z3:=Tryz.sizeOf3
 v3:=Tryz.zeroValue3
 t4:=Tryz.underlying4
 a4:=Tryz.isAgg4
 z4:=Tryz.sizeOf4
 v4:=Tryz.zeroValue4
 t5:=Tryz.underlying5
 a5:=Tryz.isAgg5
 z5:=Tryz.sizeOf5
 v5:=Tryz.zeroValue5
 t9:=Tryz.underlying9
 a9:=Tryz.isAgg9
 z9:=Tryz.sizeOf9
 v9:=Tryz.zeroValue9
 t21:=Tryz.underlying21
 a21:=Tryz.isAgg21
 z21:=Tryz.sizeOf21
 v21:=Tryz.zeroValue21
 t46:=Tryz.underlying180
 a46:=Tryz.isAgg180
 z46:=Tryz.sizeOf180
 v46:=Tryz.zeroValue180
 t105:=Tryz.underlying219
 a105:=Tryz.isAgg219
 z105:=Tryz.sizeOf219
 v105:=Tryz.zeroValue219
 t116:=Tryz.underlying191
 a116:=Tryz.isAgg191
 z116:=Tryz.sizeOf191
 t117:=Tryz.underlying192
 a117:=Tryz.isAgg192
 z117:=Tryz.sizeOf192
 v117:=Tryz.zeroValue192
 t119:=Tryz.underlying232
 a119:=Tryz.isAgg232
 z119:=Tryz.sizeOf232
 t124:=Tryz.underlying195
 a124:=Tryz.isAgg195
 z124:=Tryz.sizeOf195
 v124:=Tryz.zeroValue195
 t138:=Tryz.underlying234
 a138:=Tryz.isAgg234
 z138:=Tryz.sizeOf234
 v138:=Tryz.zeroValue234
 t139:=Tryz.underlying235
 a139:=Tryz.isAgg235
 z139:=Tryz.sizeOf235
 v139:=Tryz.zeroValue235
 g3:=by kernel_rfl
 g4:=by kernel_rfl }
end Go.Proofs
namespace Go.Eng
open Go Go.RowKit Go.Proofs Go.Shelf Go.Sort
def az:List UInt8:=[97,98,99,100,101,102,103,104,105,106,107,108,109,110,111,112,113,114,115,116,117,118,119,120,121,122]
def pD:Spec where
 X:=List UInt8
 args:=fun x=>.cons (.str x) (.cons (.str [97,98,99,100,101,102,103,104,105,106,107,108,109,110,111,112,113,114,115,116,117,118,119,120,121,122]) .nil)
 pre:=fun x=>x.length<=1000000
 res:=fun x=>.str (Lib.trimRightS x az)
 inst:=fun s=>match s with
  | .cons (.str t) _=>some t
  | _=>none
theorem Hj (hD:DRN=false) {P:Program} {ρ:Ren} (L:Lays.n162 P ρ) (h116:(P.info? (ρ.t 116)).map (fun i=>(i.zero,i.size))=some (some (.agg (Array.replicate 256 (.bool false))),256))
  (hc:∀ args w,(callFunc (ρ.f 162) args).run P w=.ok (.enter (ρ.f 162) args) w):pD.Ok P (ρ.f 162):=by
 refine dV hc ?_
 intro t w vs U hU hg hp hR
 replace hp:t.length<=1000000:=hp
 simp only [pD,R] at hR
 obtain ⟨v1,r1,rfl,e1,v2,r2,rfl,e2,rfl⟩:=hR
 obtain rfl:=List.singleton_inj.1 e1
 obtain rfl:=List.singleton_inj.1 e2
 refine (Any.strings_TrimRight_laid L h116 ⟨t.toArray⟩ ⟨az.toArray⟩ w (by rw [Lib.size_eq]; simp; omega) (by rw [Lib.size_eq]; simp [az]) ?_).mono ?_
 ·intro j b hj
  have hm:b∈az:=List.mem_of_getElem? hj
  revert hm
  revert b
  intro b _ hm
  have:az.all (fun b=>decide (b.toNat < 128))=true:=by decide
  exact of_decide_eq_true (List.all_eq_true.1 this b hm)
 rintro e w' ⟨rfl,hb⟩
 exact ⟨_,rfl,.kY hb (DLe.no hD),by simp only [pD,R]⟩
end Go.Eng
open Go Go.Eng Go.Proofs
namespace V5
theorem S2:pD.Ok Tryz.prog 155:=Hj rfl Tryz.lays162 (by kernel_rfl) (enters_of Tryz.lays162.f162 (by kernel_rfl) rfl)
end V5
end
section
open Go Go.Eng Go.Proofs G1 G3 G7 EV0 N1
set_option maxRecDepth 100000
namespace N2
def fr (t:B):B:=(Lib.cut t [32]).1
def dg (t:B):B:=Lib.trimRightS (fr t) az
def cd (t:B):Hn:=⟨aM (dg t),(fr t).drop (dg t).length,if (Lib.cut (Lib.cut t [32]).2.1 [47]).2.2=true then aM (Lib.cut (Lib.cut t [32]).2.1 [47]).1 else 0,if (Lib.cut (Lib.cut t [32]).2.1 [47]).2.2=true then aM (Lib.cut (Lib.cut t [32]).2.1 [47]).2.1 else 0⟩
def mP (t:B):Bool:=cE (cd t) && decide (dI (cd t)=t)
def cH (t:B):Hn:=if mP t=true then cd t else ⟨0,[],0,0⟩
def Vg:Eng.Spec where
 X:=B
 args:=fun t=>.cons (.str t) .nil
 pre:=fun t=>okT t
 res:=fun t=>.tup (.cons (.agg (hnL (cH t))) (.cons (.int .i64 (if mP t=true then 0 else 5)) .nil))
 inst:=EV0.one yK
def g121:List Nat:=[5,8,6,11,39,9,10,13,12,0,63,4,2,3]
def c121:aD :=
 .seq (.region g121 [(zo 2 (.alloc 25 zHn)),(zo 3 (.move (.c (.int .i64 0))))]) (.seq (.region g121 [(zo 4 (.alloc 25 zHn))]) (.seq (.region g121 [(zo 15 (.move (.s 0))),(zo 16 (.call (.c (.fn 73)) [.s 15,.c (.str [32])])),(zo 14 (.move (.s 16))),(zo 17 (.extract 0 (.s 14))),(zo 18 (.extract 1 (.s 14))),(zo 19 (.extract 2 (.s 14))),(zo 5 (.move (.s 17))),(zo 6 (.move (.s 18))),(zo 7 (.move (.s 19)))]) (.seq (.region g121 [(zo 20 (.move (.s 5))),(zo 21 (.call (.c (.fn 155)) [.s 20,.c (.str [97,98,99,100,101,102,103,104,105,106,107,108,109,110,111,112,113,114,115,116,117,118,119,120,121,122])])),(zo 8 (.move (.s 21)))]) (.seq (.region g121 [(zo 23 (.move (.s 8))),(zo 24 (.call (.c (.fn 120)) [.s 23])),(zo 22 (.move (.s 24))),(zo 25 (.extract 0 (.s 22))),(zo 26 (.extract 1 (.s 22))),(zo 27 (.fldA 0 (.s 4))),⟨none,none,.store 1 (.s 27) (.s 25),[]⟩]) (.seq (.region g121 [(zo 28 (.move (.s 5))),(zo 29 (.move (.s 8))),(zo 30 (.lenStr (.s 29))),(zo 31 (.sliceStr (.s 28) (some (.s 30)) none)),(zo 32 (.fldA 1 (.s 4))),⟨none,none,.store 1 (.s 32) (.s 31),[]⟩]) (.seq (.seq (.region g121 [(zo 34 (.move (.s 6))),(zo 35 (.call (.c (.fn 73)) [.s 34,.c (.str [47])])),(zo 33 (.move (.s 35))),(zo 36 (.extract 0 (.s 33))),(zo 37 (.extract 1 (.s 33))),(zo 38 (.extract 2 (.s 33))),(zo 9 (.move (.s 36))),(zo 10 (.move (.s 37))),(zo 11 (.move (.s 38)))]) (.seq (.region g121 [(zo 39 (.move (.s 11)))]) (.cond (.s 39) (.seq (.region g121 [(zo 41 (.move (.s 9))),(zo 42 (.call (.c (.fn 120)) [.s 41])),(zo 40 (.move (.s 42))),(zo 43 (.extract 0 (.s 40))),(zo 44 (.extract 1 (.s 40))),(zo 45 (.fldA 2 (.s 4))),⟨none,none,.store 1 (.s 45) (.s 43),[]⟩]) (.region g121 [(zo 47 (.move (.s 10))),(zo 48 (.call (.c (.fn 120)) [.s 47])),(zo 46 (.move (.s 48))),(zo 49 (.extract 0 (.s 46))),(zo 50 (.extract 1 (.s 46))),(zo 51 (.fldA 3 (.s 4))),⟨none,none,.store 1 (.s 51) (.s 49),[]⟩])) .skip))) (.seq (.seq (.region g121 [(zo 53 (.load 4 true (.s 4))),(zo 54 (.call (.c (.fn 65)) [.s 53])),(zo 52 (.move (.s 54))),(zo 55 (.extract 0 (.s 52))),(zo 56 (.extract 1 (.s 52))),(zo 12 (.move (.s 55))),(zo 13 (.move (.s 56)))]) (.seq (.region g121 [(zo 57 (.move (.s 13))),(zo 58 (.bin (.neq) (.s 57) (.c (.int .i64 0)))),(zo 59 (.move (.s 58))),(zg 60 59 false (.move (.s 12))),(zg 61 59 false (.move (.s 0))),(zg 62 59 false (.bin (.neq) (.s 60) (.s 61))),(zo 63 (.pick (.s 59) (.c (.bool true)) (.s 62)))]) (.cond (.s 63) (.seq (.region g121 [(zo 64 (.build zHn [])),⟨none,none,.store 4 (.s 2) (.s 64),[]⟩,(zo 3 (.move (.c (.int .i64 5))))]) .ret) .skip))) (.seq (.region g121 [(zo 65 (.load 4 true (.s 4))),⟨none,none,.store 4 (.s 2) (.s 65),[]⟩,(zo 3 (.move (.c (.int .i64 0))))]) .ret))))))))
def r121:List aR:=[.cell 2 4 true,.slot 3]
def k121:List (Nat×Nat×aD×Nat):=[]
theorem e121:aK Tryz.prog 121 g121 [] [] k121=some (c121,r121,66):=by kernel_rfl
theorem q121:aF Tryz.prog k121:=aF.nil
theorem kP (s sep:B):(Lib.cut s sep).1.length<=s.length/\(Lib.cut s sep).2.1.length<=s.length:=by
 unfold Lib.cut
 split
 ·simp only [List.length_take,List.length_drop]; omega
 ·simp
theorem K8 (s c:B):(Lib.trimRightS s c).length<=s.length:=by
 unfold Lib.trimRightS
 rw [List.length_reverse]
 have:=(List.dropWhile_suffix (c.contains ·) (l:=s.reverse)).length_le
 simpa using this
theorem lem (x:Hn) (t:B) (i:Nat):aG (!decide ((if cE x=true then (0:Int) else 1)=0)) (.c (.bool true)) (.s i) true (!decide ((if cE x=true then dI x else [])=t))=!(cE x && decide (dI x=t)):=by
 rw [aI]
 cases cE x <;> simp
theorem Sc:Vg.Ok Tryz.prog 121:=by
 refine Eng.Spec.okR e121 q121 (fun _=>[(73,.p Bu),(155,.p pD),(120,.p fF),(65,.p S3)]) (fun _ _=>aA.p V2.cut (aA.p V5.S2 (aA.p V2.atoi (aA.p Lb aA.nil)))) ?_
 intro (t:B) (h0:okT t)
 replace h0:t.length<=1000000:=h0
 refine ⟨trivial,?_⟩
 have c0:=kP t [32]
 have c1:=kP (Lib.cut t [32]).2.1 [47]
 have c2:=K8 (fr t) az
 have f0:(Lib.cut t [32]).1.length<=1000000:=by omega
 have f1:(Lib.cut t [32]).2.1.length<=1000000:=by omega
 have f2:(Lib.cut (Lib.cut t [32]).2.1 [47]).1.length<=1000000:=by omega
 have f3:(Lib.cut (Lib.cut t [32]).2.1 [47]).2.1.length<=1000000:=by omega
 have f4:(dg t).length<=1000000:=by have:(fr t).length<=1000000:=f0; unfold dg; omega
 have f5:(0:Int)<=((dg t).length:Int):=by omega
 have f6:((dg t).length:Int)<=((Lib.cut t [32]).1.length:Int):=by have:(dg t).length<=(Lib.cut t [32]).1.length:=c2; omega
 have f7:(cd t).l.length<=1000000:=by
  show ((fr t).drop (dg t).length).length<=_
  have:(fr t).length<=1000000:=f0
  rw [List.length_drop]; omega
 repeat' (first|apply And.intro|exact trivial|exact rfl|exact h0|exact f0|exact f1|exact f4|exact f5|exact f6)
 ·refine fun (hc:(Lib.cut (Lib.cut t [32]).2.1 [47]).2.2=true)=>?_
  have ec:cd t=⟨aM (dg t),(fr t).drop (dg t).length,aM (Lib.cut (Lib.cut t [32]).2.1 [47]).1,aM (Lib.cut (Lib.cut t [32]).2.1 [47]).2.1⟩:=by unfold cd; rw [if_pos hc,if_pos hc]
  rw [ec] at f7
  repeat' (first|apply And.intro|exact trivial|exact rfl|exact f2|exact f3|exact f7)
  ·refine fun hp=>?_
   have hp:(!(cE (⟨aM (dg t),(fr t).drop (dg t).length,aM (Lib.cut (Lib.cut t [32]).2.1 [47]).1,aM (Lib.cut (Lib.cut t [32]).2.1 [47]).2.1⟩:Hn) && decide (dI (⟨aM (dg t),(fr t).drop (dg t).length,aM (Lib.cut (Lib.cut t [32]).2.1 [47]).1,aM (Lib.cut (Lib.cut t [32]).2.1 [47]).2.1⟩:Hn)=t)))=true:=(lem (⟨aM (dg t),(fr t).drop (dg t).length,aM (Lib.cut (Lib.cut t [32]).2.1 [47]).1,aM (Lib.cut (Lib.cut t [32]).2.1 [47]).2.1⟩:Hn) t 62).symm.trans hp
   rw [<- ec] at hp
   have hb:mP t=false:=by unfold mP; rw [Bool.not_eq_true'] at hp; exact hp
   have e:cH t=⟨0,[],0,0⟩:=by unfold cH; rw [hb]; rfl
   have e1:0=(cH t).n:=by rw [e]
   have e2:[]=(cH t).l:=by rw [e]
   have e3:0=(cH t).num:=by rw [e]
   have e4:0=(cH t).den:=by rw [e]
   have e5:(5:Int)=(if mP t=true then 0 else 5):=by rw [hb]; rfl
   repeat' (first|apply And.intro|exact trivial|exact rfl|exact e1|exact e2|exact e3|exact e4|exact e5)
  ·refine fun hp=>?_
   have hp:(!(cE (⟨aM (dg t),(fr t).drop (dg t).length,aM (Lib.cut (Lib.cut t [32]).2.1 [47]).1,aM (Lib.cut (Lib.cut t [32]).2.1 [47]).2.1⟩:Hn) && decide (dI (⟨aM (dg t),(fr t).drop (dg t).length,aM (Lib.cut (Lib.cut t [32]).2.1 [47]).1,aM (Lib.cut (Lib.cut t [32]).2.1 [47]).2.1⟩:Hn)=t)))=false:=(lem (⟨aM (dg t),(fr t).drop (dg t).length,aM (Lib.cut (Lib.cut t [32]).2.1 [47]).1,aM (Lib.cut (Lib.cut t [32]).2.1 [47]).2.1⟩:Hn) t 62).symm.trans hp
   rw [<- ec] at hp
   have hb:mP t=true:=by unfold mP; rw [Bool.not_eq_false'] at hp; exact hp
   have e:cH t=(⟨aM (dg t),(fr t).drop (dg t).length,aM (Lib.cut (Lib.cut t [32]).2.1 [47]).1,aM (Lib.cut (Lib.cut t [32]).2.1 [47]).2.1⟩:Hn):=by unfold cH; rw [if_pos hb,ec]
   have e1:(⟨aM (dg t),(fr t).drop (dg t).length,aM (Lib.cut (Lib.cut t [32]).2.1 [47]).1,aM (Lib.cut (Lib.cut t [32]).2.1 [47]).2.1⟩:Hn).n=(cH t).n:=by rw [e]
   have e2:(⟨aM (dg t),(fr t).drop (dg t).length,aM (Lib.cut (Lib.cut t [32]).2.1 [47]).1,aM (Lib.cut (Lib.cut t [32]).2.1 [47]).2.1⟩:Hn).l=(cH t).l:=by rw [e]
   have e3:(⟨aM (dg t),(fr t).drop (dg t).length,aM (Lib.cut (Lib.cut t [32]).2.1 [47]).1,aM (Lib.cut (Lib.cut t [32]).2.1 [47]).2.1⟩:Hn).num=(cH t).num:=by rw [e]
   have e4:(⟨aM (dg t),(fr t).drop (dg t).length,aM (Lib.cut (Lib.cut t [32]).2.1 [47]).1,aM (Lib.cut (Lib.cut t [32]).2.1 [47]).2.1⟩:Hn).den=(cH t).den:=by rw [e]
   have e5:(0:Int)=(if mP t=true then 0 else 5):=by rw [hb]; rfl
   repeat' (first|apply And.intro|exact trivial|exact rfl|exact e1|exact e2|exact e3|exact e4|exact e5)
 ·refine fun (hc:(Lib.cut (Lib.cut t [32]).2.1 [47]).2.2=false)=>?_
  have ec:cd t=⟨aM (dg t),(fr t).drop (dg t).length,0,0⟩:=by unfold cd; rw [hc]; rfl
  rw [ec] at f7
  repeat' (first|apply And.intro|exact trivial|exact rfl|exact f7)
  ·refine fun hp=>?_
   have hp:(!(cE (⟨aM (dg t),(fr t).drop (dg t).length,0,0⟩:Hn) && decide (dI (⟨aM (dg t),(fr t).drop (dg t).length,0,0⟩:Hn)=t)))=true:=(lem (⟨aM (dg t),(fr t).drop (dg t).length,0,0⟩:Hn) t 62).symm.trans hp
   rw [<- ec] at hp
   have hb:mP t=false:=by unfold mP; rw [Bool.not_eq_true'] at hp; exact hp
   have e:cH t=⟨0,[],0,0⟩:=by unfold cH; rw [hb]; rfl
   have e1:0=(cH t).n:=by rw [e]
   have e2:[]=(cH t).l:=by rw [e]
   have e3:0=(cH t).num:=by rw [e]
   have e4:0=(cH t).den:=by rw [e]
   have e5:(5:Int)=(if mP t=true then 0 else 5):=by rw [hb]; rfl
   repeat' (first|apply And.intro|exact trivial|exact rfl|exact e1|exact e2|exact e3|exact e4|exact e5)
  ·refine fun hp=>?_
   have hp:(!(cE (⟨aM (dg t),(fr t).drop (dg t).length,0,0⟩:Hn) && decide (dI (⟨aM (dg t),(fr t).drop (dg t).length,0,0⟩:Hn)=t)))=false:=(lem (⟨aM (dg t),(fr t).drop (dg t).length,0,0⟩:Hn) t 62).symm.trans hp
   rw [<- ec] at hp
   have hb:mP t=true:=by unfold mP; rw [Bool.not_eq_false'] at hp; exact hp
   have e:cH t=(⟨aM (dg t),(fr t).drop (dg t).length,0,0⟩:Hn):=by unfold cH; rw [if_pos hb,ec]
   have e1:(⟨aM (dg t),(fr t).drop (dg t).length,0,0⟩:Hn).n=(cH t).n:=by rw [e]
   have e2:(⟨aM (dg t),(fr t).drop (dg t).length,0,0⟩:Hn).l=(cH t).l:=by rw [e]
   have e3:(⟨aM (dg t),(fr t).drop (dg t).length,0,0⟩:Hn).num=(cH t).num:=by rw [e]
   have e4:(⟨aM (dg t),(fr t).drop (dg t).length,0,0⟩:Hn).den=(cH t).den:=by rw [e]
   have e5:(0:Int)=(if mP t=true then 0 else 5):=by rw [hb]; rfl
   repeat' (first|apply And.intro|exact trivial|exact rfl|exact e1|exact e2|exact e3|exact e4|exact e5)
end N2
end
section
namespace Go.Eng
open Go Go.RowKit Go.Proofs Go.Shelf Go.Sort
theorem Qf (s:ByteArray) (i:Nat) (hi:i < s.size) (b:UInt8) (hb:s.data.toList[i]?=some b) (h:128<=b.toNat):128<=(Utf8.decode s i).1:=by
 have hg:s.get! i=b:=by
  have e:s.get! i=s[i]'hi:=by
   show s.data.get!Internal i=_
   simp [getElem!_pos,hi]
   rfl
  have:=Lib.data_getElem? s i hi
  rw [hb] at this
  rw [e]
  exact (Option.some.inj this).symm
 rw [Lib.decode_at,hg]
 unfold Lib.decodeN
 rw [if_neg (by omega)]
 (repeat' split) <;> simp only <;> omega
theorem Qh (s:ByteArray) (i:Nat) (hi:i < s.size) (b:UInt8) (hb:s.data.toList[i]?=some b) (h:b.toNat < 128):Utf8.decode s i=(b.toNat,1):=by
 have:=Lib.data_getElem? s i hi
 rw [hb] at this
 have e:=Option.some.inj this
 rw [decode_ascii s i hi (by rw [<- e]; exact h),<- e]
theorem zM {p:Nat->Bool} (hp:∀ c,128<=c->p c=true) (s:ByteArray):∀ (f pos:Nat),s.size - pos<=f->(0<=Lib.idxFuncFrom p true s f pos ↔ ∃ j b,pos<=j/\s.data.toList[j]?=some b/\p b.toNat=true):=by
 intro f
 induction f with
 | zero =>
  intro pos h
  constructor
  ·intro h; exact absurd h (by simp [Lib.idxFuncFrom])
  ·rintro ⟨j,b,h1,h2,_⟩
   have:=(List.getElem?_eq_some_iff.1 h2).1
   rw [<- Lib.size_eq] at this
   omega
 | succ f ih =>
  intro pos h
  unfold Lib.idxFuncFrom
  split
  ·rename_i hlt
   obtain ⟨b,hb⟩:∃ b,s.data.toList[pos]?=some b:=⟨_,List.getElem?_eq_getElem (by rw [<- Lib.size_eq]; exact hlt)⟩
   by_cases h128:b.toNat < 128
   ·rw [Qh s pos hlt b hb h128]
    simp only
    split
    ·rename_i hpb
     exact ⟨fun _=>⟨pos,b,Nat.le_refl _,hb,hpb⟩,fun _=>Int.natCast_nonneg _⟩
    ·rename_i hpb
     rw [ih (pos+1) (by omega)]
     constructor
     ·rintro ⟨j,c,h1,h2,h3⟩; exact ⟨j,c,by omega,h2,h3⟩
     ·rintro ⟨j,c,h1,h2,h3⟩
      by_cases e:j=pos
      ·subst e; rw [hb] at h2; obtain rfl:=Option.some.inj h2; exact absurd h3 hpb
      ·exact ⟨j,c,by omega,h2,h3⟩
   ·have h1:p (Utf8.decode s pos).1=true:=hp _ (Qf s pos hlt b hb (by omega))
    rw [if_pos h1]
    exact ⟨fun _=>⟨pos,b,Nat.le_refl _,hb,hp _ (by omega)⟩,fun _=>Int.natCast_nonneg _⟩
  ·rename_i hlt
   constructor
   ·intro h; exact absurd h (by decide)
   ·rintro ⟨j,b,h1,h2,_⟩
    have:=(List.getElem?_eq_some_iff.1 h2).1
    rw [<- Lib.size_eq] at this
    omega
theorem M3 {p:Nat->Bool} (hp:∀ c,128<=c->p c=true) (t:List UInt8):decide (0<=Lib.idxFunc p true ⟨t.toArray⟩)=t.any fun b=>p b.toNat:=by
 rw [Bool.eq_iff_iff,decide_eq_true_iff,List.any_eq_true]
 unfold Lib.idxFunc
 rw [zM hp ⟨t.toArray⟩ (ByteArray.size ⟨t.toArray⟩) 0 (Nat.le_refl (ByteArray.size ⟨t.toArray⟩))]
 constructor
 ·rintro ⟨j,b,_,h2,h3⟩; exact ⟨b,List.mem_of_getElem? h2,h3⟩
 ·rintro ⟨b,h2,h3⟩
  obtain ⟨j,hj⟩:=List.getElem?_of_mem h2
  exact ⟨j,b,Nat.zero_le _,hj,h3⟩
def gH (g:Nat) (p:Nat->Bool):Spec where
 X:=List UInt8
 args:=fun x=>.cons (.str x) (.cons (.fn g .nil) .nil)
 pre:=fun _=>True
 res:=fun x=>.bool (x.any fun b=>p b.toNat)
 inst:=fun s=>match s with
  | .cons (.str t) _=>some t
  | _=>none
theorem qN (hD:DRN=false) {P:Program} {ρ:Ren} (L:LaysGw.n17 P ρ) {g:Nat} {p:Nat->Bool} (hgm:Nat.blt g FM=true) (hp:∀ c,128<=c->p c=true)
  (hg:∀ (x:Nat) (w:World),Calls P g #[.int .i32 x] w fun e w'=>e=.returned (.bool (p x))/\w'=w) (eg:∀ args w,(callFunc g args).run P w=.ok (.enter g args) w)
  (hc:∀ args w,(callFunc (ρ.f 17) args).run P w=.ok (.enter (ρ.f 17) args) w):(gH g p).Ok P (ρ.f 17):=by
 refine dV hc ?_
 intro t w vs U hU _ _ hR
 simp only [gH,R] at hR
 obtain ⟨v1,r1,rfl,e1,v2,r2,rfl,⟨cs,e2,hcs⟩,rfl⟩:=hR
 obtain rfl:=List.singleton_inj.1 e1
 subst hcs
 have e2':=List.singleton_inj.1 e2
 unfold fnV at e2'
 rw [hgm] at e2'
 simp only [cond_true] at e2'
 subst e2'
 refine (Any.strings_ContainsFunc_runes L g #[] eg p ⟨t.toArray⟩ w ?_).mono ?_
 ·intro W x _ _
  refine (hg x W).mono ?_
  rintro e w' ⟨rfl,rfl⟩
  exact ⟨rfl,0,rfl⟩
 rintro e w' ⟨rfl,hb⟩
 exact ⟨_,rfl,.kY hb (DLe.no hD),by simp only [gH,R]; exact congrArg (fun b=>[Value.bool b]) (M3 hp t)⟩
end Go.Eng
end
section
namespace Go.Proofs
open Go.Shelf Go.RowKit Go.Lib
set_option maxHeartbeats 1000000 in
theorem dense1 (r:Int) (w:World):Calls Tryz.prog 135 #[.int .i32 r] w fun e w'=>e=.returned (.bool (decide (r < 33) || decide (126 < r) || decide (r=34)))/\w'=w:=by
 go_enter Tryz.func135,Tryz.ntmps135
 go_wp2
 all_goals go_ret
 all_goals refine ⟨?_,rfl⟩
 all_goals (show Ending.returned (Value.bool _)=_; congr 2; try (rw [Bool.eq_iff_iff]; simp; omega))
set_option maxHeartbeats 1000000 in
theorem veil1 (r:Int) (w:World):Calls Tryz.prog 140 #[.int .i32 r] w fun e w'=>e=.returned (.bool ((decide (r < 48) || decide (57 < r)) && (decide (r < 97) || decide (122 < r)) && (decide (r < 65) || decide (90 < r))))/\w'=w:=by
 go_enter Tryz.func140,Tryz.ntmps140
 go_wp2
 all_goals go_ret
 all_goals refine ⟨?_,rfl⟩
 all_goals (show Ending.returned (Value.bool _)=_; congr 2; try (rw [Bool.eq_iff_iff]; simp; omega))
end Go.Proofs
open Go Go.Eng Go.Proofs
namespace V4
def Jy (c:Nat):Bool:=decide ((c:Int) < 33) || decide (126 < (c:Int)) || decide ((c:Int)=34)
def Jz (c:Nat):Bool:=(decide ((c:Int) < 48) || decide (57 < (c:Int))) && (decide ((c:Int) < 97) || decide (122 < (c:Int))) && (decide ((c:Int) < 65) || decide (90 < (c:Int)))
theorem Tq:(gH 135 Jy).Ok Tryz.prog 136:=qN rfl Tryz.rK (by decide) (fun c h=>by unfold Jy; simp; omega) (fun x w=>dense1 x w) (enters_of Tryz.func135 (by kernel_rfl) rfl) (enters_of Tryz.rK.f17 (by kernel_rfl) rfl)
theorem Ts:(gH 140 Jz).Ok Tryz.prog 136:=qN rfl Tryz.rK (by decide) (fun c h=>by unfold Jz; simp; omega) (fun x w=>veil1 x w) (enters_of Tryz.func140 (by kernel_rfl) rfl) (enters_of Tryz.rK.f17 (by kernel_rfl) rfl)
end V4
end
section
open Go Go.Eng Go.Proofs G1 G2 G3 G4 G6 G7 EV0 N1 N2
set_option maxRecDepth 100000
namespace F1
def g47:List Nat:=[1,0,2,6]
def c47:aD :=
 .seq (.region g47 [(zo 6 (.move (.c (.bool false))))]) (.seq (.region g47 [(zo 7 (.move (.s 0))),(zo 8 (.move (.s 1))),(zo 9 (.bin (.geq) (.s 7) (.s 8))),(zo 10 (.move (.s 9))),(zg 11 10 true (.move (.s 0))),(zg 12 10 true (.move (.s 2))),(zg 13 10 true (.bin (.leq) (.s 11) (.s 12))),(zo 14 (.pick (.s 10) (.s 13) (.c (.bool false)))),(zo 6 (.move (.s 14)))]) .ret)
def r47:List aR:=[.slot 6]
def k47:List (Nat×Nat×aD×Nat):=[]
theorem e47:aK Tryz.prog 47 g47 [] [] k47=some (c47,r47,15):=by kernel_rfl
theorem q47:aF Tryz.prog k47:=aF.nil
def cJ (n lo hi:Int):Bool:=decide (lo<=n) && decide (n<=hi)
def yQ:Eng.Spec where
 X:=Int×Int×Int
 args:=fun x=>.cons (.int .i64 x.1) (.cons (.int .i64 x.2.1) (.cons (.int .i64 x.2.2) .nil))
 pre:=fun _=>True
 res:=fun x=>.bool (cJ x.1 x.2.1 x.2.2)
 inst:=fun
  | .cons (.int _ a) (.cons (.int _ b) (.cons (.int _ c) _))=>some (a,b,c)
  | _=>none
theorem mB:yQ.Ok Tryz.prog 47:=by
 refine Eng.Spec.okR e47 q47 (fun _=>[]) (fun _ _=>aA.nil) ?_
 rintro ⟨a,b,c⟩ _
 have e:aG (decide (b<=a)) (.s 13) (.c (.bool false)) (decide (a<=c)) false=cJ a b c:=by rw [aJ]; rfl
 refine ⟨trivial,?_⟩
 repeat' (first|apply And.intro|exact trivial|exact rfl|exact e)
def g97:List Nat:=[1,0,5,4]
def c97:aD :=
 .seq (.region g97 [(zo 4 (.move (.c (.bool false))))]) (.seq (.region g97 [(zo 5 (.move (.c (.fn 135))))]) (.seq (.region g97 [(zo 6 (.move (.s 0))),(zo 7 (.bin (.neq) (.s 6) (.c (.str [])))),(zo 8 (.move (.s 7))),(zg 9 8 true (.move (.s 0))),(zg 10 8 true (.lenStr (.s 9))),(zg 11 8 true (.move (.s 1))),(zg 12 8 true (.bin (.leq) (.s 10) (.s 11))),(zo 13 (.pick (.s 8) (.s 12) (.c (.bool false)))),(zo 14 (.move (.s 13))),(zg 15 14 true (.move (.s 0))),(zg 16 14 true (.move (.s 5))),(zg 17 14 true (.call (.c (.fn 136)) [.s 15,.s 16])),(zg 18 14 true (.not (.s 17))),(zo 19 (.pick (.s 14) (.s 18) (.c (.bool false)))),(zo 4 (.move (.s 19)))]) .ret))
def r97:List aR:=[.slot 4]
def k97:List (Nat×Nat×aD×Nat):=[]
theorem e97:aK Tryz.prog 97 g97 [] [] k97=some (c97,r97,20):=by kernel_rfl
theorem q97:aF Tryz.prog k97:=aF.nil
def Fl (s:B) (m:Int):Bool:=(!decide (s=[]) && decide ((s.length:Int)<=m)) && !(s.any fun b=>V4.Jy b.toNat)
def Qi:Eng.Spec where
 X:=B×Int
 args:=fun x=>.cons (.str x.1) (.cons (.int .i64 x.2) .nil)
 pre:=fun _=>True
 res:=fun x=>.bool (Fl x.1 x.2)
 inst:=fun
  | .cons (.str a) (.cons (.int _ b) _)=>some (a,b)
  | _=>none
theorem Ij:Qi.Ok Tryz.prog 97:=by
 refine Eng.Spec.okR e97 q97 (fun _=>[(136,.p (gH 135 V4.Jy))]) (fun _ _=>aA.p V4.Tq aA.nil) ?_
 rintro ⟨s,m⟩ _
 have e:aG (aG (!decide (s=[])) (.s 12) (.c (.bool false)) (decide ((s.length:Int)<=m)) false) (.s 18) (.c (.bool false)) (!(s.any fun b=>V4.Jy b.toNat)) false=Fl s m:=by rw [aJ,aJ]; rfl
 refine ⟨trivial,?_⟩
 repeat' (first|apply And.intro|exact trivial|exact rfl|refine fun (_:aH _ _ _ _)=>?_|exact e)
def g104:List Nat:=[0,3,2]
def c104:aD :=
 .seq (.region g104 [(zo 2 (.move (.c (.bool false))))]) (.seq (.region g104 [(zo 3 (.move (.c (.fn 140))))]) (.seq (.region g104 [(zo 4 (.move (.s 0))),(zo 5 (.bin (.neq) (.s 4) (.c (.str [])))),(zo 6 (.move (.s 5))),(zg 7 6 true (.move (.s 0))),(zg 8 6 true (.lenStr (.s 7))),(zg 9 6 true (.bin (.leq) (.s 8) (.c (.int .i64 60)))),(zo 10 (.pick (.s 6) (.s 9) (.c (.bool false)))),(zo 11 (.move (.s 10))),(zg 12 11 true (.move (.s 0))),(zg 13 11 true (.move (.s 3))),(zg 14 11 true (.call (.c (.fn 136)) [.s 12,.s 13])),(zg 15 11 true (.not (.s 14))),(zo 16 (.pick (.s 11) (.s 15) (.c (.bool false)))),(zo 2 (.move (.s 16)))]) .ret))
def r104:List aR:=[.slot 2]
def k104:List (Nat×Nat×aD×Nat):=[]
theorem e104:aK Tryz.prog 104 g104 [] [] k104=some (c104,r104,17):=by kernel_rfl
theorem q104:aF Tryz.prog k104:=aF.nil
def Lf (s:B):Bool:=(!decide (s=[]) && decide ((s.length:Int)<=60)) && !(s.any fun b=>V4.Jz b.toNat)
def V7:Eng.Spec where
 X:=B
 args:=fun x=>.cons (.str x) .nil
 pre:=fun _=>True
 res:=fun x=>.bool (Lf x)
 inst:=EV0.one yK
theorem S5:V7.Ok Tryz.prog 104:=by
 refine Eng.Spec.okR e104 q104 (fun _=>[(136,.p (gH 140 V4.Jz))]) (fun _ _=>aA.p V4.Ts aA.nil) ?_
 rintro (s:B) _
 have e:aG (aG (!decide (s=[])) (.s 9) (.c (.bool false)) (decide ((s.length:Int)<=60)) false) (.s 15) (.c (.bool false)) (!(s.any fun b=>V4.Jz b.toNat)) false=Lf s:=by rw [aJ,aJ]; rfl
 refine ⟨trivial,?_⟩
 repeat' (first|apply And.intro|exact trivial|exact rfl|refine fun (_:aH _ _ _ _)=>?_|exact e)
def g164:List Nat:=[0,2]
def c164:aD :=
 .seq (.region g164 [(zo 2 (.move (.c (.bool false))))]) (.seq (.region g164 [(zo 3 (.move (.s 0))),(zo 4 (.call (.c (.fn 97)) [.s 3,.c (.int .i64 60)])),(zo 5 (.not (.s 4))),(zo 2 (.move (.s 5)))]) .ret)
def r164:List aR:=[.slot 2]
def k164:List (Nat×Nat×aD×Nat):=[]
theorem e164:aK Tryz.prog 164 g164 [] [] k164=some (c164,r164,6):=by kernel_rfl
theorem q164:aF Tryz.prog k164:=aF.nil
def oX (s:B):Bool:=!Fl s 60
def nod0:Eng.Spec where
 X:=B
 args:=fun x=>.cons (.str x) .nil
 pre:=okT
 res:=fun x=>.bool (oX x)
 inst:=EV0.one yK
theorem Nt:nod0.Ok Tryz.prog 164:=by
 refine Eng.Spec.okR e164 q164 (fun _=>[(97,.p Qi)]) (fun _ _=>aA.p Ij aA.nil) ?_
 rintro (s:B) _
 refine ⟨trivial,?_⟩
 repeat' (first|apply And.intro|exact trivial|exact rfl)
def g132:List Nat:=[0,2]
def c132:aD :=
 .seq (.region g132 [(zo 2 (.move (.c (.bool false))))]) (.seq (.region g132 [(zo 3 (.move (.s 0))),(zo 4 (.call (.c (.fn 82)) [.s 3])),(zo 5 (.not (.s 4))),(zo 2 (.move (.s 5)))]) .ret)
def r132:List aR:=[.slot 2]
def k132:List (Nat×Nat×aD×Nat):=[]
theorem e132:aK Tryz.prog 132 g132 [] [] k132=some (c132,r132,6):=by kernel_rfl
theorem q132:aF Tryz.prog k132:=aF.nil
def nS (s:B):Bool:=!L10.dF s
def nid0:Eng.Spec where
 X:=B
 args:=fun x=>.cons (.str x) .nil
 pre:=okT
 res:=fun x=>.bool (nS x)
 inst:=EV0.one yK
theorem No:nid0.Ok Tryz.prog 132:=by
 refine Eng.Spec.okR e132 q132 (fun _=>[(82,.p L10.Ey)]) (fun _ _=>aA.p L10.xN aA.nil) ?_
 rintro (s:B) (h:s.length<=1000000)
 refine ⟨trivial,?_⟩
 repeat' (first|apply And.intro|exact trivial|exact rfl|exact h)
def g165:List Nat:=[7,9,1,0,16,5,8,4]
def c165:aD :=
 .seq (.region g165 [(zo 4 (.move (.c (.int .i64 0))))]) (.seq (.seq (.region g165 [(zo 6 (.move (.s 0))),(zo 7 (.lenSl (.s 6))),(zo 8 (.move (.c (.int .i64 0))))]) (.block 0 (.loop 0 [9,10,5,11,12,13,14,15,16,17,4,18,8] (.seq (.region g165 [(zo 9 (.bin (.lss) (.s 8) (.s 7)))]) (.seq (.cond (.s 9) .skip (.exit 0)) (.seq (.block 1 (.seq (.region g165 [(zo 10 (.move (.s 8))),(zo 5 (.move (.s 10)))]) (.seq (.region g165 [(zo 11 (.move (.s 1))),(zo 12 (.move (.s 0))),(zo 13 (.move (.s 5))),(zo 14 (.idxSl 1 (.s 12) (.s 13))),(zo 15 (.load 1 false (.s 14))),(zo 16 (.call (.s 11) [.s 15]))]) (.cond (.s 16) (.seq (.region g165 [(zo 17 (.move (.s 5))),(zo 4 (.move (.s 17)))]) .ret) .skip)))) (.region g165 [(zo 18 (.bin (.add) (.s 8) (.c (.int .i64 1)))),(zo 8 (.move (.s 18)))]))))))) (.seq (.region g165 [(zo 4 (.move (.c (.int .i64 (-1)))))]) .ret))
def r165:List aR:=[.slot 4]
def k165:List (Nat×Nat×aD×Nat):=[]
theorem e165:aK Tryz.prog 165 g165 [] [] k165=some (c165,r165,19):=by kernel_rfl
theorem q165:aF Tryz.prog k165:=aF.nil
def g131:List Nat:=[0,1,4]
def c131:aD :=
 .seq (.region g131 [(zo 4 (.move (.c (.bool false))))]) (.seq (.region g131 [(zo 5 (.move (.s 0))),(zo 6 (.move (.s 1))),(zo 7 (.call (.c (.fn 165)) [.s 5,.s 6])),(zo 8 (.bin (.geq) (.s 7) (.c (.int .i64 0)))),(zo 4 (.move (.s 8)))]) .ret)
def r131:List aR:=[.slot 4]
def k131:List (Nat×Nat×aD×Nat):=[]
theorem e131:aK Tryz.prog 131 g131 [] [] k131=some (c131,r131,9):=by kernel_rfl
theorem q131:aF Tryz.prog k131:=aF.nil
def Nu:Eng.Spec where
 X:=Sq B
 args:=fun r=>.cons (stE r) (.cons (.fn 164 .nil) .nil)
 pre:=fun r=>okS r okT
 res:=fun r=>.int .i64 (bS (fun i=>oX (r.f i)) r.n)
 inst:=fun
  | .cons a (.cons _ .nil)=>stD a
  | _=>none
theorem Nv:Nu.Ok Tryz.prog 165:=by
 refine Eng.Spec.okR e165 q165 (fun _=>[(164,.p nod0)]) (fun _ _=>aA.p Nt aA.nil) ?_
 rintro (r:Sq B) ⟨(hn:r.n<=1000000),hel⟩
 refine ⟨trivial,?_⟩
 repeat' (first|apply And.intro|exact trivial|exact rfl|exact lz fun _=>rfl)
 refine ⟨⟨Nat,fun i=>i<=r.n/\orB (fun i=>oX (r.f i)) i=false,fun i=>[(8,.int .i64 (i:Int))],fun _=>[],fun i=>r.n - i⟩,0,⟨Nat.zero_le _,rfl⟩,?_,?_⟩
 ·repeat' (first|apply And.intro|exact trivial|exact rfl|exact lz fun _=>rfl)
 rintro (i:Nat) ⟨(hi:i<=r.n),(hf:orB (fun i=>oX (r.f i)) i=false)⟩
 repeat' (first|apply And.intro|exact trivial|exact rfl|exact lz fun _=>rfl)
 ·refine fun (h:decide ((i:Int) < (r.n:Int))=true)=>?_
  have hi1:(i:Int) < (r.n:Int):=of_decide_eq_true h
  have hil:i < r.n:=by omega
  have hi0:(0:Int)<=(i:Int):=by omega
  have hok:=hel i hil
  have b1:-9223372036854775808<=(i:Int)+1:=by omega
  have b2:(i:Int)+1<=9223372036854775807:=by omega
  repeat' (first|with_reducible exact hi1|with_reducible exact hi0|apply And.intro|exact trivial|exact rfl|exact hok)
  ·refine fun (hc:oX (r.f i)=true)=>?_
   have e:(i:Int)=bS (fun i=>oX (r.f i)) r.n:=(gJ hf hc hil).symm
   repeat' (first|exact e|apply And.intro|exact trivial|exact rfl)
  ·refine fun (hc:oX (r.f i)=false)=>?_
   have hf1:orB (fun i=>oX (r.f i)) (i+1)=false:=by
    simp only [orB]
    rw [hf]
    exact hc
   repeat' (first|with_reducible exact b1|with_reducible exact b2|apply And.intro|exact trivial|exact rfl)
   refine Exists.intro (i+1) ?_
   refine And.intro (And.intro hil hf1) ?_
   repeat' (first|apply And.intro|exact trivial|exact rfl|exact lz fun _=>rfl)
   show r.n - (i+1) < r.n - i
   omega
 ·refine fun (h:decide ((i:Int) < (r.n:Int))=false)=>?_
  have hi1:¬ (i:Int) < (r.n:Int):=of_decide_eq_false h
  have e:i=r.n:=by omega
  have ef:-1=bS (fun i=>oX (r.f i)) r.n:=by rw [<- e,dA hf]
  repeat' (first|exact ef|apply And.intro|exact trivial|exact rfl)
def U9:Eng.Spec where
 X:=Sq B
 args:=Nu.args
 pre:=fun r=>okS r okT
 res:=fun r=>.bool (orB (fun i=>oX (r.f i)) r.n)
 inst:=Nu.inst
theorem R2:U9.Ok Tryz.prog 131:=by
 refine Eng.Spec.okR e131 q131 (fun _=>[(165,.p Nu)]) (fun _ _=>aA.p Nv aA.nil) ?_
 rintro (r:Sq B) ⟨(hn:r.n<=1000000),hel⟩
 have e:=kA (f:=fun i=>oX (r.f i)) (n:=r.n)
 refine ⟨trivial,?_⟩
 repeat' (first|exact hn|exact hel|exact e|apply And.intro|exact trivial|exact rfl|exact lz fun _=>rfl)
def Np:Eng.Spec where
 X:=Sq B
 args:=fun r=>.cons (stE r) (.cons (.fn 132 .nil) .nil)
 pre:=fun r=>okS r okT
 res:=fun r=>.int .i64 (bS (fun i=>nS (r.f i)) r.n)
 inst:=fun
  | .cons a (.cons _ .nil)=>stD a
  | _=>none
theorem Nq:Np.Ok Tryz.prog 165:=by
 refine Eng.Spec.okR e165 q165 (fun _=>[(132,.p nid0)]) (fun _ _=>aA.p No aA.nil) ?_
 rintro (r:Sq B) ⟨(hn:r.n<=1000000),hel⟩
 refine ⟨trivial,?_⟩
 repeat' (first|apply And.intro|exact trivial|exact rfl|exact lz fun _=>rfl)
 refine ⟨⟨Nat,fun i=>i<=r.n/\orB (fun i=>nS (r.f i)) i=false,fun i=>[(8,.int .i64 (i:Int))],fun _=>[],fun i=>r.n - i⟩,0,⟨Nat.zero_le _,rfl⟩,?_,?_⟩
 ·repeat' (first|apply And.intro|exact trivial|exact rfl|exact lz fun _=>rfl)
 rintro (i:Nat) ⟨(hi:i<=r.n),(hf:orB (fun i=>nS (r.f i)) i=false)⟩
 repeat' (first|apply And.intro|exact trivial|exact rfl|exact lz fun _=>rfl)
 ·refine fun (h:decide ((i:Int) < (r.n:Int))=true)=>?_
  have hi1:(i:Int) < (r.n:Int):=of_decide_eq_true h
  have hil:i < r.n:=by omega
  have hi0:(0:Int)<=(i:Int):=by omega
  have hok:=hel i hil
  have b1:-9223372036854775808<=(i:Int)+1:=by omega
  have b2:(i:Int)+1<=9223372036854775807:=by omega
  repeat' (first|with_reducible exact hi1|with_reducible exact hi0|apply And.intro|exact trivial|exact rfl|exact hok)
  ·refine fun (hc:nS (r.f i)=true)=>?_
   have e:(i:Int)=bS (fun i=>nS (r.f i)) r.n:=(gJ hf hc hil).symm
   repeat' (first|exact e|apply And.intro|exact trivial|exact rfl)
  ·refine fun (hc:nS (r.f i)=false)=>?_
   have hf1:orB (fun i=>nS (r.f i)) (i+1)=false:=by
    simp only [orB]
    rw [hf]
    exact hc
   repeat' (first|with_reducible exact b1|with_reducible exact b2|apply And.intro|exact trivial|exact rfl)
   refine Exists.intro (i+1) ?_
   refine And.intro (And.intro hil hf1) ?_
   repeat' (first|apply And.intro|exact trivial|exact rfl|exact lz fun _=>rfl)
   show r.n - (i+1) < r.n - i
   omega
 ·refine fun (h:decide ((i:Int) < (r.n:Int))=false)=>?_
  have hi1:¬ (i:Int) < (r.n:Int):=of_decide_eq_false h
  have e:i=r.n:=by omega
  have ef:-1=bS (fun i=>nS (r.f i)) r.n:=by rw [<- e,dA hf]
  repeat' (first|exact ef|apply And.intro|exact trivial|exact rfl)
def U7:Eng.Spec where
 X:=Sq B
 args:=Np.args
 pre:=fun r=>okS r okT
 res:=fun r=>.bool (orB (fun i=>nS (r.f i)) r.n)
 inst:=Np.inst
theorem Rz:U7.Ok Tryz.prog 131:=by
 refine Eng.Spec.okR e131 q131 (fun _=>[(165,.p Np)]) (fun _ _=>aA.p Nq aA.nil) ?_
 rintro (r:Sq B) ⟨(hn:r.n<=1000000),hel⟩
 have e:=kA (f:=fun i=>nS (r.f i)) (n:=r.n)
 refine ⟨trivial,?_⟩
 repeat' (first|exact hn|exact hel|exact e|apply And.intro|exact trivial|exact rfl|exact lz fun _=>rfl)
end F1
end
section
open Go Go.Eng Go.Proofs G1 G2 G3 G4 G6 G7 EV0 N1 N2 F1
set_option maxRecDepth 100000
namespace F2
def Lc:SV->Option Unit
 | .bool true=>some ()
 | _=>none
def mpL (g:Nat->aP):Nat->List (aP×Unit×Nat)
 | 0=>[]
 | k+1=>match mget (mpL g k) (g k) with
  | some _=>mpL g k
  | none=>mpL g k++[(g k,(),(mpL g k).length)]
def jZ (g:Nat->aP) (n:Nat):Bool:=!orB (fun i=>orB (fun j=>decide (g j=g i)) i) n
theorem mK {l:List (aP×Unit×Nat)} {k:aP}:mput l k ()=l:=by
 induction l with
 | nil=>rfl
 | cons x r ih =>
  simp only [mput]
  split
  ·rename_i h; rw [<- h]
  ·rw [ih]
theorem C5 {g:Nat->aP} {k:Nat} {u:Unit} {t:Nat} (h:mget (mpL g k) (g k)=some (u,t)):mput (mpL g k) (g k) ()=mpL g (k+1):=by
 rw [mK]
 simp only [mpL,h]
theorem xL {g:Nat->aP} {k:Nat} (h:mget (mpL g k) (g k)=none):mpL g k++[(g k,(),(mpL g k).length)]=mpL g (k+1):=by
 simp only [mpL,h]
theorem tI {l:List (aP×Unit×Nat)} {k:aP}:(mget l k=none) ↔ ∀ x∈l,x.1≠k:=by
 induction l with
 | nil=>simp [mget]
 | cons x r ih =>
  simp only [mget]
  split
  ·rename_i h; simp [h]
  ·rename_i h; rw [ih]; simp [h]
theorem Js {g:Nat->aP}:∀ {k:Nat} {x:aP},(∃ e∈mpL g k,e.1=x) ↔ ∃ j,j < k/\g j=x:=by
 intro k
 induction k with
 | zero=>intro x; simp [mpL]
 | succ k ih =>
  intro x
  simp only [mpL]
  cases h:mget (mpL g k) (g k) with
  | some v =>
   simp only
   rw [ih]
   constructor
   ·rintro ⟨j,hj,e⟩; exact ⟨j,by omega,e⟩
   ·rintro ⟨j,hj,e⟩
    by_cases hjk:j=k
    ·subst hjk
     have:¬ mget (mpL g j) (g j)=none:=by rw [h]; simp
     rw [tI] at this
     have ⟨y,hy,he⟩:∃ y∈mpL g j,y.1=g j:=by
      apply Classical.byContradiction
      intro hn
      exact this fun x hx e=>hn ⟨x,hx,e⟩
     obtain ⟨i,hi,hg⟩:=ih.1 ⟨y,hy,he⟩
     exact ⟨i,hi,hg.trans e⟩
    ·exact ⟨j,by omega,e⟩
  | none =>
   simp only [List.mem_append,List.mem_singleton]
   constructor
   ·rintro ⟨y,hy|rfl,e⟩
    ·obtain ⟨i,hi,hg⟩:=ih.1 ⟨y,hy,e⟩
     exact ⟨i,by omega,hg⟩
    ·exact ⟨k,by omega,e⟩
   ·rintro ⟨j,hj,e⟩
    by_cases hjk:j=k
    ·subst hjk; exact ⟨_,.inr rfl,e⟩
    ·obtain ⟨y,hy,he⟩:=ih.2 ⟨j,by omega,e⟩
     exact ⟨y,.inl hy,he⟩
theorem Rl {g:Nat->aP}:∀ {k:Nat},(mpL g k).length<=k/\((mpL g k).length=k ↔ ∀ i,i < k->∀ j,j < i->g j≠g i):=by
 intro k
 induction k with
 | zero=>simp [mpL]
 | succ k ih =>
  simp only [mpL]
  cases h:mget (mpL g k) (g k) with
  | some v =>
   simp only
   refine ⟨by omega,⟨fun e=>by omega,fun e=>?_⟩⟩
   exfalso
   have:¬ mget (mpL g k) (g k)=none:=by rw [h]; simp
   rw [tI] at this
   apply this
   intro x hx he
   obtain ⟨j,hj,hg⟩:=Js.1 ⟨x,hx,he⟩
   exact e k (by omega) j hj hg
  | none =>
   simp only [List.length_append,List.length_singleton]
   refine ⟨by omega,⟨fun e=>?_,fun e=>?_⟩⟩
   ·have h1:=ih.2.1 (by omega)
    intro i hi j hj
    by_cases hik:i=k
    ·subst hik
     intro hg
     obtain ⟨y,hy,he⟩:=Js.2 ⟨j,hj,hg⟩
     exact tI.1 h y hy he
    ·exact h1 i (by omega) j hj
   ·rw [ih.2.2 fun i hi j hj=>e i (by omega) j hj]
theorem Mg {g:Nat->aP} {n:Nat}:jZ g n=true ↔ ∀ i,i < n->∀ j,j < i->g j≠g i:=by
 unfold jZ
 rw [Bool.not_eq_true',bE]
 constructor
 ·intro h i hi j hj
  have:=bE.1 (h i hi) j hj
  exact of_decide_eq_false this
 ·intro h i hi
  exact bE.2 fun j hj=>decide_eq_false (h i hi j hj)
theorem C4 {g:Nat->aP} {n:Nat}:decide (((mpL g n).length:Int)=(n:Int))=jZ g n:=by
 rw [Bool.eq_iff_iff,decide_eq_true_iff,Mg,<- Rl.2]
 omega
theorem pX {l l':List (aP×Unit×Nat)} (h:l=l') (k:Keep) (hp:List (Nat×aE)) (m:Nat):∀ (i:Nat) (x y:aP×Unit×Nat),l[i]?=some x->l'[i]?=some y->x.1=y.1/\x.2.2=y.2.2/\sub k hp (m+1) (.bool true) (.bool true):=by
 subst h
 intro i x y hx hy
 rw [hx] at hy
 cases hy
 exact ⟨rfl,rfl,rfl⟩
def kS (s:B):aP:=.s s
def kN (x:Nm):aP:=.t [.s x.lang,.n .i64 x.script,.s x.text]
def kH (x:Hn):aP:=.t [.n .i64 x.n,.s x.l,.n .i64 x.num,.n .i64 x.den]
def g130:List Nat:=[8,10,7,5,9,3,0,2]
def c130:aD :=
 .seq (.region g130 [(zo 2 (.move (.c (.bool false))))]) (.seq (.region g130 [(zo 6 (.mkmap (.s))),(zo 3 (.move (.s 6)))]) (.seq (.seq (.region g130 [(zo 7 (.move (.s 0))),(zo 8 (.lenSl (.s 7))),(zo 9 (.move (.c (.int .i64 0))))]) (.block 0 (.loop 0 [10,11,12,5,13,14,15,9] (.seq (.region g130 [(zo 10 (.bin (.lss) (.s 9) (.s 8)))]) (.seq (.cond (.s 10) .skip (.exit 0)) (.seq (.block 1 (.seq (.region g130 [(zo 11 (.idxSl 1 (.s 7) (.s 9))),(zo 12 (.load 1 false (.s 11))),(zo 5 (.move (.s 12)))]) (.region g130 [(zo 13 (.move (.s 3))),(zo 14 (.move (.s 5))),⟨none,none,.mupd (.s) (.s 13) (.s 14) (.c (.bool true)),[]⟩]))) (.region g130 [(zo 15 (.bin (.add) (.s 9) (.c (.int .i64 1)))),(zo 9 (.move (.s 15)))]))))))) (.seq (.region g130 [(zo 16 (.move (.s 3))),(zo 17 (.mlen (.s 16))),(zo 18 (.move (.s 0))),(zo 19 (.lenSl (.s 18))),(zo 20 (.bin (.eql) (.s 17) (.s 19))),(zo 2 (.move (.s 20)))]) .ret)))
def r130:List aR:=[.slot 2]
def k130:List (Nat×Nat×aD×Nat):=[]
theorem e130:aK Tryz.prog 130 g130 [] [] k130=some (c130,r130,21):=by kernel_rfl
theorem q130:aF Tryz.prog k130:=aF.nil
def dSS:Eng.Spec where
 X:=Sq B
 args:=fun r=>.cons (stE r) .nil
 pre:=fun r=>r.n<=1000000
 res:=fun r=>.bool (jZ (fun i=>kS (r.f i)) r.n)
 inst:=fun
  | .cons a .nil=>stD a
  | _=>none
theorem Tu:dSS.Ok Tryz.prog 130:=by
 refine Eng.Spec.okR e130 q130 (fun _=>[]) (fun _ _=>aA.nil) ?_
 rintro (r:Sq B) (hn:r.n<=1000000)
 refine ⟨trivial,?_⟩
 repeat' (first|apply And.intro|exact trivial|exact rfl|exact lz fun _=>rfl)
 refine ⟨⟨Nat,fun k=>k<=r.n,fun k=>[(9,.int .i64 (k:Int))],fun k=>[(0,.map Unit (.s) (mpL (fun i=>kS (r.f i)) k) (mpL (fun i=>kS (r.f i)) k).length (fun _=>.bool true) Lc)],fun k=>r.n - k⟩,0,Nat.zero_le _,?_,?_⟩
 ·repeat' (first|apply And.intro|exact trivial|exact rfl|exact lz fun _=>rfl)
  exact fun i x y (hx:([]:List (aP×SV×Nat))[i]?=some x)=>by cases hx
 rintro (k:Nat) (hk:k<=r.n)
 repeat' (first|apply And.intro|exact trivial|exact rfl|exact lz fun _=>rfl)
 ·refine fun (h:decide ((k:Int) < (r.n:Int))=true)=>?_
  have hi1:(k:Int) < (r.n:Int):=of_decide_eq_true h
  have hil:k < r.n:=by omega
  have hi0:(0:Int)<=(k:Int):=by omega
  have b1:-9223372036854775808<=(k:Int)+1:=by omega
  have b2:(k:Int)+1<=9223372036854775807:=by omega
  repeat' (first|with_reducible exact hi1|with_reducible exact hi0|apply And.intro|exact trivial|exact rfl)
  refine nY.mk (fun (u:Unit) (t:Nat) (hm:mget (mpL (fun i=>kS (r.f i)) k) (kS (r.f k))=some (u,t))=>?_) (fun (hm:mget (mpL (fun i=>kS (r.f i)) k) (kS (r.f k))=none)=>?_)
  ·have e1:mput (mpL (fun i=>kS (r.f i)) k) (kS (r.f k)) ()=mpL (fun i=>kS (r.f i)) (k+1):=C5 hm
   have e2:(mpL (fun i=>kS (r.f i)) k).length=(mpL (fun i=>kS (r.f i)) (k+1)).length:=by rw [<- e1,mK]
   have e3:=congrArg List.length e1
   repeat' (first|with_reducible exact b1|with_reducible exact b2|apply And.intro|exact trivial|exact rfl)
   refine Exists.intro (k+1) (And.intro hil ?_)
   repeat' (first|apply And.intro|exact trivial|exact rfl|exact e2|exact e3|exact pX e1 _ _ _|exact lz fun _=>rfl)
   show r.n - (k+1) < r.n - k
   omega
  ·have e1:mpL (fun i=>kS (r.f i)) k++[(kS (r.f k),(),(mpL (fun i=>kS (r.f i)) k).length)]=mpL (fun i=>kS (r.f i)) (k+1):=xL hm
   have e2:(mpL (fun i=>kS (r.f i)) k).length+1=(mpL (fun i=>kS (r.f i)) (k+1)).length:=by rw [<- e1,List.length_append]; rfl
   have e3:=congrArg List.length e1
   repeat' (first|with_reducible exact b1|with_reducible exact b2|apply And.intro|exact trivial|exact rfl)
   refine Exists.intro (k+1) (And.intro hil ?_)
   repeat' (first|apply And.intro|exact trivial|exact rfl|exact e2|exact e3|exact pX e1 _ _ _|exact lz fun _=>rfl)
   show r.n - (k+1) < r.n - k
   omega
 ·refine fun (h:decide ((k:Int) < (r.n:Int))=false)=>?_
  have hi1:¬ (k:Int) < (r.n:Int):=of_decide_eq_false h
  obtain rfl:k=r.n:=by omega
  have e:decide (((mpL (fun i=>kS (r.f i)) r.n).length:Int)=(r.n:Int))=jZ (fun i=>kS (r.f i)) r.n:=C4
  repeat' (first|exact e|apply And.intro|exact trivial|exact rfl)
def g129:List Nat:=[8,10,7,5,9,3,0,2]
def c129:aD :=
 .seq (.region g129 [(zo 2 (.move (.c (.bool false))))]) (.seq (.region g129 [(zo 6 (.mkmap (.t [KPK.s,KPK.n .i64,KPK.s]))),(zo 3 (.move (.s 6)))]) (.seq (.seq (.region g129 [(zo 7 (.move (.s 0))),(zo 8 (.lenSl (.s 7))),(zo 9 (.move (.c (.int .i64 0))))]) (.block 0 (.loop 0 [10,11,12,5,13,14,15,9] (.seq (.region g129 [(zo 10 (.bin (.lss) (.s 9) (.s 8)))]) (.seq (.cond (.s 10) .skip (.exit 0)) (.seq (.block 1 (.seq (.region g129 [(zo 11 (.idxSl 3 (.s 7) (.s 9))),(zo 12 (.load 3 true (.s 11))),(zo 5 (.alloc 45 (.cons (.str []) (.cons (.int .i64 0) (.cons (.str []) .nil))))),⟨none,none,.store 3 (.s 5) (.s 12),[]⟩]) (.region g129 [(zo 13 (.move (.s 3))),(zo 14 (.load 3 true (.s 5))),⟨none,none,.mupd (.t [KPK.s,KPK.n .i64,KPK.s]) (.s 13) (.s 14) (.c (.bool true)),[]⟩]))) (.region g129 [(zo 15 (.bin (.add) (.s 9) (.c (.int .i64 1)))),(zo 9 (.move (.s 15)))]))))))) (.seq (.region g129 [(zo 16 (.move (.s 3))),(zo 17 (.mlen (.s 16))),(zo 18 (.move (.s 0))),(zo 19 (.lenSl (.s 18))),(zo 20 (.bin (.eql) (.s 17) (.s 19))),(zo 2 (.move (.s 20)))]) .ret)))
def r129:List aR:=[.slot 2]
def k129:List (Nat×Nat×aD×Nat):=[]
theorem e129:aK Tryz.prog 129 g129 [] [] k129=some (c129,r129,21):=by kernel_rfl
theorem q129:aF Tryz.prog k129:=aF.nil
def dNS:Eng.Spec where
 X:=Sq Nm
 args:=fun r=>.cons (nmE r) .nil
 pre:=fun r=>r.n<=1000000
 res:=fun r=>.bool (jZ (fun i=>kN (r.f i)) r.n)
 inst:=fun
  | .cons a .nil=>nmD a
  | _=>none
theorem Tt:dNS.Ok Tryz.prog 129:=by
 refine Eng.Spec.okR e129 q129 (fun _=>[]) (fun _ _=>aA.nil) ?_
 rintro (r:Sq Nm) (hn:r.n<=1000000)
 refine ⟨trivial,?_⟩
 repeat' (first|apply And.intro|exact trivial|exact rfl|exact lz fun _=>rfl)
 refine ⟨⟨Nat,fun k=>k<=r.n,fun k=>[(9,.int .i64 (k:Int))],fun k=>[(0,.map Unit (.t [KPK.s,KPK.n .i64,KPK.s]) (mpL (fun i=>kN (r.f i)) k) (mpL (fun i=>kN (r.f i)) k).length (fun _=>.bool true) Lc)],fun k=>r.n - k⟩,0,Nat.zero_le _,?_,?_⟩
 ·repeat' (first|apply And.intro|exact trivial|exact rfl|exact lz fun _=>rfl)
  exact fun i x y (hx:([]:List (aP×SV×Nat))[i]?=some x)=>by cases hx
 rintro (k:Nat) (hk:k<=r.n)
 repeat' (first|apply And.intro|exact trivial|exact rfl|exact lz fun _=>rfl)
 ·refine fun (h:decide ((k:Int) < (r.n:Int))=true)=>?_
  have hi1:(k:Int) < (r.n:Int):=of_decide_eq_true h
  have hil:k < r.n:=by omega
  have hi0:(0:Int)<=(k:Int):=by omega
  have b1:-9223372036854775808<=(k:Int)+1:=by omega
  have b2:(k:Int)+1<=9223372036854775807:=by omega
  repeat' (first|with_reducible exact hi1|with_reducible exact hi0|apply And.intro|exact trivial|exact rfl)
  refine nY.mk (fun (u:Unit) (t:Nat) (hm:mget (mpL (fun i=>kN (r.f i)) k) (kN (r.f k))=some (u,t))=>?_) (fun (hm:mget (mpL (fun i=>kN (r.f i)) k) (kN (r.f k))=none)=>?_)
  ·have e1:mput (mpL (fun i=>kN (r.f i)) k) (kN (r.f k)) ()=mpL (fun i=>kN (r.f i)) (k+1):=C5 hm
   have e2:(mpL (fun i=>kN (r.f i)) k).length=(mpL (fun i=>kN (r.f i)) (k+1)).length:=by rw [<- e1,mK]
   have e3:=congrArg List.length e1
   repeat' (first|with_reducible exact b1|with_reducible exact b2|apply And.intro|exact trivial|exact rfl)
   refine Exists.intro (k+1) (And.intro hil ?_)
   repeat' (first|apply And.intro|exact trivial|exact rfl|exact e2|exact e3|exact pX e1 _ _ _|exact lz fun _=>rfl)
   show r.n - (k+1) < r.n - k
   omega
  ·have e1:mpL (fun i=>kN (r.f i)) k++[(kN (r.f k),(),(mpL (fun i=>kN (r.f i)) k).length)]=mpL (fun i=>kN (r.f i)) (k+1):=xL hm
   have e2:(mpL (fun i=>kN (r.f i)) k).length+1=(mpL (fun i=>kN (r.f i)) (k+1)).length:=by rw [<- e1,List.length_append]; rfl
   have e3:=congrArg List.length e1
   repeat' (first|with_reducible exact b1|with_reducible exact b2|apply And.intro|exact trivial|exact rfl)
   refine Exists.intro (k+1) (And.intro hil ?_)
   repeat' (first|apply And.intro|exact trivial|exact rfl|exact e2|exact e3|exact pX e1 _ _ _|exact lz fun _=>rfl)
   show r.n - (k+1) < r.n - k
   omega
 ·refine fun (h:decide ((k:Int) < (r.n:Int))=false)=>?_
  have hi1:¬ (k:Int) < (r.n:Int):=of_decide_eq_false h
  obtain rfl:k=r.n:=by omega
  have e:decide (((mpL (fun i=>kN (r.f i)) r.n).length:Int)=(r.n:Int))=jZ (fun i=>kN (r.f i)) r.n:=C4
  repeat' (first|exact e|apply And.intro|exact trivial|exact rfl)
def g137:List Nat:=[8,10,7,5,9,3,0,2]
def c137:aD :=
 .seq (.region g137 [(zo 2 (.move (.c (.bool false))))]) (.seq (.region g137 [(zo 6 (.mkmap (.t [KPK.n .i64,KPK.s,KPK.n .i64,KPK.n .i64]))),(zo 3 (.move (.s 6)))]) (.seq (.seq (.region g137 [(zo 7 (.move (.s 0))),(zo 8 (.lenSl (.s 7))),(zo 9 (.move (.c (.int .i64 0))))]) (.block 0 (.loop 0 [10,11,12,5,13,14,15,9] (.seq (.region g137 [(zo 10 (.bin (.lss) (.s 9) (.s 8)))]) (.seq (.cond (.s 10) .skip (.exit 0)) (.seq (.block 1 (.seq (.region g137 [(zo 11 (.idxSl 4 (.s 7) (.s 9))),(zo 12 (.load 4 true (.s 11))),(zo 5 (.alloc 25 zHn)),⟨none,none,.store 4 (.s 5) (.s 12),[]⟩]) (.region g137 [(zo 13 (.move (.s 3))),(zo 14 (.load 4 true (.s 5))),⟨none,none,.mupd (.t [KPK.n .i64,KPK.s,KPK.n .i64,KPK.n .i64]) (.s 13) (.s 14) (.c (.bool true)),[]⟩]))) (.region g137 [(zo 15 (.bin (.add) (.s 9) (.c (.int .i64 1)))),(zo 9 (.move (.s 15)))]))))))) (.seq (.region g137 [(zo 16 (.move (.s 3))),(zo 17 (.mlen (.s 16))),(zo 18 (.move (.s 0))),(zo 19 (.lenSl (.s 18))),(zo 20 (.bin (.eql) (.s 17) (.s 19))),(zo 2 (.move (.s 20)))]) .ret)))
def r137:List aR:=[.slot 2]
def k137:List (Nat×Nat×aD×Nat):=[]
theorem e137:aK Tryz.prog 137 g137 [] [] k137=some (c137,r137,21):=by kernel_rfl
theorem q137:aF Tryz.prog k137:=aF.nil
def dHS:Eng.Spec where
 X:=Sq Hn
 args:=fun r=>.cons (hnE r) .nil
 pre:=fun r=>r.n<=1000000
 res:=fun r=>.bool (jZ (fun i=>kH (r.f i)) r.n)
 inst:=fun
  | .cons a .nil=>Wj a
  | _=>none
theorem Ox:dHS.Ok Tryz.prog 137:=by
 refine Eng.Spec.okR e137 q137 (fun _=>[]) (fun _ _=>aA.nil) ?_
 rintro (r:Sq Hn) (hn:r.n<=1000000)
 refine ⟨trivial,?_⟩
 repeat' (first|apply And.intro|exact trivial|exact rfl|exact fun (j:Nat) (hj:j < _)=>Or.inl (jX _ _ _ _))
 refine ⟨⟨Nat,fun k=>k<=r.n,fun k=>[(9,.int .i64 (k:Int))],fun k=>[(0,.map Unit (.t [KPK.n .i64,KPK.s,KPK.n .i64,KPK.n .i64]) (mpL (fun i=>kH (r.f i)) k) (mpL (fun i=>kH (r.f i)) k).length (fun _=>.bool true) Lc)],fun k=>r.n - k⟩,0,Nat.zero_le _,?_,?_⟩
 ·repeat' (first|apply And.intro|exact trivial|exact rfl|exact fun (j:Nat) (hj:j < _)=>Or.inl (jX _ _ _ _))
  exact fun i x y (hx:([]:List (aP×SV×Nat))[i]?=some x)=>by cases hx
 rintro (k:Nat) (hk:k<=r.n)
 repeat' (first|apply And.intro|exact trivial|exact rfl|exact fun (j:Nat) (hj:j < _)=>Or.inl (jX _ _ _ _))
 ·refine fun (h:decide ((k:Int) < (r.n:Int))=true)=>?_
  have hi1:(k:Int) < (r.n:Int):=of_decide_eq_true h
  have hil:k < r.n:=by omega
  have hi0:(0:Int)<=(k:Int):=by omega
  have b1:-9223372036854775808<=(k:Int)+1:=by omega
  have b2:(k:Int)+1<=9223372036854775807:=by omega
  repeat' (first|with_reducible exact hi1|with_reducible exact hi0|apply And.intro|exact trivial|exact rfl)
  refine nY.mk (fun (u:Unit) (t:Nat) (hm:mget (mpL (fun i=>kH (r.f i)) k) (kH (r.f k))=some (u,t))=>?_) (fun (hm:mget (mpL (fun i=>kH (r.f i)) k) (kH (r.f k))=none)=>?_)
  ·have e1:mput (mpL (fun i=>kH (r.f i)) k) (kH (r.f k)) ()=mpL (fun i=>kH (r.f i)) (k+1):=C5 hm
   have e2:(mpL (fun i=>kH (r.f i)) k).length=(mpL (fun i=>kH (r.f i)) (k+1)).length:=by rw [<- e1,mK]
   have e3:=congrArg List.length e1
   repeat' (first|with_reducible exact b1|with_reducible exact b2|apply And.intro|exact trivial|exact rfl)
   refine Exists.intro (k+1) (And.intro hil ?_)
   repeat' (first|apply And.intro|exact trivial|exact rfl|exact e2|exact e3|exact pX e1 _ _ _|exact fun (j:Nat) (hj:j < _)=>Or.inl (jX _ _ _ _))
   show r.n - (k+1) < r.n - k
   omega
  ·have e1:mpL (fun i=>kH (r.f i)) k++[(kH (r.f k),(),(mpL (fun i=>kH (r.f i)) k).length)]=mpL (fun i=>kH (r.f i)) (k+1):=xL hm
   have e2:(mpL (fun i=>kH (r.f i)) k).length+1=(mpL (fun i=>kH (r.f i)) (k+1)).length:=by rw [<- e1,List.length_append]; rfl
   have e3:=congrArg List.length e1
   repeat' (first|with_reducible exact b1|with_reducible exact b2|apply And.intro|exact trivial|exact rfl)
   refine Exists.intro (k+1) (And.intro hil ?_)
   repeat' (first|apply And.intro|exact trivial|exact rfl|exact e2|exact e3|exact pX e1 _ _ _|exact fun (j:Nat) (hj:j < _)=>Or.inl (jX _ _ _ _))
   show r.n - (k+1) < r.n - k
   omega
 ·refine fun (h:decide ((k:Int) < (r.n:Int))=false)=>?_
  have hi1:¬ (k:Int) < (r.n:Int):=of_decide_eq_false h
  obtain rfl:k=r.n:=by omega
  have e:decide (((mpL (fun i=>kH (r.f i)) r.n).length:Int)=(r.n:Int))=jZ (fun i=>kH (r.f i)) r.n:=C4
  repeat' (first|exact e|apply And.intro|exact trivial|exact rfl)
end F2
end
section
namespace SP
open Go
def spl (c:UInt8):List UInt8->List (List UInt8)
 | []=>[[]]
 | b::l=>if b=c then []::spl c l else match spl c l with
  | []=>[[b]]
  | w::r=>(b::w)::r
theorem Kw (c:UInt8) (l:List UInt8):spl c l≠[]:=by
 cases l with
 | nil=>simp [spl]
 | cons b l=>simp only [spl]; split; simp; split <;> simp
theorem Kv {c:UInt8} {l:List UInt8} (h:c ∉ l):spl c l=[l]:=by
 induction l with
 | nil=>rfl
 | cons b l ih =>
  simp only [List.mem_cons,not_or] at h
  simp only [spl]
  rw [if_neg (fun e=>h.1 e.symm),ih h.2]
theorem Oe {c:UInt8} {a b:List UInt8} (h:c ∉ a):spl c (a++c::b)=a::spl c b:=by
 induction a with
 | nil=>simp [spl]
 | cons x a ih =>
  simp only [List.mem_cons,not_or] at h
  simp only [List.cons_append,spl]
  rw [if_neg (fun e=>h.1 e.symm),ih h.2]
theorem idx1 (c:UInt8) (s:List UInt8):(Lib.index s [c]=-1/\c ∉ s)\/∃ a b,s=a++c::b/\c ∉ a/\Lib.index s [c]=(a.length:Int):=by
 induction s with
 | nil=>left; exact ⟨rfl,by simp⟩
 | cons x l ih =>
  by_cases hx:c=x
  ·right
   subst hx
   refine ⟨[],l,rfl,by simp,?_⟩
   simp [Lib.index,List.isPrefixOf]
  ·have hp:([c]:List UInt8).isPrefixOf (x::l)=false:=by simp [List.isPrefixOf,hx]
   rcases ih with ⟨h1,h2⟩|⟨a,b,h1,h2,h3⟩
   ·left
    refine ⟨?_,by simp [hx,h2]⟩
    simp only [Lib.index,hp,h1]
    decide
   ·right
    refine ⟨x::a,b,by rw [h1]; rfl,by simp [hx,h2],?_⟩
    simp only [Lib.index,hp,h3]
    have:((a.length:Int) == -1)=false:=by
     rw [beq_eq_false_iff_ne]; omega
    rw [this]
    simp
theorem Oh (c:UInt8):∀ (f:Nat) (s:List UInt8),s.length<=f->Lib.splitK [c] 0 (Lib.countFrom [c] f s) s=spl c s:=by
 intro f
 induction f with
 | zero =>
  intro s h
  have:s=[]:=List.length_eq_zero_iff.1 (by omega)
  subst this
  rfl
 | succ f ih =>
  intro s h
  simp only [Lib.countFrom]
  rcases idx1 c s with ⟨h1,h2⟩|⟨a,b,h1,h2,h3⟩
  ·rw [h1,Kv h2]
   rfl
  ·rw [h3]
   have hb:((a.length:Int) == -1)=false:=by rw [beq_eq_false_iff_ne]; omega
   rw [hb]
   have hd:s.drop ((a.length:Int).toNat+([c]:List UInt8).length)=b:=by
    rw [h1]
    simp
   rw [hd]
   simp only [Bool.false_eq_true,if_false]
   rw [Nat.add_comm 1]
   simp only [Lib.splitK]
   rw [h3,hb]
   simp only [Bool.false_eq_true,if_false,Nat.add_zero]
   rw [hd,ih b (by rw [h1] at h; simp at h; omega),h1,Oe h2]
   simp
theorem uA (c:UInt8) (s:List UInt8):Lib.split s [c]=spl c s:=by
 unfold Lib.split Lib.count
 exact Oh c (s.length+1) s (Nat.le_succ _)
theorem Of (c:UInt8) (s:List UInt8):(spl c s).length<=s.length+1/\∀ w∈spl c s,w.length<=s.length:=by
 induction s with
 | nil=>simp [spl]
 | cons b l ih =>
  simp only [spl]
  split
  ·refine ⟨by simp; exact ih.1,fun w hw=>?_⟩
   rcases List.mem_cons.1 hw with rfl|hw
   ·simp
   ·have:=ih.2 w hw; simp; omega
  ·split
   ·rename_i h; exact absurd h (Kw c l)
   ·rename_i w r h
    rw [h] at ih
    refine ⟨by simp at ih ⊢; omega,fun v hv=>?_⟩
    rcases List.mem_cons.1 hv with rfl|hv
    ·have:=ih.2 w (by simp); simp; omega
    ·have:=ih.2 v (by simp [hv]); simp; omega
theorem Og (c:UInt8) (s:List UInt8):∀ b∈s,b=c\/∃ w∈spl c s,b∈w:=by
 induction s with
 | nil=>simp
 | cons x l ih =>
  intro b hb
  simp only [spl]
  by_cases hx:x=c
  ·rw [if_pos hx]
   rcases List.mem_cons.1 hb with rfl|hb
   ·exact .inl hx
   ·rcases ih b hb with h|⟨w,h1,h2⟩
    ·exact .inl h
    ·exact .inr ⟨w,by simp [h1],h2⟩
  ·rw [if_neg hx]
   split
   ·rename_i h; exact absurd h (Kw c l)
   ·rename_i w r h
    rw [h] at ih
    rcases List.mem_cons.1 hb with rfl|hb
    ·exact .inr ⟨b::w,by simp,by simp⟩
    ·rcases ih b hb with h|⟨v,h1,h2⟩
     ·exact .inl h
     ·rcases List.mem_cons.1 h1 with rfl|h1
      ·exact .inr ⟨x::v,by simp,by simp [h2]⟩
      ·exact .inr ⟨v,by simp [h1],h2⟩
end SP
end
