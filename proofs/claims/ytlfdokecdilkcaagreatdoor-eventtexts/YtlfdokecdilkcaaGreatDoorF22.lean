/- A part of the proof. -/
import Derived.Test.YtlfdokecdilkcaaGreatDoorF21
open Go Go.Eng Go.Proofs G1 G2 G3 G4 G6 G7 EV0 N1 N2 F1 F2 F3 F4 F5 F6 F7 F8 F9 F10 F12 F21
set_option maxRecDepth 100000
namespace F22
def g25:List Nat:=[0,52,57,66,3,71,91,4,96,1,117,5,2]
def c25:aD :=
 .seq (.region g25 [(zo 1 (.box 31 (.s 0))),(zo 2 (.move (.c (.bool false))))]) (.seq (.seq (.region g25 [(zo 6 (.fldA 8 (.s 1))),(zo 7 (.load 1 false (.s 6))),(zo 8 (.lenSl (.s 7))),(zo 9 (.bin (.gtr) (.s 8) (.c (.int .i64 50)))),(zo 10 (.move (.s 9))),(zg 11 10 false (.fldA 9 (.s 1))),(zg 12 10 false (.load 1 false (.s 11))),(zg 13 10 false (.lenSl (.s 12))),(zg 14 10 false (.bin (.gtr) (.s 13) (.c (.int .i64 50)))),(zo 15 (.pick (.s 10) (.c (.bool true)) (.s 14))),(zo 16 (.move (.s 15))),(zg 17 16 false (.fldA 16 (.s 1))),(zg 18 16 false (.load 1 false (.s 17))),(zg 19 16 false (.lenSl (.s 18))),(zg 20 16 false (.bin (.gtr) (.s 19) (.c (.int .i64 50)))),(zo 21 (.pick (.s 16) (.c (.bool true)) (.s 20))),(zo 22 (.move (.s 21))),(zg 23 22 false (.fldA 17 (.s 1))),(zg 24 22 false (.load 1 false (.s 23))),(zg 25 22 false (.lenSl (.s 24))),(zg 26 22 false (.bin (.gtr) (.s 25) (.c (.int .i64 50)))),(zo 27 (.pick (.s 22) (.c (.bool true)) (.s 26))),(zo 28 (.move (.s 27))),(zg 29 28 false (.fldA 5 (.s 1))),(zg 30 28 false (.load 1 false (.s 29))),(zg 31 28 false (.lenStr (.s 30))),(zg 32 28 false (.bin (.gtr) (.s 31) (.c (.int .i64 100)))),(zo 33 (.pick (.s 28) (.c (.bool true)) (.s 32))),(zo 34 (.move (.s 33))),(zg 35 34 false (.fldA 6 (.s 1))),(zg 36 34 false (.load 1 false (.s 35))),(zg 37 34 false (.lenStr (.s 36))),(zg 38 34 false (.bin (.gtr) (.s 37) (.c (.int .i64 100)))),(zo 39 (.pick (.s 34) (.c (.bool true)) (.s 38))),(zo 40 (.move (.s 39))),(zg 41 40 false (.fldA 7 (.s 1))),(zg 42 40 false (.load 1 false (.s 41))),(zg 43 40 false (.lenStr (.s 42))),(zg 44 40 false (.bin (.gtr) (.s 43) (.c (.int .i64 100)))),(zo 45 (.pick (.s 40) (.c (.bool true)) (.s 44))),(zo 46 (.move (.s 45))),(zg 47 46 false (.fldA 10 (.s 1))),(zg 48 46 false (.fldA 1 (.s 47))),(zg 49 46 false (.load 1 false (.s 48))),(zg 50 46 false (.lenStr (.s 49))),(zg 51 46 false (.bin (.gtr) (.s 50) (.c (.int .i64 100)))),(zo 52 (.pick (.s 46) (.c (.bool true)) (.s 51)))]) (.cond (.s 52) (.seq (.region g25 [(zo 2 (.move (.c (.bool false))))]) .ret) .skip)) (.seq (.seq (.region g25 [(zo 3 (.move (.c (.int .i64 0))))]) (.block 0 (.loop 0 [53,54,55,56,57,60,61,62,63,64,65,66,2,58,59,3] (.seq (.seq (.region g25 [(zo 53 (.move (.s 3))),(zo 54 (.fldA 8 (.s 1))),(zo 55 (.load 1 false (.s 54))),(zo 56 (.lenSl (.s 55))),(zo 57 (.bin (.lss) (.s 53) (.s 56)))]) (.cond (.s 57) .skip (.exit 0))) (.seq (.block 1 (.seq (.region g25 [(zo 60 (.fldA 8 (.s 1))),(zo 61 (.load 1 false (.s 60))),(zo 62 (.move (.s 3))),(zo 63 (.idxSl 1 (.s 61) (.s 62))),(zo 64 (.load 1 false (.s 63))),(zo 65 (.lenStr (.s 64))),(zo 66 (.bin (.gtr) (.s 65) (.c (.int .i64 100))))]) (.cond (.s 66) (.seq (.region g25 [(zo 2 (.move (.c (.bool false))))]) .ret) .skip))) (.region g25 [(zo 58 (.move (.s 3))),(zo 59 (.bin (.add) (.s 58) (.c (.int .i64 1)))),(zo 3 (.move (.s 59)))])))))) (.seq (.seq (.region g25 [(zo 4 (.move (.c (.int .i64 0))))]) (.block 2 (.loop 1 [67,68,69,70,71,74,75,76,77,78,79,80,81,82,83,84,85,86,87,88,89,90,91,2,72,73,4] (.seq (.seq (.region g25 [(zo 67 (.move (.s 4))),(zo 68 (.fldA 9 (.s 1))),(zo 69 (.load 1 false (.s 68))),(zo 70 (.lenSl (.s 69))),(zo 71 (.bin (.lss) (.s 67) (.s 70)))]) (.cond (.s 71) .skip (.exit 2))) (.seq (.block 3 (.seq (.region g25 [(zo 74 (.fldA 9 (.s 1))),(zo 75 (.load 1 false (.s 74))),(zo 76 (.move (.s 4))),(zo 77 (.idxSl 3 (.s 75) (.s 76))),(zo 78 (.fldA 0 (.s 77))),(zo 79 (.load 1 false (.s 78))),(zo 80 (.lenStr (.s 79))),(zo 81 (.bin (.gtr) (.s 80) (.c (.int .i64 100)))),(zo 82 (.move (.s 81))),(zg 83 82 false (.fldA 9 (.s 1))),(zg 84 82 false (.load 1 false (.s 83))),(zg 85 82 false (.move (.s 4))),(zg 86 82 false (.idxSl 3 (.s 84) (.s 85))),(zg 87 82 false (.fldA 2 (.s 86))),(zg 88 82 false (.load 1 false (.s 87))),(zg 89 82 false (.lenStr (.s 88))),(zg 90 82 false (.bin (.gtr) (.s 89) (.c (.int .i64 100)))),(zo 91 (.pick (.s 82) (.c (.bool true)) (.s 90)))]) (.cond (.s 91) (.seq (.region g25 [(zo 2 (.move (.c (.bool false))))]) .ret) .skip))) (.region g25 [(zo 72 (.move (.s 4))),(zo 73 (.bin (.add) (.s 72) (.c (.int .i64 1)))),(zo 4 (.move (.s 73)))])))))) (.seq (.seq (.region g25 [(zo 5 (.move (.c (.int .i64 0))))]) (.block 4 (.loop 2 [92,93,94,95,96,99,100,101,102,103,104,105,106,107,108,109,110,111,112,113,114,115,116,117,2,97,98,5] (.seq (.seq (.region g25 [(zo 92 (.move (.s 5))),(zo 93 (.fldA 17 (.s 1))),(zo 94 (.load 1 false (.s 93))),(zo 95 (.lenSl (.s 94))),(zo 96 (.bin (.lss) (.s 92) (.s 95)))]) (.cond (.s 96) .skip (.exit 4))) (.seq (.block 5 (.seq (.region g25 [(zo 99 (.fldA 17 (.s 1))),(zo 100 (.load 1 false (.s 99))),(zo 101 (.move (.s 5))),(zo 102 (.idxSl 7 (.s 100) (.s 101))),(zo 103 (.fldA 0 (.s 102))),(zo 104 (.load 1 false (.s 103))),(zo 105 (.lenStr (.s 104))),(zo 106 (.bin (.gtr) (.s 105) (.c (.int .i64 100)))),(zo 107 (.move (.s 106))),(zg 108 107 false (.fldA 17 (.s 1))),(zg 109 107 false (.load 1 false (.s 108))),(zg 110 107 false (.move (.s 5))),(zg 111 107 false (.idxSl 7 (.s 109) (.s 110))),(zg 112 107 false (.fldA 1 (.s 111))),(zg 113 107 false (.fldA 1 (.s 112))),(zg 114 107 false (.load 1 false (.s 113))),(zg 115 107 false (.lenStr (.s 114))),(zg 116 107 false (.bin (.gtr) (.s 115) (.c (.int .i64 100)))),(zo 117 (.pick (.s 107) (.c (.bool true)) (.s 116)))]) (.cond (.s 117) (.seq (.region g25 [(zo 2 (.move (.c (.bool false))))]) .ret) .skip))) (.region g25 [(zo 97 (.move (.s 5))),(zo 98 (.bin (.add) (.s 97) (.c (.int .i64 1)))),(zo 5 (.move (.s 98)))])))))) (.seq (.region g25 [(zo 2 (.move (.c (.bool true))))]) .ret)))))
def r25:List aR:=[.slot 2]
def k25:List (Nat×Nat×aD×Nat):=[]
theorem e25:aK Tryz.prog 25 g25 [] [] k25=some (c25,r25,118):=by kernel_rfl
theorem q25:aF Tryz.prog k25:=aF.nil
def Fw (e:Ev):Bool:=(((((((decide (50 < (e.ids.n:Int)) || decide (50 < (e.names.n:Int))) || decide (50 < (e.path.n:Int))) || decide (50 < (e.list.n:Int))) || decide (100 < (e.id.length:Int))) || decide (100 < (e.oth.length:Int))) || decide (100 < (e.txt.length:Int))) || decide (100 < (e.num.l.length:Int)))
def uO (e:Ev) (i:Nat):Bool:=decide (100 < ((e.ids.f i).length:Int))
def sR (e:Ev) (i:Nat):Bool:=decide (100 < ((e.names.f i).lang.length:Int)) || decide (100 < ((e.names.f i).text.length:Int))
def sQ (e:Ev) (i:Nat):Bool:=decide (100 < ((e.list.f i).id.length:Int)) || decide (100 < ((e.list.f i).num.l.length:Int))
def gY (e:Ev):Bool:=!Fw e && (!orB (uO e) e.ids.n && (!orB (sR e) e.names.n && !orB (sQ e) e.list.n))
structure sC (e:Ev):Prop where
 ids:e.ids.n<=9223372036854775807
 names:e.names.n<=9223372036854775807
 list:e.list.n<=9223372036854775807
def T4:Eng.Spec where
 X:=Ev
 args:=fun e=>.cons (evE e) .nil
 pre:=sC
 res:=fun e=>.bool (gY e)
 inst:=ev1
theorem Qt:T4.Ok Tryz.prog 25:=by
 refine Eng.Spec.okR e25 q25 (fun _=>[]) (fun _ _=>aA.nil) ?_
 rintro (e:Ev) ⟨(g1:e.ids.n<=9223372036854775807),(g2:e.names.n<=9223372036854775807),(g3:e.list.n<=9223372036854775807)⟩
 have cz:∀ i j k l m o p,aG (aG (aG (aG (aG (aG (aG (decide (50 < (e.ids.n:Int))) (.c (.bool true)) (.s i) true (decide (50 < (e.names.n:Int)))) (.c (.bool true)) (.s j) true (decide (50 < (e.path.n:Int)))) (.c (.bool true)) (.s k) true (decide (50 < (e.list.n:Int)))) (.c (.bool true)) (.s l) true (decide (100 < (e.id.length:Int)))) (.c (.bool true)) (.s m) true (decide (100 < (e.oth.length:Int)))) (.c (.bool true)) (.s o) true (decide (100 < (e.txt.length:Int)))) (.c (.bool true)) (.s p) true (decide (100 < (e.num.l.length:Int)))=Fw e:=fun i j k l m o p=>by
  rw [aI,aI,aI,aI,aI,aI,aI]; rfl
 have cn:∀ (s i:Nat),aG (decide (100 < ((e.names.f i).lang.length:Int))) (.c (.bool true)) (.s s) true (decide (100 < ((e.names.f i).text.length:Int)))=sR e i:=fun s i=>by rw [aI]; rfl
 have cl:∀ (s i:Nat),aG (decide (100 < ((e.list.f i).id.length:Int))) (.c (.bool true)) (.s s) true (decide (100 < ((e.list.f i).num.l.length:Int)))=sQ e i:=fun s i=>by rw [aI]; rfl
 refine ⟨trivial,?_⟩
 repeat' (first|apply And.intro|exact trivial|exact rfl|exact lz fun _=>rfl|(refine fun (_:aH _ _ _ _)=>?_))
 ·refine fun hc0=>?_
  have hc:Fw e=true:=(cz 14 20 26 32 38 44 51).symm.trans hc0
  have ef:false=gY e:=by unfold gY; rw [hc]; rfl
  repeat' (first|exact ef|apply And.intro|exact trivial|exact rfl)
 ·refine fun hc0=>?_
  have hc0':Fw e=false:=(cz 14 20 26 32 38 44 51).symm.trans hc0
  repeat' (first|apply And.intro|exact trivial|exact rfl|exact lz fun _=>rfl|(refine fun (_:aH _ _ _ _)=>?_))
  refine ⟨⟨Nat,fun i=>i<=e.ids.n/\orB (uO e) i=false,fun i=>[(3,.int .i64 (i:Int))],fun _=>[],fun i=>e.ids.n - i⟩,0,⟨Nat.zero_le _,rfl⟩,?_,?_⟩
  ·repeat' (first|apply And.intro|exact trivial|exact rfl|exact lz fun _=>rfl)
  rintro (i:Nat) ⟨(hi:i<=e.ids.n),(hf:orB (uO e) i=false)⟩
  repeat' (first|apply And.intro|exact trivial|exact rfl|exact lz fun _=>rfl)
  ·refine fun (h:decide ((i:Int) < (e.ids.n:Int))=true)=>?_
   have hi1:(i:Int) < (e.ids.n:Int):=of_decide_eq_true h
   have hil:i < e.ids.n:=by omega
   have hi0:(0:Int)<=(i:Int):=by omega
   have b1:-9223372036854775808<=(i:Int)+1:=by omega
   have b2:(i:Int)+1<=9223372036854775807:=by omega

   repeat' (first|with_reducible exact hi1|with_reducible exact hi0 |apply And.intro|exact trivial|exact rfl|exact lz fun _=>rfl)
   ·refine fun (hc0:decide (100 < ((e.ids.f i).length:Int))=true)=>?_
    have hc:(uO e) i=true:=id hc0
    have ho:orB (uO e) e.ids.n=true:=bK.2 ⟨i,hil,hc⟩
    have e:false=gY e:=by unfold gY; rw [hc0',ho]; rfl
    repeat' (first|exact e|apply And.intro|exact trivial|exact rfl)
   ·refine fun (hc0:decide (100 < ((e.ids.f i).length:Int))=false)=>?_
    have hc:(uO e) i=false:=id hc0
    have hf1:orB (uO e) (i+1)=false:=iU hf hc
    repeat' (first|with_reducible exact b1|with_reducible exact b2|apply And.intro|exact trivial|exact rfl)
    refine Exists.intro (i+1) (And.intro (And.intro hil hf1) ?_)
    repeat' (first|apply And.intro|exact trivial|exact rfl|exact lz fun _=>rfl)
    exact iT hil
  refine fun (h:decide ((i:Int) < (e.ids.n:Int))=false)=>?_
  have hil:i=e.ids.n:=by have:¬ (i:Int) < (e.ids.n:Int):=of_decide_eq_false h; omega
  have ho1:orB (uO e) e.ids.n=false:=by rw [<- hil]; exact hf
  repeat' (first|apply And.intro|exact trivial|exact rfl|exact lz fun _=>rfl|(refine fun (_:aH _ _ _ _)=>?_))
  refine ⟨⟨Nat,fun i=>i<=e.names.n/\orB (sR e) i=false,fun i=>[(4,.int .i64 (i:Int))],fun _=>[],fun i=>e.names.n - i⟩,0,⟨Nat.zero_le _,rfl⟩,?_,?_⟩
  ·repeat' (first|apply And.intro|exact trivial|exact rfl|exact lz fun _=>rfl)
  rintro (i:Nat) ⟨(hi:i<=e.names.n),(hf:orB (sR e) i=false)⟩
  repeat' (first|apply And.intro|exact trivial|exact rfl|exact lz fun _=>rfl)
  ·refine fun (h:decide ((i:Int) < (e.names.n:Int))=true)=>?_
   have hi1:(i:Int) < (e.names.n:Int):=of_decide_eq_true h
   have hil:i < e.names.n:=by omega
   have hi0:(0:Int)<=(i:Int):=by omega
   have b1:-9223372036854775808<=(i:Int)+1:=by omega
   have b2:(i:Int)+1<=9223372036854775807:=by omega

   repeat' (first|with_reducible exact hi1|with_reducible exact hi0|exact fun _=>And.intro hi0 hi1|apply And.intro|exact trivial|exact rfl|exact lz fun _=>rfl)
   ·refine fun (hc0:aG (decide (100 < ((e.names.f i).lang.length:Int))) (.c (.bool true)) (.s 90) true (decide (100 < ((e.names.f i).text.length:Int)))=true)=>?_
    have hc:(sR e) i=true:=(fun q=>(cn 90 i).symm.trans q) hc0
    have ho:orB (sR e) e.names.n=true:=bK.2 ⟨i,hil,hc⟩
    have e:false=gY e:=by unfold gY; rw [hc0',ho1,ho]; rfl
    repeat' (first|exact e|apply And.intro|exact trivial|exact rfl)
   ·refine fun (hc0:aG (decide (100 < ((e.names.f i).lang.length:Int))) (.c (.bool true)) (.s 90) true (decide (100 < ((e.names.f i).text.length:Int)))=false)=>?_
    have hc:(sR e) i=false:=(fun q=>(cn 90 i).symm.trans q) hc0
    have hf1:orB (sR e) (i+1)=false:=iU hf hc
    repeat' (first|with_reducible exact b1|with_reducible exact b2|apply And.intro|exact trivial|exact rfl)
    refine Exists.intro (i+1) (And.intro (And.intro hil hf1) ?_)
    repeat' (first|apply And.intro|exact trivial|exact rfl|exact lz fun _=>rfl)
    exact iT hil
  refine fun (h:decide ((i:Int) < (e.names.n:Int))=false)=>?_
  have hil:i=e.names.n:=by have:¬ (i:Int) < (e.names.n:Int):=of_decide_eq_false h; omega
  have ho2:orB (sR e) e.names.n=false:=by rw [<- hil]; exact hf
  repeat' (first|apply And.intro|exact trivial|exact rfl|exact lz fun _=>rfl|(refine fun (_:aH _ _ _ _)=>?_))
  refine ⟨⟨Nat,fun i=>i<=e.list.n/\orB (sQ e) i=false,fun i=>[(5,.int .i64 (i:Int))],fun _=>[],fun i=>e.list.n - i⟩,0,⟨Nat.zero_le _,rfl⟩,?_,?_⟩
  ·repeat' (first|apply And.intro|exact trivial|exact rfl|exact lz fun _=>rfl)
  rintro (i:Nat) ⟨(hi:i<=e.list.n),(hf:orB (sQ e) i=false)⟩
  repeat' (first|apply And.intro|exact trivial|exact rfl|exact lz fun _=>rfl)
  ·refine fun (h:decide ((i:Int) < (e.list.n:Int))=true)=>?_
   have hi1:(i:Int) < (e.list.n:Int):=of_decide_eq_true h
   have hil:i < e.list.n:=by omega
   have hi0:(0:Int)<=(i:Int):=by omega
   have b1:-9223372036854775808<=(i:Int)+1:=by omega
   have b2:(i:Int)+1<=9223372036854775807:=by omega

   repeat' (first|with_reducible exact hi1|with_reducible exact hi0|exact fun _=>And.intro hi0 hi1|apply And.intro|exact trivial|exact rfl|exact lz fun _=>rfl)
   ·refine fun (hc0:aG (decide (100 < ((e.list.f i).id.length:Int))) (.c (.bool true)) (.s 116) true (decide (100 < ((e.list.f i).num.l.length:Int)))=true)=>?_
    have hc:(sQ e) i=true:=(fun q=>(cl 116 i).symm.trans q) hc0
    have ho:orB (sQ e) e.list.n=true:=bK.2 ⟨i,hil,hc⟩
    have e:false=gY e:=by unfold gY; rw [hc0',ho1,ho2,ho]; rfl
    repeat' (first|exact e|apply And.intro|exact trivial|exact rfl)
   ·refine fun (hc0:aG (decide (100 < ((e.list.f i).id.length:Int))) (.c (.bool true)) (.s 116) true (decide (100 < ((e.list.f i).num.l.length:Int)))=false)=>?_
    have hc:(sQ e) i=false:=(fun q=>(cl 116 i).symm.trans q) hc0
    have hf1:orB (sQ e) (i+1)=false:=iU hf hc
    repeat' (first|with_reducible exact b1|with_reducible exact b2|apply And.intro|exact trivial|exact rfl)
    refine Exists.intro (i+1) (And.intro (And.intro hil hf1) ?_)
    repeat' (first|apply And.intro|exact trivial|exact rfl|exact lz fun _=>rfl)
    exact iT hil
  refine fun (h:decide ((i:Int) < (e.list.n:Int))=false)=>?_
  have hil:i=e.list.n:=by have:¬ (i:Int) < (e.list.n:Int):=of_decide_eq_false h; omega
  have ho3:orB (sQ e) e.list.n=false:=by rw [<- hil]; exact hf
  have ef:true=gY e:=by unfold gY; rw [hc0',ho1,ho2,ho3]; rfl
  repeat' (first|exact ef|apply And.intro|exact trivial|exact rfl)
theorem Ej {e:Ev} (h:gY e=true):okV e:=by
 unfold gY Fw at h
 simp only [Bool.and_eq_true,Bool.not_eq_true',Bool.or_eq_false_iff,decide_eq_false_iff_not] at h
 obtain ⟨⟨⟨⟨⟨⟨⟨⟨a1,a2⟩,a3⟩,a4⟩,a5⟩,a6⟩,a7⟩,a8⟩,h1,h2,h3⟩:=h
 constructor
 ·show e.id.length<=1000000; omega
 ·show e.oth.length<=1000000; omega
 ·show e.txt.length<=1000000; omega
 ·refine ⟨by omega,fun i hi=>?_⟩
  have:=bE.1 h1 i hi
  unfold uO at this
  rw [decide_eq_false_iff_not] at this
  show (e.ids.f i).length<=1000000
  omega
 ·refine ⟨by omega,fun i hi=>?_⟩
  have:=bE.1 h2 i hi
  unfold sR at this
  rw [Bool.or_eq_false_iff,decide_eq_false_iff_not,decide_eq_false_iff_not] at this
  refine ⟨?_,?_⟩
  ·show (e.names.f i).lang.length<=1000000; omega
  ·show (e.names.f i).text.length<=1000000; omega
 ·show e.num.l.length<=1000000; omega
 ·omega
 ·refine ⟨by omega,fun i hi=>?_⟩
  have:=bE.1 h3 i hi
  unfold sQ at this
  rw [Bool.or_eq_false_iff,decide_eq_false_iff_not,decide_eq_false_iff_not] at this
  refine ⟨?_,?_⟩
  ·show (e.list.f i).id.length<=1000000; omega
  ·show (e.list.f i).num.l.length<=1000000; omega
def g11:List Nat:=[0,1,2,3,4]
def c11:aD :=
 .seq (.region g11 [(zo 2 (.box 31 (.s 0))),(zo 3 (.box 31 (.s 1))),(zo 4 (.move (.c (.bool false))))]) (.seq (.region g11 [(zo 5 (.load 18 true (.s 2))),(zo 6 (.call (.c (.fn 25)) [.s 5])),(zo 7 (.move (.s 6))),(zg 8 7 true (.load 18 true (.s 3))),(zg 9 7 true (.call (.c (.fn 25)) [.s 8])),(zo 10 (.pick (.s 7) (.s 9) (.c (.bool false)))),(zo 4 (.move (.s 10)))]) .ret)
def r11:List aR:=[.slot 4]
def k11:List (Nat×Nat×aD×Nat):=[]
theorem e11:aK Tryz.prog 11 g11 [] [] k11=some (c11,r11,11):=by kernel_rfl
theorem q11:aF Tryz.prog k11:=aF.nil
def T8:Eng.Spec where
 X:=Ev×Ev
 args:=fun x=>.cons (evE x.1) (.cons (evE x.2) .nil)
 pre:=fun x=>sC x.1/\sC x.2
 res:=fun x=>.bool (gY x.1 && gY x.2)
 inst:=EV0.two evD evD
theorem Q2:T8.Ok Tryz.prog 11:=by
 refine Eng.Spec.okR e11 q11 (fun _=>[(25,.p T4)]) (fun _ _=>aA.p Qt aA.nil) ?_
 rintro ⟨a,b⟩ ⟨(h1:sC a),(h2:sC b)⟩
 have e:aG (gY a) (.s 9) (.c (.bool false)) (gY b) false=(gY a && gY b):=by rw [aJ]
 refine ⟨trivial,?_⟩
 repeat' (first|exact h1|exact h2|exact e|apply And.intro|exact trivial|exact rfl|exact lz fun _=>rfl|(refine fun (_:aH _ _ _ _)=>?_))
end F22
