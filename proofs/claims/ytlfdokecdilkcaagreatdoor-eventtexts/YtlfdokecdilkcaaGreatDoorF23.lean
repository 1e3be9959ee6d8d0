/- A part of the proof. -/
import Derived.Test.YtlfdokecdilkcaaGreatDoorF22
import Derived.Test.YtlfdokecdilkcaaGreatDoorRT3
open Go Go.Eng Go.Proofs G1 G2 G3 G4 G6 G7 EV0 N1 N2 F1 F2 F3 F4 F5 F6 F7 F8 F9 F10 F12 F21 F22 RT3
set_option maxRecDepth 100000
namespace F23
def Mj (x y:Hn):Bool:=decide (x.n=y.n) && (decide (x.l=y.l) && (decide (x.num=y.num) && (decide (x.den=y.den) && true)))
def rA (x y:En):Bool:=decide (x.id=y.id) && (decide (x.num.n=y.num.n) && (decide (x.num.l=y.num.l) && (decide (x.num.num=y.num.num) && (decide (x.num.den=y.num.den) && (decide (x.pt.1=y.pt.1) && (decide (x.pt.2=y.pt.2) && true))))))
def Ik (a b:Ev):Bool:=((((((((!decide (a.kind=b.kind) || !decide (a.day=b.day)) || !decide (a.a=b.a)) || !decide (a.b=b.b)) || !decide (a.off=b.off)) || !decide (a.id=b.id)) || !decide (a.oth=b.oth)) || !decide (a.txt=b.txt)) || !Mj a.num b.num) || !eqP a.pt b.pt
def Fo (a b:Ev):Bool:=!decide ((a.ids.n:Int)=(b.ids.n:Int)) || !decide ((a.list.n:Int)=(b.list.n:Int))
def gS (a b:Ev):Bool:=!Ik a b && (!Fo a b && (!orB (fun i=>!decide (a.ids.f i=b.ids.f i)) a.ids.n && (!orB (fun i=>!rA (a.list.f i) (b.list.f i)) a.list.n && (tL a.names b.names && tU a.path b.path))))
def Sm:Eng.Spec where
 X:=Ev×Ev
 args:=fun x=>.cons (evE x.1) (.cons (evE x.2) .nil)
 pre:=fun x=>okV x.1
 res:=fun x=>.bool (gS x.1 x.2)
 inst:=EV0.two evD evD
def g21:List Nat:=[0,1,74,90,95,108,5,113,126,6,2,3,4]
def c21:aD :=
 .seq (.region g21 [(zo 2 (.box 31 (.s 0))),(zo 3 (.box 31 (.s 1))),(zo 4 (.move (.c (.bool false))))]) (.seq (.seq (.region g21 [(zo 7 (.fldA 0 (.s 2))),(zo 8 (.load 1 false (.s 7))),(zo 9 (.fldA 0 (.s 3))),(zo 10 (.load 1 false (.s 9))),(zo 11 (.bin (.neq) (.s 8) (.s 10))),(zo 12 (.move (.s 11))),(zg 13 12 false (.fldA 1 (.s 2))),(zg 14 12 false (.load 1 false (.s 13))),(zg 15 12 false (.fldA 1 (.s 3))),(zg 16 12 false (.load 1 false (.s 15))),(zg 17 12 false (.bin (.neq) (.s 14) (.s 16))),(zo 18 (.pick (.s 12) (.c (.bool true)) (.s 17))),(zo 19 (.move (.s 18))),(zg 20 19 false (.fldA 2 (.s 2))),(zg 21 19 false (.load 1 false (.s 20))),(zg 22 19 false (.fldA 2 (.s 3))),(zg 23 19 false (.load 1 false (.s 22))),(zg 24 19 false (.bin (.neq) (.s 21) (.s 23))),(zo 25 (.pick (.s 19) (.c (.bool true)) (.s 24))),(zo 26 (.move (.s 25))),(zg 27 26 false (.fldA 3 (.s 2))),(zg 28 26 false (.load 1 false (.s 27))),(zg 29 26 false (.fldA 3 (.s 3))),(zg 30 26 false (.load 1 false (.s 29))),(zg 31 26 false (.bin (.neq) (.s 28) (.s 30))),(zo 32 (.pick (.s 26) (.c (.bool true)) (.s 31))),(zo 33 (.move (.s 32))),(zg 34 33 false (.fldA 4 (.s 2))),(zg 35 33 false (.load 1 false (.s 34))),(zg 36 33 false (.fldA 4 (.s 3))),(zg 37 33 false (.load 1 false (.s 36))),(zg 38 33 false (.bin (.neq) (.s 35) (.s 37))),(zo 39 (.pick (.s 33) (.c (.bool true)) (.s 38))),(zo 40 (.move (.s 39))),(zg 41 40 false (.fldA 5 (.s 2))),(zg 42 40 false (.load 1 false (.s 41))),(zg 43 40 false (.fldA 5 (.s 3))),(zg 44 40 false (.load 1 false (.s 43))),(zg 45 40 false (.bin (.neq) (.s 42) (.s 44))),(zo 46 (.pick (.s 40) (.c (.bool true)) (.s 45))),(zo 47 (.move (.s 46))),(zg 48 47 false (.fldA 6 (.s 2))),(zg 49 47 false (.load 1 false (.s 48))),(zg 50 47 false (.fldA 6 (.s 3))),(zg 51 47 false (.load 1 false (.s 50))),(zg 52 47 false (.bin (.neq) (.s 49) (.s 51))),(zo 53 (.pick (.s 47) (.c (.bool true)) (.s 52))),(zo 54 (.move (.s 53))),(zg 55 54 false (.fldA 7 (.s 2))),(zg 56 54 false (.load 1 false (.s 55))),(zg 57 54 false (.fldA 7 (.s 3))),(zg 58 54 false (.load 1 false (.s 57))),(zg 59 54 false (.bin (.neq) (.s 56) (.s 58))),(zo 60 (.pick (.s 54) (.c (.bool true)) (.s 59))),(zo 61 (.move (.s 60))),(zg 62 61 false (.fldA 10 (.s 2))),(zg 63 61 false (.load 4 true (.s 62))),(zg 64 61 false (.fldA 10 (.s 3))),(zg 65 61 false (.load 4 true (.s 64))),(zg 66 61 false (.eqS true [(0,1),(1,2),(2,1),(3,1)] (.s 63) (.s 65))),(zo 67 (.pick (.s 61) (.c (.bool true)) (.s 66))),(zo 68 (.move (.s 67))),(zg 69 68 false (.fldA 14 (.s 2))),(zg 70 68 false (.load 2 true (.s 69))),(zg 71 68 false (.fldA 14 (.s 3))),(zg 72 68 false (.load 2 true (.s 71))),(zg 73 68 false (.eqS true [(0,1),(1,1)] (.s 70) (.s 72))),(zo 74 (.pick (.s 68) (.c (.bool true)) (.s 73)))]) (.cond (.s 74) (.seq (.region g21 [(zo 4 (.move (.c (.bool false))))]) .ret) .skip)) (.seq (.seq (.region g21 [(zo 75 (.fldA 8 (.s 2))),(zo 76 (.load 1 false (.s 75))),(zo 77 (.lenSl (.s 76))),(zo 78 (.fldA 8 (.s 3))),(zo 79 (.load 1 false (.s 78))),(zo 80 (.lenSl (.s 79))),(zo 81 (.bin (.neq) (.s 77) (.s 80))),(zo 82 (.move (.s 81))),(zg 83 82 false (.fldA 17 (.s 2))),(zg 84 82 false (.load 1 false (.s 83))),(zg 85 82 false (.lenSl (.s 84))),(zg 86 82 false (.fldA 17 (.s 3))),(zg 87 82 false (.load 1 false (.s 86))),(zg 88 82 false (.lenSl (.s 87))),(zg 89 82 false (.bin (.neq) (.s 85) (.s 88))),(zo 90 (.pick (.s 82) (.c (.bool true)) (.s 89)))]) (.cond (.s 90) (.seq (.region g21 [(zo 4 (.move (.c (.bool false))))]) .ret) .skip)) (.seq (.seq (.region g21 [(zo 5 (.move (.c (.int .i64 0))))]) (.block 0 (.loop 0 [91,92,93,94,95,98,99,100,101,102,103,104,105,106,107,108,4,96,97,5] (.seq (.seq (.region g21 [(zo 91 (.move (.s 5))),(zo 92 (.fldA 8 (.s 2))),(zo 93 (.load 1 false (.s 92))),(zo 94 (.lenSl (.s 93))),(zo 95 (.bin (.lss) (.s 91) (.s 94)))]) (.cond (.s 95) .skip (.exit 0))) (.seq (.block 1 (.seq (.drawn g21 (.pure 0 (zo 98 (.fldA 8 (.s 2))) (.pure 1 (zo 99 (.load 1 false (.s 98))) (.pure 2 (zo 100 (.move (.s 5))) (.pure 3 (zo 101 (.idxSl 1 (.s 99) (.s 100))) (.pure 4 (zo 102 (.load 1 false (.s 101))) (.pure 5 (zo 103 (.fldA 8 (.s 3))) (.pure 6 (zo 104 (.load 1 false (.s 103))) (.pure 7 (zo 105 (.move (.s 5))) (.pure 8 (zo 106 (.idxSl 1 (.s 104) (.s 105))) (.pure 9 (zo 107 (.load 1 false (.s 106))) (.pure 10 (zo 108 (.bin (.neq) (.s 102) (.s 107))) .done)))))))))))) (.cond (.s 108) (.seq (.region g21 [(zo 4 (.move (.c (.bool false))))]) .ret) .skip))) (.region g21 [(zo 96 (.move (.s 5))),(zo 97 (.bin (.add) (.s 96) (.c (.int .i64 1)))),(zo 5 (.move (.s 97)))])))))) (.seq (.seq (.region g21 [(zo 6 (.move (.c (.int .i64 0))))]) (.block 2 (.loop 1 [109,110,111,112,113,116,117,118,119,120,121,122,123,124,125,126,4,114,115,6] (.seq (.seq (.region g21 [(zo 109 (.move (.s 6))),(zo 110 (.fldA 17 (.s 2))),(zo 111 (.load 1 false (.s 110))),(zo 112 (.lenSl (.s 111))),(zo 113 (.bin (.lss) (.s 109) (.s 112)))]) (.cond (.s 113) .skip (.exit 2))) (.seq (.block 3 (.seq (.drawn g21 (.pure 0 (zo 116 (.fldA 17 (.s 2))) (.pure 1 (zo 117 (.load 1 false (.s 116))) (.pure 2 (zo 118 (.move (.s 6))) (.pure 3 (zo 119 (.idxSl 7 (.s 117) (.s 118))) (.pure 4 (zo 120 (.load 7 true (.s 119))) (.pure 5 (zo 121 (.fldA 17 (.s 3))) (.pure 6 (zo 122 (.load 1 false (.s 121))) (.pure 7 (zo 123 (.move (.s 6))) (.pure 8 (zo 124 (.idxSl 7 (.s 122) (.s 123))) (.pure 9 (zo 125 (.load 7 true (.s 124))) (.pure 10 (zo 126 (.eqS true [(0,2),(1,1),(2,2),(3,1),(4,1),(5,1),(6,1)] (.s 120) (.s 125))) .done)))))))))))) (.cond (.s 126) (.seq (.region g21 [(zo 4 (.move (.c (.bool false))))]) .ret) .skip))) (.region g21 [(zo 114 (.move (.s 6))),(zo 115 (.bin (.add) (.s 114) (.c (.int .i64 1)))),(zo 6 (.move (.s 115)))])))))) (.seq (.region g21 [(zo 127 (.fldA 9 (.s 2))),(zo 128 (.load 1 false (.s 127))),(zo 129 (.fldA 9 (.s 3))),(zo 130 (.load 1 false (.s 129))),(zo 131 (.call (.c (.fn 63)) [.s 128,.s 130])),(zo 132 (.move (.s 131))),(zg 133 132 true (.fldA 16 (.s 2))),(zg 134 132 true (.load 1 false (.s 133))),(zg 135 132 true (.fldA 16 (.s 3))),(zg 136 132 true (.load 1 false (.s 135))),(zg 137 132 true (.call (.c (.fn 18)) [.s 134,.s 136])),(zo 138 (.pick (.s 132) (.s 137) (.c (.bool false)))),(zo 4 (.move (.s 138)))]) .ret)))))
def r21:List aR:=[.slot 4]
def k21:List (Nat×Nat×aD×Nat):=[]
theorem e21:aK Tryz.prog 21 g21 [] [] k21=some (c21,r21,139):=by kernel_rfl
theorem q21:aF Tryz.prog k21:=aF.nil
set_option maxHeartbeats 4000000 in
theorem Kl:Sm.Ok Tryz.prog 21:=by
 refine Eng.Spec.okR e21 q21 (fun _=>[(63,.p U8),(18,.p Vk)]) (fun _ _=>aA.p R1 (aA.p Se aA.nil)) ?_
 rintro ⟨a,b⟩ (h:okV a)
 have g1:a.ids.n<=1000000:=h.ids.1
 have g2:a.names.n<=1000000:=h.names.1
 have g3:a.list.n<=1000000:=Nat.le_trans h.list.1 (by decide)
 have g4:a.path.n<=1000000:=h.path
 have cz:∀ i j k l m o p q r,aG (aG (aG (aG (aG (aG (aG (aG (aG (!decide (a.kind=b.kind)) (.c (.bool true)) (.s i) true (!decide (a.day=b.day))) (.c (.bool true)) (.s j) true (!decide (a.a=b.a))) (.c (.bool true)) (.s k) true (!decide (a.b=b.b))) (.c (.bool true)) (.s l) true (!decide (a.off=b.off))) (.c (.bool true)) (.s m) true (!decide (a.id=b.id))) (.c (.bool true)) (.s o) true (!decide (a.oth=b.oth))) (.c (.bool true)) (.s p) true (!decide (a.txt=b.txt))) (.c (.bool true)) (.s q) true (!Mj a.num b.num)) (.c (.bool true)) (.s r) true (!eqP a.pt b.pt)=Ik a b:=fun i j k l m o p q r=>by
  rw [aI,aI,aI,aI,aI,aI,aI,aI,aI]; rfl
 have cl:aG (!decide ((a.ids.n:Int)=(b.ids.n:Int))) (.c (.bool true)) (.s 89) true (!decide ((a.list.n:Int)=(b.list.n:Int)))=Fo a b:=by rw [aI]; rfl
 refine ⟨trivial,?_⟩
 repeat' (first|apply And.intro|exact trivial|exact rfl|exact lz fun _=>rfl|(refine fun (_:aH _ _ _ _)=>?_))
 ·refine fun hc0=>?_
  have hc:Ik a b=true:=(cz 17 24 31 38 45 52 59 66 73).symm.trans hc0
  have ef:false=gS a b:=by unfold gS; rw [hc]; rfl
  repeat' (first|exact ef|apply And.intro|exact trivial|exact rfl)
 ·refine fun hc0=>?_
  have hd:Ik a b=false:=(cz 17 24 31 38 45 52 59 66 73).symm.trans hc0
  repeat' (first|apply And.intro|exact trivial|exact rfl|exact lz fun _=>rfl|(refine fun (_:aH _ _ _ _)=>?_))
  ·refine fun hc0=>?_
   have hc:Fo a b=true:=cl.symm.trans hc0
   have ef:false=gS a b:=by unfold gS; rw [hd,hc]; rfl
   repeat' (first|exact ef|apply And.intro|exact trivial|exact rfl)
  ·refine fun hc0=>?_
   have hl:Fo a b=false:=cl.symm.trans hc0
   have hab:a.ids.n=b.ids.n/\a.list.n=b.list.n:=by
    unfold Fo at hl
    rw [Bool.or_eq_false_iff,Bool.not_eq_false',Bool.not_eq_false',decide_eq_true_eq,decide_eq_true_eq] at hl
    omega
   have e1:=hab.1
   have e2:=hab.2
   repeat' (first|apply And.intro|exact trivial|exact rfl|exact lz fun _=>rfl|(refine fun (_:aH _ _ _ _)=>?_))
   refine ⟨⟨Nat,fun i=>i<=a.ids.n/\orB (fun i=>!decide (a.ids.f i=b.ids.f i)) i=false,fun i=>[(5,.int .i64 (i:Int))],fun _=>[],fun i=>a.ids.n - i⟩,0,⟨Nat.zero_le _,rfl⟩,?_,?_⟩
   ·repeat' (first|apply And.intro|exact trivial|exact rfl|exact lz fun _=>rfl)
   rintro (i:Nat) ⟨(hi:i<=a.ids.n),(hf:orB (fun i=>!decide (a.ids.f i=b.ids.f i)) i=false)⟩
   repeat' (first|apply And.intro|exact trivial|exact rfl|exact lz fun _=>rfl)
   ·refine fun (h:decide ((i:Int) < (a.ids.n:Int))=true)=>?_
    have hi1:(i:Int) < (a.ids.n:Int):=of_decide_eq_true h
    have hil:i < a.ids.n:=by omega
    have hi0:(0:Int)<=(i:Int):=by omega
    have b1:-9223372036854775808<=(i:Int)+1:=by omega
    have b2:(i:Int)+1<=9223372036854775807:=by omega
    have xb1:(i:Int) < (b.ids.n:Int):=by omega
    repeat' (first|with_reducible exact hi1|with_reducible exact hi0|with_reducible exact xb1|apply And.intro|exact trivial|exact rfl|exact lz fun _=>rfl)
    ·refine fun (hc0:(!decide (a.ids.f i=b.ids.f i))=true)=>?_
     have hc:(fun i=>!decide (a.ids.f i=b.ids.f i)) i=true:=id hc0
     have ho:orB (fun i=>!decide (a.ids.f i=b.ids.f i)) a.ids.n=true:=bK.2 ⟨i,hil,hc⟩
     have e:false=gS a b:=by unfold gS; rw [hd,hl,ho]; rfl
     repeat' (first|exact e|apply And.intro|exact trivial|exact rfl)
    ·refine fun (hc0:(!decide (a.ids.f i=b.ids.f i))=false)=>?_
     have hc:(fun i=>!decide (a.ids.f i=b.ids.f i)) i=false:=id hc0
     have hf1:orB (fun i=>!decide (a.ids.f i=b.ids.f i)) (i+1)=false:=iU hf hc
     repeat' (first|with_reducible exact b1|with_reducible exact b2|apply And.intro|exact trivial|exact rfl)
     refine Exists.intro (i+1) (And.intro (And.intro hil hf1) ?_)
     repeat' (first|apply And.intro|exact trivial|exact rfl|exact lz fun _=>rfl)
     exact iT hil
   refine fun (h:decide ((i:Int) < (a.ids.n:Int))=false)=>?_
   have hil:i=a.ids.n:=by have:¬ (i:Int) < (a.ids.n:Int):=of_decide_eq_false h; omega
   have ho1:orB (fun i=>!decide (a.ids.f i=b.ids.f i)) a.ids.n=false:=by rw [<- hil]; exact hf
   repeat' (first|apply And.intro|exact trivial|exact rfl|exact lz fun _=>rfl|(refine fun (_:aH _ _ _ _)=>?_))
   refine ⟨⟨Nat,fun i=>i<=a.list.n/\orB (fun i=>!rA (a.list.f i) (b.list.f i)) i=false,fun i=>[(6,.int .i64 (i:Int))],fun _=>[],fun i=>a.list.n - i⟩,0,⟨Nat.zero_le _,rfl⟩,?_,?_⟩
   ·repeat' (first|apply And.intro|exact trivial|exact rfl|exact lz fun _=>rfl)
   rintro (i:Nat) ⟨(hi:i<=a.list.n),(hf:orB (fun i=>!rA (a.list.f i) (b.list.f i)) i=false)⟩
   repeat' (first|apply And.intro|exact trivial|exact rfl|exact lz fun _=>rfl)
   ·refine fun (h:decide ((i:Int) < (a.list.n:Int))=true)=>?_
    have hi1:(i:Int) < (a.list.n:Int):=of_decide_eq_true h
    have hil:i < a.list.n:=by omega
    have hi0:(0:Int)<=(i:Int):=by omega
    have b1:-9223372036854775808<=(i:Int)+1:=by omega
    have b2:(i:Int)+1<=9223372036854775807:=by omega
    have xb1:(i:Int) < (b.list.n:Int):=by omega
    repeat' (first|with_reducible exact hi1|with_reducible exact hi0|with_reducible exact xb1|apply And.intro|exact trivial|exact rfl|exact lz fun _=>rfl)
    ·refine fun (hc0:(!rA (a.list.f i) (b.list.f i))=true)=>?_
     have hc:(fun i=>!rA (a.list.f i) (b.list.f i)) i=true:=id hc0
     have ho:orB (fun i=>!rA (a.list.f i) (b.list.f i)) a.list.n=true:=bK.2 ⟨i,hil,hc⟩
     have e:false=gS a b:=by unfold gS; rw [hd,hl,ho1,ho]; rfl
     repeat' (first|exact e|apply And.intro|exact trivial|exact rfl)
    ·refine fun (hc0:(!rA (a.list.f i) (b.list.f i))=false)=>?_
     have hc:(fun i=>!rA (a.list.f i) (b.list.f i)) i=false:=id hc0
     have hf1:orB (fun i=>!rA (a.list.f i) (b.list.f i)) (i+1)=false:=iU hf hc
     repeat' (first|with_reducible exact b1|with_reducible exact b2|apply And.intro|exact trivial|exact rfl)
     refine Exists.intro (i+1) (And.intro (And.intro hil hf1) ?_)
     repeat' (first|apply And.intro|exact trivial|exact rfl|exact lz fun _=>rfl)
     exact iT hil
   refine fun (h:decide ((i:Int) < (a.list.n:Int))=false)=>?_
   have hil:i=a.list.n:=by have:¬ (i:Int) < (a.list.n:Int):=of_decide_eq_false h; omega
   have ho2:orB (fun i=>!rA (a.list.f i) (b.list.f i)) a.list.n=false:=by rw [<- hil]; exact hf
   have ef:aG (tL a.names b.names) (.s 137) (.c (.bool false)) (tU a.path b.path) false=gS a b:=by rw [aJ]; unfold gS; rw [hd,hl,ho1,ho2]; rfl
   repeat' (first|exact ef|exact g2|exact g4|apply And.intro|exact trivial|exact rfl|exact lz fun _=>rfl|(refine fun (_:aH _ _ _ _)=>?_))
theorem Uc {x y:Hn}:Mj x y=true ↔ x=y:=by
 unfold Mj
 simp only [Bool.and_true,Bool.and_eq_true,decide_eq_true_eq]
 constructor
 ·rintro ⟨h1,h2,h3,h4⟩; exact Cf h1 h2 h3 h4
 ·rintro rfl; exact ⟨rfl,rfl,rfl,rfl⟩
theorem Ty {x y:En}:rA x y=true ↔ x=y:=by
 unfold rA
 simp only [Bool.and_true,Bool.and_eq_true,decide_eq_true_eq]
 constructor
 ·rintro ⟨h1,h2,h3,h4,h5,h6,h7⟩
  obtain ⟨i,n,p⟩:=x
  obtain ⟨i',n',p'⟩:=y
  obtain rfl:i=i':=h1
  obtain rfl:n=n':=Cf h2 h3 h4 h5
  obtain rfl:p=p':=Prod.ext h6 h7
  rfl
 ·rintro rfl; exact ⟨rfl,rfl,rfl,rfl,rfl,rfl,rfl⟩
theorem Pj {x y:Nm}:rB x y=true ↔ x=y:=by
 unfold rB
 simp only [Bool.and_true,Bool.and_eq_true,decide_eq_true_eq]
 constructor
 ·rintro ⟨h1,h2,h3⟩
  obtain ⟨i,n,p⟩:=x
  obtain ⟨i',n',p'⟩:=y
  obtain rfl:i=i':=h1
  obtain rfl:n=n':=h2
  obtain rfl:p=p':=h3
  rfl
 ·rintro rfl; exact ⟨rfl,rfl,rfl⟩
theorem Ka {x y:Pt}:eqP x y=true ↔ x=y:=by
 unfold eqP
 simp only [Bool.and_true,Bool.and_eq_true,decide_eq_true_eq]
 constructor
 ·rintro ⟨h1,h2⟩; exact Prod.ext h1 h2
 ·rintro rfl; exact ⟨rfl,rfl⟩
theorem Ns {a b:Sq Nm}:tL a b=true ↔ SqE a b:=by
 unfold tL
 rw [Bool.and_eq_true,decide_eq_true_eq,Bool.not_eq_true',bE]
 constructor
 ·rintro ⟨h1,h2⟩; exact ⟨by omega,fun i hi=>Pj.1 (Ia (h2 i hi))⟩
 ·intro h; exact ⟨by have:=h.n; omega,fun i hi=>Tj (Pj.2 (h.f i hi))⟩
theorem N9 {a b:Pts}:tU a b=true ↔ PtE a b:=by
 unfold tU
 rw [Bool.and_eq_true,decide_eq_true_eq,Bool.not_eq_true',bE]
 constructor
 ·rintro ⟨h1,h2⟩; exact ⟨by omega,fun i hi=>Ka.1 (Ia (h2 i hi))⟩
 ·intro h; exact ⟨by have:=h.n; omega,fun i hi=>Tj (Ka.2 (h.p i hi))⟩
theorem rQ {a b:Ev}:gS a b=true ↔ EvE a b:=by
 unfold gS Ik Fo
 simp only [Bool.and_eq_true,Bool.not_eq_true',Bool.or_eq_false_iff,Bool.not_eq_false',decide_eq_true_eq,bE,Ns,N9,Uc,Ka,Ty]
 constructor
 ·rintro ⟨⟨⟨⟨⟨⟨⟨⟨⟨⟨h1,h2⟩,h3⟩,h4⟩,h5⟩,h6⟩,h7⟩,h8⟩,h9⟩,h10⟩,⟨h11,h12⟩,h13,h14,h15,h16⟩
  exact ⟨h1,h2,h3,h4,h5,h6,h7,h8,⟨by omega,h13⟩,h15,h9,h10,h16,⟨by omega,h14⟩⟩
 ·intro h
  exact ⟨⟨⟨⟨⟨⟨⟨⟨⟨⟨h.kind,h.day⟩,h.a⟩,h.b⟩,h.off⟩,h.id⟩,h.oth⟩,h.txt⟩,h.num⟩,h.pt⟩,⟨by have:=h.ids.n; omega,by have:=h.list.n; omega⟩,h.ids.f,h.list.f,h.names,h.path⟩
end F23
