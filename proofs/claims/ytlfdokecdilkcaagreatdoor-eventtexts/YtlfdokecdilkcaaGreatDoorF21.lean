/- A part of the proof. -/
import Derived.Test.YtlfdokecdilkcaaGreatDoorF14
open Go Go.Eng Go.Proofs G1 G2 G3 G4 G6 G7 EV0 N1 N2 F1 F2 F3 F4 F5 F6 F7 F8 F9 F10 F12
set_option maxRecDepth 100000
namespace F21
theorem Tl {b:Bool} (h:(!b)=true):b=false:=by cases b; rfl; cases h
theorem Ia {b:Bool} (h:(!b)=false):b=true:=by cases b; cases h; rfl
theorem Tj {b:Bool} (h:b=true):(!b)=false:=by rw [h]; rfl
theorem iU {f:Nat->Bool} {i:Nat} (h:orB f i=false) (hc:f i=false):orB f (i+1)=false:=by
 simp only [orB]
 rw [h,hc]
 rfl
theorem iT {i n:Nat} (h:i < n):n - (i+1) < n - i:=by omega
def g18:List Nat:=[10,14,0,1,25,5,4]
def c18:aD :=
 .seq (.region g18 [(zo 4 (.move (.c (.bool false))))]) (.seq (.seq (.region g18 [(zo 6 (.move (.s 0))),(zo 7 (.lenSl (.s 6))),(zo 8 (.move (.s 1))),(zo 9 (.lenSl (.s 8))),(zo 10 (.bin (.neq) (.s 7) (.s 9)))]) (.cond (.s 10) (.seq (.region g18 [(zo 4 (.move (.c (.bool false))))]) .ret) .skip)) (.seq (.seq (.region g18 [(zo 5 (.move (.c (.int .i64 0))))]) (.block 0 (.loop 0 [11,12,13,14,17,18,19,20,21,22,23,24,25,4,15,16,5] (.seq (.seq (.region g18 [(zo 11 (.move (.s 5))),(zo 12 (.move (.s 0))),(zo 13 (.lenSl (.s 12))),(zo 14 (.bin (.lss) (.s 11) (.s 13)))]) (.cond (.s 14) .skip (.exit 0))) (.seq (.block 1 (.seq (.drawn g18 (.pure 0 (zo 17 (.move (.s 0))) (.pure 1 (zo 18 (.move (.s 5))) (.pure 2 (zo 19 (.idxSl 2 (.s 17) (.s 18))) (.pure 3 (zo 20 (.load 2 true (.s 19))) (.pure 4 (zo 21 (.move (.s 1))) (.pure 5 (zo 22 (.move (.s 5))) (.pure 6 (zo 23 (.idxSl 2 (.s 21) (.s 22))) (.pure 7 (zo 24 (.load 2 true (.s 23))) (.pure 8 (zo 25 (.eqS true [(0,1),(1,1)] (.s 20) (.s 24))) .done)))))))))) (.cond (.s 25) (.seq (.region g18 [(zo 4 (.move (.c (.bool false))))]) .ret) .skip))) (.region g18 [(zo 15 (.move (.s 5))),(zo 16 (.bin (.add) (.s 15) (.c (.int .i64 1)))),(zo 5 (.move (.s 16)))])))))) (.seq (.region g18 [(zo 4 (.move (.c (.bool true))))]) .ret)))
def r18:List aR:=[.slot 4]
def k18:List (Nat×Nat×aD×Nat):=[]
theorem e18:aK Tryz.prog 18 g18 [] [] k18=some (c18,r18,26):=by kernel_rfl
theorem q18:aF Tryz.prog k18:=aF.nil
def tU (a b:Pts):Bool:=decide ((a.n:Int)=(b.n:Int)) && !orB (fun i=>!eqP (a.p i) (b.p i)) a.n
def Vk:Eng.Spec where
 X:=Pts×Pts
 args:=fun x=>.cons (rgE x.1) (.cons (rgE x.2) .nil)
 pre:=fun x=>x.1.n<=1000000
 res:=fun x=>.bool (tU x.1 x.2)
 inst:=EV0.two tT tT
theorem Se:Vk.Ok Tryz.prog 18:=by
 refine Eng.Spec.okR e18 q18 (fun _=>[]) (fun _ _=>aA.nil) ?_
 rintro ⟨a,b⟩ (hn:a.n<=1000000)
 refine ⟨trivial,?_⟩
 repeat' (first|apply And.intro|exact trivial|exact rfl|exact lz fun _=>rfl)
 ·refine fun (hc:(!decide ((a.n:Int)=(b.n:Int)))=true)=>?_
  have e:false=tU a b:=by unfold tU; rw [Tl hc]; rfl
  repeat' (first|exact e|apply And.intro|exact trivial|exact rfl)
 ·refine fun (hc:(!decide ((a.n:Int)=(b.n:Int)))=false)=>?_
  have hab:decide ((a.n:Int)=(b.n:Int))=true:=Ia hc
  have hab2:(a.n:Int)=(b.n:Int):=of_decide_eq_true hab
  repeat' (first|apply And.intro|exact trivial|exact rfl|exact lz fun _=>rfl)
  refine ⟨⟨Nat,fun i=>i<=a.n/\orB (fun i=>!eqP (a.p i) (b.p i)) i=false,fun i=>[(5,.int .i64 (i:Int))],fun _=>[],fun i=>a.n - i⟩,0,⟨Nat.zero_le _,rfl⟩,?_,?_⟩
  ·repeat' (first|apply And.intro|exact trivial|exact rfl|exact lz fun _=>rfl)
  rintro (i:Nat) ⟨(hi:i<=a.n),(hf:orB (fun i=>!eqP (a.p i) (b.p i)) i=false)⟩
  repeat' (first|apply And.intro|exact trivial|exact rfl|exact lz fun _=>rfl)
  ·refine fun (h:decide ((i:Int) < (a.n:Int))=true)=>?_
   have hi1:(i:Int) < (a.n:Int):=of_decide_eq_true h
   have hil:i < a.n:=by omega
   have hi0:(0:Int)<=(i:Int):=by omega
   have b1:-9223372036854775808<=(i:Int)+1:=by omega
   have b2:(i:Int)+1<=9223372036854775807:=by omega
   have xb1:(i:Int) < (b.n:Int):=by omega
   repeat' (first|with_reducible exact hi1|with_reducible exact hi0|with_reducible exact xb1|apply And.intro|exact trivial|exact rfl|exact lz fun _=>rfl)
   ·refine fun (hc0:(!eqP (a.p i) (b.p i))=true)=>?_
    have hc:(fun i=>!eqP (a.p i) (b.p i)) i=true:=id hc0
    have ho:orB (fun i=>!eqP (a.p i) (b.p i)) a.n=true:=bK.2 ⟨i,hil,hc⟩
    have e:false=tU a b:=by unfold tU; rw [ho]; exact (Bool.and_false _).symm
    repeat' (first|exact e|apply And.intro|exact trivial|exact rfl)
   ·refine fun (hc0:(!eqP (a.p i) (b.p i))=false)=>?_
    have hc:(fun i=>!eqP (a.p i) (b.p i)) i=false:=id hc0
    have hf1:orB (fun i=>!eqP (a.p i) (b.p i)) (i+1)=false:=iU hf hc
    repeat' (first|with_reducible exact b1|with_reducible exact b2|apply And.intro|exact trivial|exact rfl)
    refine Exists.intro (i+1) (And.intro (And.intro hil hf1) ?_)
    repeat' (first|apply And.intro|exact trivial|exact rfl|exact lz fun _=>rfl)
    exact iT hil
  refine fun (h:decide ((i:Int) < (a.n:Int))=false)=>?_
  have hil:i=a.n:=by have:¬ (i:Int) < (a.n:Int):=of_decide_eq_false h; omega
  have ho:orB (fun i=>!eqP (a.p i) (b.p i)) a.n=false:=by rw [<- hil]; exact hf
  have e:true=tU a b:=by unfold tU; rw [hab,ho]; rfl
  repeat' (first|exact e|apply And.intro|exact trivial|exact rfl)
def g63:List Nat:=[10,14,0,1,25,5,4]
def c63:aD :=
 .seq (.region g63 [(zo 4 (.move (.c (.bool false))))]) (.seq (.seq (.region g63 [(zo 6 (.move (.s 0))),(zo 7 (.lenSl (.s 6))),(zo 8 (.move (.s 1))),(zo 9 (.lenSl (.s 8))),(zo 10 (.bin (.neq) (.s 7) (.s 9)))]) (.cond (.s 10) (.seq (.region g63 [(zo 4 (.move (.c (.bool false))))]) .ret) .skip)) (.seq (.seq (.region g63 [(zo 5 (.move (.c (.int .i64 0))))]) (.block 0 (.loop 0 [11,12,13,14,17,18,19,20,21,22,23,24,25,4,15,16,5] (.seq (.seq (.region g63 [(zo 11 (.move (.s 5))),(zo 12 (.move (.s 0))),(zo 13 (.lenSl (.s 12))),(zo 14 (.bin (.lss) (.s 11) (.s 13)))]) (.cond (.s 14) .skip (.exit 0))) (.seq (.block 1 (.seq (.drawn g63 (.pure 0 (zo 17 (.move (.s 0))) (.pure 1 (zo 18 (.move (.s 5))) (.pure 2 (zo 19 (.idxSl 3 (.s 17) (.s 18))) (.pure 3 (zo 20 (.load 3 true (.s 19))) (.pure 4 (zo 21 (.move (.s 1))) (.pure 5 (zo 22 (.move (.s 5))) (.pure 6 (zo 23 (.idxSl 3 (.s 21) (.s 22))) (.pure 7 (zo 24 (.load 3 true (.s 23))) (.pure 8 (zo 25 (.eqS true [(0,2),(1,1),(2,2)] (.s 20) (.s 24))) .done)))))))))) (.cond (.s 25) (.seq (.region g63 [(zo 4 (.move (.c (.bool false))))]) .ret) .skip))) (.region g63 [(zo 15 (.move (.s 5))),(zo 16 (.bin (.add) (.s 15) (.c (.int .i64 1)))),(zo 5 (.move (.s 16)))])))))) (.seq (.region g63 [(zo 4 (.move (.c (.bool true))))]) .ret)))
def r63:List aR:=[.slot 4]
def k63:List (Nat×Nat×aD×Nat):=[]
theorem e63:aK Tryz.prog 63 g63 [] [] k63=some (c63,r63,26):=by kernel_rfl
theorem q63:aF Tryz.prog k63:=aF.nil
def rB (x y:Nm):Bool:=decide (x.lang=y.lang) && (decide (x.script=y.script) && (decide (x.text=y.text) && true))
def tL (a b:Sq Nm):Bool:=decide ((a.n:Int)=(b.n:Int)) && !orB (fun i=>!rB (a.f i) (b.f i)) a.n
def U8:Eng.Spec where
 X:=Sq Nm×Sq Nm
 args:=fun x=>.cons (nmE x.1) (.cons (nmE x.2) .nil)
 pre:=fun x=>x.1.n<=1000000
 res:=fun x=>.bool (tL x.1 x.2)
 inst:=EV0.two nmD nmD
theorem R1:U8.Ok Tryz.prog 63:=by
 refine Eng.Spec.okR e63 q63 (fun _=>[]) (fun _ _=>aA.nil) ?_
 rintro ⟨a,b⟩ (hn:a.n<=1000000)
 refine ⟨trivial,?_⟩
 repeat' (first|apply And.intro|exact trivial|exact rfl|exact lz fun _=>rfl)
 ·refine fun (hc:(!decide ((a.n:Int)=(b.n:Int)))=true)=>?_
  have e:false=tL a b:=by unfold tL; rw [Tl hc]; rfl
  repeat' (first|exact e|apply And.intro|exact trivial|exact rfl)
 ·refine fun (hc:(!decide ((a.n:Int)=(b.n:Int)))=false)=>?_
  have hab:decide ((a.n:Int)=(b.n:Int))=true:=Ia hc
  have hab2:(a.n:Int)=(b.n:Int):=of_decide_eq_true hab
  repeat' (first|apply And.intro|exact trivial|exact rfl|exact lz fun _=>rfl)
  refine ⟨⟨Nat,fun i=>i<=a.n/\orB (fun i=>!rB (a.f i) (b.f i)) i=false,fun i=>[(5,.int .i64 (i:Int))],fun _=>[],fun i=>a.n - i⟩,0,⟨Nat.zero_le _,rfl⟩,?_,?_⟩
  ·repeat' (first|apply And.intro|exact trivial|exact rfl|exact lz fun _=>rfl)
  rintro (i:Nat) ⟨(hi:i<=a.n),(hf:orB (fun i=>!rB (a.f i) (b.f i)) i=false)⟩
  repeat' (first|apply And.intro|exact trivial|exact rfl|exact lz fun _=>rfl)
  ·refine fun (h:decide ((i:Int) < (a.n:Int))=true)=>?_
   have hi1:(i:Int) < (a.n:Int):=of_decide_eq_true h
   have hil:i < a.n:=by omega
   have hi0:(0:Int)<=(i:Int):=by omega
   have b1:-9223372036854775808<=(i:Int)+1:=by omega
   have b2:(i:Int)+1<=9223372036854775807:=by omega
   have xb1:(i:Int) < (b.n:Int):=by omega
   repeat' (first|with_reducible exact hi1|with_reducible exact hi0|with_reducible exact xb1|apply And.intro|exact trivial|exact rfl|exact lz fun _=>rfl)
   ·refine fun (hc0:(!rB (a.f i) (b.f i))=true)=>?_
    have hc:(fun i=>!rB (a.f i) (b.f i)) i=true:=id hc0
    have ho:orB (fun i=>!rB (a.f i) (b.f i)) a.n=true:=bK.2 ⟨i,hil,hc⟩
    have e:false=tL a b:=by unfold tL; rw [ho]; exact (Bool.and_false _).symm
    repeat' (first|exact e|apply And.intro|exact trivial|exact rfl)
   ·refine fun (hc0:(!rB (a.f i) (b.f i))=false)=>?_
    have hc:(fun i=>!rB (a.f i) (b.f i)) i=false:=id hc0
    have hf1:orB (fun i=>!rB (a.f i) (b.f i)) (i+1)=false:=iU hf hc
    repeat' (first|with_reducible exact b1|with_reducible exact b2|apply And.intro|exact trivial|exact rfl)
    refine Exists.intro (i+1) (And.intro (And.intro hil hf1) ?_)
    repeat' (first|apply And.intro|exact trivial|exact rfl|exact lz fun _=>rfl)
    exact iT hil
  refine fun (h:decide ((i:Int) < (a.n:Int))=false)=>?_
  have hil:i=a.n:=by have:¬ (i:Int) < (a.n:Int):=of_decide_eq_false h; omega
  have ho:orB (fun i=>!rB (a.f i) (b.f i)) a.n=false:=by rw [<- hil]; exact hf
  have e:true=tL a b:=by unfold tL; rw [hab,ho]; rfl
  repeat' (first|exact e|apply And.intro|exact trivial|exact rfl)
end F21
