/- A part of the proof. -/
import Derived.Test.YtlfdokecdilkcaaGreatDoorF12
open Go Go.Eng Go.Proofs G1 G2 G3 G4 G6 G7 EV0 N1 N2 F1 F2 F3 F4 F5 F6 F7 F8 F9 F10 F12
set_option maxRecDepth 100000
namespace F14
def g62:List Nat:=[4,0,2]
def c62:aD :=
 .seq (.region g62 [(zo 2 (.move (.c (.nilsl))))]) (.seq (.seq (.region g62 [(zo 3 (.move (.s 0))),(zo 4 (.slNil false (.s 3) (.c (.nilsl))))]) (.cond (.s 4) (.seq (.region g62 [(zo 2 (.move (.c (.nilsl))))]) .ret) .skip)) (.seq (.region g62 [(zo 5 (.buildSl 27 2 0 zPt [])),(zo 6 (.move (.s 0))),(zo 7 (.app 27 2 16 (.s 5) (.s 6))),(zo 2 (.move (.s 7)))]) .ret))
def r62:List aR:=[.slot 2]
def k62:List (Nat×Nat×aD×Nat):=[]
theorem e62:aK Tryz.prog 62 g62 [] [] k62=some (c62,r62,8):=by kernel_rfl
theorem q62:aF Tryz.prog k62:=aF.nil
def Tm:Eng.Spec where
 X:=Pts
 args:=fun r=>.cons (rgE r) .nil
 pre:=fun r=>r.n<=1000000
 res:=fun r=>rgE r
 inst:=EV0.one tT
theorem P7:Tm.Ok Tryz.prog 62:=by
 refine Eng.Spec.okR e62 q62 (fun _=>[]) (fun _ _=>aA.nil) ?_
 rintro (r:Pts) (hn:r.n<=1000000)
 refine ⟨trivial,?_⟩
 repeat' (first|apply And.intro|exact trivial|exact rfl|exact lz fun _=>rfl)
 refine fun (b:Bool) (hb:0 < r.n->b=false)=>?_
 refine And.intro (fun (h:b=true)=>?_) (fun (h:b=false)=>?_)
 ·have h0:0=r.n:=by
   rcases Nat.eq_zero_or_pos r.n with e|e
   ·exact e.symm
   ·rw [hb e] at h; cases h
  repeat' (first|exact h0|exact h0.symm|apply And.intro|exact trivial|exact rfl|exact lz fun _=>rfl)
 ·repeat' (first|apply And.intro|exact trivial|exact rfl|exact fun (j:Nat) (_:j < _)=>(rfl:eQ (ptL _)=true)|exact lz fun _=>rfl)
  ·show r.n<=9223372036854775807
   omega
  ·show r.n * 16<=140737488355328
   omega
  ·exact Nat.le_of_eq (Nat.zero_add _)
  ·exact fun (j:Nat) (_:j < r.n)=>EL.aY (congrArg (fun j=>ptL (r.p j)) (Nat.zero_add j)) (aL _ _ _ _)
def g19:List Nat:=[0,8,11,19,10,25,1,29,31,28,5,30,3,2]
def c19:aD :=
 .seq (.region g19 [(zo 1 (.box 31 (.s 0))),(zo 2 (.move (.c (.nilsl))))]) (.seq (.seq (.region g19 [(zo 6 (.load 18 true (.s 1))),(zo 7 (.call (.c (.fn 16)) [.s 6])),(zo 8 (.not (.s 7)))]) (.cond (.s 8) (.seq (.region g19 [(zo 2 (.move (.c (.nilsl))))]) .ret) .skip)) (.seq (.seq (.region g19 [(zo 9 (.fldA 0 (.s 1))),(zo 10 (.load 1 false (.s 9)))]) (.block 0 (.seq (.seq (.region g19 [(zo 12 (.bin (.eql) (.s 10) (.c (.int .i64 1)))),(zo 11 (.move (.s 12)))]) (.cond (.s 11) .skip (.seq (.region g19 [(zo 13 (.bin (.eql) (.s 10) (.c (.int .i64 2)))),(zo 11 (.move (.s 13)))]) (.cond (.s 11) .skip (.region g19 [(zo 14 (.bin (.eql) (.s 10) (.c (.int .i64 5)))),(zo 11 (.move (.s 14)))]))))) (.cond (.s 11) (.seq (.region g19 [(zo 15 (.fldA 16 (.s 1))),(zo 16 (.load 1 false (.s 15))),(zo 17 (.sliceSl 2 (.s 16) none (some (.c (.int .i64 1))))),(zo 18 (.call (.c (.fn 62)) [.s 17])),(zo 2 (.move (.s 18)))]) .ret) (.seq (.seq (.region g19 [(zo 20 (.bin (.eql) (.s 10) (.c (.int .i64 6)))),(zo 19 (.move (.s 20)))]) (.cond (.s 19) .skip (.region g19 [(zo 21 (.bin (.eql) (.s 10) (.c (.int .i64 10)))),(zo 19 (.move (.s 21)))]))) (.cond (.s 19) (.seq (.region g19 [(zo 22 (.fldA 14 (.s 1))),(zo 23 (.load 2 true (.s 22))),(zo 24 (.buildSl 27 2 1 zPt [(0,2,.s 23)])),(zo 2 (.move (.s 24)))]) .ret) (.seq (.region g19 [(zo 26 (.bin (.eql) (.s 10) (.c (.int .i64 9)))),(zo 25 (.move (.s 26)))]) (.cond (.s 25) (.seq (.region g19 [(zo 3 (.move (.c (.nilsl))))]) (.seq (.seq (.region g19 [(zo 27 (.fldA 17 (.s 1))),(zo 28 (.load 1 false (.s 27))),(zo 29 (.lenSl (.s 28))),(zo 30 (.move (.c (.int .i64 0))))]) (.block 1 (.loop 0 [31,32,33,5,34,35,36,37,38,3,39,30] (.seq (.region g19 [(zo 31 (.bin (.lss) (.s 30) (.s 29)))]) (.seq (.cond (.s 31) .skip (.exit 1)) (.seq (.block 2 (.seq (.region g19 [(zo 32 (.idxSl 7 (.s 28) (.s 30))),(zo 33 (.load 7 true (.s 32))),(zo 5 (.alloc 47 zEn)),⟨none,none,.store 7 (.s 5) (.s 33),[]⟩]) (.region g19 [(zo 34 (.move (.s 3))),(zo 35 (.fldA 5 (.s 5))),(zo 36 (.load 2 true (.s 35))),(zo 37 (.buildSl 27 2 1 zPt [(0,2,.s 36)])),(zo 38 (.app 27 2 16 (.s 34) (.s 37))),(zo 3 (.move (.s 38)))]))) (.region g19 [(zo 39 (.bin (.add) (.s 30) (.c (.int .i64 1)))),(zo 30 (.move (.s 39)))]))))))) (.seq (.region g19 [(zo 40 (.move (.s 3))),(zo 2 (.move (.s 40)))]) .ret))) .skip)))))))) (.seq (.region g19 [(zo 2 (.move (.c (.nilsl))))]) .ret)))
def r19:List aR:=[.slot 2]
def k19:List (Nat×Nat×aD×Nat):=[]
theorem e19:aK Tryz.prog 19 g19 [] [] k19=some (c19,r19,41):=by kernel_rfl
theorem q19:aF Tryz.prog k19:=aF.nil
def tS (e:Ev):Pts :=
 if aS e=true then
  (if e.kind=1\/e.kind=2\/e.kind=5 then ⟨1,e.path.p⟩ else if e.kind=6\/e.kind=10 then ⟨1,fun _=>e.pt⟩ else if e.kind=9 then ⟨e.list.n,fun i=>(e.list.f i).pt⟩ else ⟨0,e.path.p⟩)
 else ⟨0,e.path.p⟩
def N6:Eng.Spec where
 X:=Ev
 args:=fun e=>.cons (evE e) .nil
 pre:=okV
 res:=fun e=>rgE (tS e)
 inst:=ev1
 fresh:=false
theorem I8 {e:Ev} (h:aS e=true) (hk:e.kind=1\/e.kind=2\/e.kind=5):1<=e.path.n:=by
 obtain ⟨_,_,_,_,hn⟩:=bD h
 rcases hk with k|k|k
 ·rw [Rq k] at hn; unfold nd1 at hn
  simp only [Bool.and_eq_true] at hn
  have:=(qK hn.2).2.1
  omega
 ·rw [Rr k] at hn; unfold nd2 at hn
  simp only [Bool.and_eq_true] at hn
  have:=(tF hn.2).2
  omega
 ·rw [Ru k] at hn; unfold nd5 at hn
  simp only [Bool.and_eq_true] at hn
  have:=(qK hn.2).2.1
  omega
set_option maxHeartbeats 80000000 in
theorem De:N6.Ok Tryz.prog 19:=by
 refine Eng.Spec.okR e19 q19 (fun _=>[(16,.p I7),(62,.p Tm)]) (fun _ _=>aA.p wW (aA.p P7 aA.nil)) ?_
 rintro (e:Ev) (h:okV e)
 by_cases hf:aS e=true
 ·have ff:=dC hf
  have fp:=I8 hf
  have hnf:(!aS e)=true->False:=fun h=>by rw [hf] at h; cases h
  have ef:tS e=(if e.kind=1\/e.kind=2\/e.kind=5 then ⟨1,e.path.p⟩ else if e.kind=6\/e.kind=10 then ⟨1,fun _=>e.pt⟩ else if e.kind=9 then ⟨e.list.n,fun i=>(e.list.f i).pt⟩ else ⟨0,e.path.p⟩):=if_pos hf
  have en:=congrArg Pts.n ef
  have ep:=fun i:Nat=>congrArg (fun r:Pts=>ptL (r.p i)) ef
  have e1:=congrArg (fun r:Pts=>(r.p 0).1) ef
  have e2:=congrArg (fun r:Pts=>(r.p 0).2) ef
  have z1:(0:Int)<=1:=by decide
  have z2:(1:Int).toNat<=1000000:=by decide
  obtain ⟨⟨k1,k2⟩,_,_,_,hn⟩:=bD hf
  obtain ⟨k,day,a,b,off,id,oth,txt,ids,names,num,pt,path,list⟩:=e
  replace k1:1<=k:=k1
  replace k2:k<=15:=k2
  have ll:list.n<=40:=ff.list
  rcases kinds k1 k2 with rfl|rfl|rfl|rfl|rfl|rfl|rfl|rfl|rfl|rfl|rfl|rfl|rfl|rfl|rfl
  all_goals refine ⟨trivial,?_⟩
  all_goals repeat' (first|exact h|apply And.intro|exact trivial|exact rfl|exact lz fun _=>rfl)
  all_goals first|exact fun hc=>(hnf hc).elim|refine fun _=>?_
  all_goals repeat' (first|apply And.intro|exact trivial|exact rfl|exact fun (h:decide ((_:Int)=_)=true)=>nof rfl h|exact fun (h:decide ((_:Int)=_)=false)=>jV rfl h|refine fun (_:decide ((_:Int)=_)=true)=>?_|refine fun (_:decide ((_:Int)=_)=false)=>?_|exact lz fun _=>rfl)
  all_goals first
   | exact z1
   | exact Int.ofNat_le.2 (fp (by dsimp only; decide))
   | exact z2
   | exact en.symm
   | exact en
   | exact e1.symm
   | exact e2.symm
   | exact fun (j:Nat) (hj:j < (1:Int).toNat)=>EL.aY (ep j).symm (aL _ _ _ _)
   | skip
  refine ⟨⟨Nat,fun i=>i<=list.n,fun i=>[(30,.int .i64 (i:Int)),(3,.lsl 40 2 i)],fun i=>[(40,.arr 27 2 i fun j=>ptL (list.f j).pt)],fun i=>list.n - i⟩,0,Nat.zero_le _,?_,?_⟩
  ·repeat' (first|apply And.intro|exact trivial|exact rfl|exact lz fun _=>rfl)
  rintro (i:Nat) (hi:i<=list.n)
  repeat' (first|apply And.intro|exact trivial|exact rfl)
  ·refine fun (hc:decide ((i:Int) < (list.n:Int))=true)=>?_
   have hi1:(i:Int) < (list.n:Int):=of_decide_eq_true hc
   have hi0:(0:Int)<=(i:Int):=by omega
   have hil:i < list.n:=by omega
   have b1:-9223372036854775808<=(i:Int)+1:=by omega
   have b2:(i:Int)+1<=9223372036854775807:=by omega
   have m1:i+1<=9223372036854775807:=by omega
   have m2:(i+1) * 16<=140737488355328:=by omega
   repeat' (first|with_reducible exact hi1|with_reducible exact hi0|with_reducible exact b1|with_reducible exact b2|apply And.intro|exact trivial|exact rfl|exact lz fun _=>rfl)
   ·exact m1
   ·exact m2
   refine Exists.intro (i+1) (And.intro hil ?_)
   repeat' (first|apply And.intro|exact trivial|exact rfl|exact lz fun _=>rfl|exact fun (j:Nat) (hj:j < i+1)=>EL.aY (EL.lE (g:=ptL) (f:=fun j=>(list.f j).pt) rfl hj) (aL _ _ _ _))
   show list.n - (i+1) < list.n - i
   omega
  ·refine fun (hc:decide ((i:Int) < (list.n:Int))=false)=>?_
   have hin:i=list.n:=by have:¬ (i:Int) < (list.n:Int):=of_decide_eq_false hc; omega
   have en':i=(tS ⟨9,day,a,b,off,id,oth,txt,ids,names,num,pt,path,list⟩).n:=by rw [hin]; exact en.symm
   repeat' (first|exact en'|apply And.intro|exact trivial|exact rfl)
   ·exact Nat.le_of_eq (Nat.zero_add _)
   ·exact fun (j:Nat) (_:j < i)=>EL.aY ((congrArg (fun j=>ptL (list.f j).pt) (Nat.zero_add j)).trans (ep j).symm) (aL _ _ _ _)
 ·have hf:aS e=false:=by simpa using hf
  have ef:tS e=⟨0,e.path.p⟩:=if_neg (by rw [hf]; decide)
  have e1:0=(tS e).n:=by rw [ef]
  refine ⟨trivial,?_⟩
  repeat' (first|exact h|apply And.intro|exact trivial|exact rfl|exact lz fun _=>rfl)
  ·refine fun _=>?_
   repeat' (first|exact e1.symm|exact e1|apply And.intro|exact trivial|exact rfl)
  ·refine fun hc=>?_
   have hc:(!aS e)=false:=hc
   rw [hf] at hc
   cases hc
end F14
