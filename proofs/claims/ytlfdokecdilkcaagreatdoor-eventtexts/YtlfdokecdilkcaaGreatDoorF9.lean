/- A part of the proof. -/
import Derived.Test.YtlfdokecdilkcaaGreatDoorF8
open Go Go.Eng Go.Proofs G1 G2 G3 G4 G6 G7 EV0 N1 N2 F1 F2 F3 F4 F5 F6 F7 F8
set_option maxRecDepth 100000
namespace F9
theorem nof {P:Prop} {b:Bool} (e:b=false) (h:b=true):P:=by rw [e] at h; cases h
theorem jV {P:Prop} {b:Bool} (e:b=true) (h:b=false):P:=by rw [e] at h; cases h
def g79:List Nat:=[0,1,3]
def c79:aD :=
 .seq (.region g79 [(zo 3 (.move (.c (.bool false))))]) (.seq (.region g79 [(zo 4 (.move (.s 0))),(zo 5 (.load 1 false (.s 1))),(zo 6 (.call (.c (.fn 80)) [.s 4,.s 5])),(zo 3 (.move (.s 6)))]) .ret)
def r79:List aR:=[.slot 3]
def k79:List (Nat×Nat×aD×Nat):=[]
theorem e79:aK Tryz.prog 79 g79 [] [] k79=some (c79,r79,7):=by kernel_rfl
theorem q79:aF Tryz.prog k79:=aF.nil
def rE (n:Nat) (cs:Nat->Int) (k:Int):Bool:=orB (fun i=>decide (cs i=k)) n
theorem Mz (n:Nat) (cs:Nat->Int) (k:Int):decide (∃ i,i < n/\cs i=k)=rE n cs k:=by
 unfold rE
 rw [Bool.eq_iff_iff,decide_eq_true_iff,bK]
 simp
def Ub:Eng.Spec where
 X:=Nat×(Nat->Int)×Int
 args:=fun x=>.cons (.slice 1 x.1 fun i=>.cons (.int .i64 (x.2.1 i)) .nil) (.cons (.cptr (.cons (.int .i64 x.2.2) .nil)) .nil)
 pre:=fun x=>x.1<=1000000
 res:=fun x=>.bool (rE x.1 x.2.1 x.2.2)
 inst:=fun s=>match s with
  | .cons l (.cons (.cptr (.cons (.int _ v) _)) _)=>match L3.sX l with
   | some (n,f)=>some (n,f,v)
   | none=>none
  | _=>none
theorem Q6:Ub.Ok Tryz.prog 79:=by
 refine Eng.Spec.okR e79 q79 (fun _=>[(80,.p L3.Qb)]) (fun _ _=>aA.p L3.Ig aA.nil) ?_
 rintro ⟨n,cs,k⟩ (hn:n<=1000000)
 have e:decide (∃ i,i < n/\cs i=k)=rE n cs k:=Mz n cs k
 refine ⟨trivial,?_⟩
 repeat' (first|exact hn|apply And.intro|exact trivial|exact rfl|exact fun (j:Nat) (hj:j < _)=>Or.inl (L3.sub_one _ _ _ _ _)|exact e)
def g48:List Nat:=[0,11,17,21,25,29,33,4,40,3,43,46,42,49,1,2]
def c48:aD :=
 .seq (.region g48 [(zo 1 (.box 31 (.s 0))),(zo 2 (.alloc 31 zEv))]) (.seq (.region g48 [(zo 5 (.fldA 0 (.s 1))),(zo 6 (.load 1 false (.s 5))),(zo 3 (.alloc 3 (.cons (.int .i64 0) .nil))),⟨none,none,.store 1 (.s 3) (.s 6),[]⟩]) (.seq (.region g48 [(zo 7 (.mkfn 79 [.s 3])),(zo 4 (.move (.s 7)))]) (.seq (.seq (.region g48 [(zo 8 (.move (.s 4))),(zo 9 (.buildSl 3 1 2 (.cons (.int .i64 0) .nil) [(0,1,.c (.int .i64 13)),(1,1,.c (.int .i64 14))])),(zo 10 (.call (.s 8) [.s 9])),(zo 11 (.not (.s 10)))]) (.cond (.s 11) (.region g48 [(zo 12 (.fldA 5 (.s 1))),⟨none,none,.store 1 (.s 12) (.c (.str [])),[]⟩]) (.region g48 [(zo 13 (.fldA 2 (.s 1))),⟨none,none,.store 1 (.s 13) (.c (.int .i64 0)),[]⟩,(zo 14 (.fldA 3 (.s 1))),⟨none,none,.store 1 (.s 14) (.c (.int .i64 0)),[]⟩]))) (.seq (.seq (.region g48 [(zo 15 (.move (.s 4))),(zo 16 (.buildSl 3 1 1 (.cons (.int .i64 0) .nil) [(0,1,.c (.int .i64 1))])),(zo 17 (.call (.s 15) [.s 16]))]) (.cond (.s 17) (.region g48 [(zo 18 (.fldA 2 (.s 1))),⟨none,none,.store 1 (.s 18) (.c (.int .i64 0)),[]⟩]) .skip)) (.seq (.seq (.region g48 [(zo 19 (.move (.s 4))),(zo 20 (.buildSl 3 1 3 (.cons (.int .i64 0) .nil) [(0,1,.c (.int .i64 1)),(1,1,.c (.int .i64 2)),(2,1,.c (.int .i64 5))])),(zo 21 (.call (.s 19) [.s 20]))]) (.cond (.s 21) (.region g48 [(zo 22 (.fldA 16 (.s 1))),⟨none,none,.store 1 (.s 22) (.c (.nilsl)),[]⟩]) .skip)) (.seq (.seq (.region g48 [(zo 23 (.move (.s 4))),(zo 24 (.buildSl 3 1 3 (.cons (.int .i64 0) .nil) [(0,1,.c (.int .i64 4)),(1,1,.c (.int .i64 6)),(2,1,.c (.int .i64 7))])),(zo 25 (.call (.s 23) [.s 24]))]) (.cond (.s 25) (.region g48 [(zo 26 (.fldA 6 (.s 1))),⟨none,none,.store 1 (.s 26) (.c (.str [])),[]⟩]) .skip)) (.seq (.seq (.region g48 [(zo 27 (.move (.s 4))),(zo 28 (.buildSl 3 1 3 (.cons (.int .i64 0) .nil) [(0,1,.c (.int .i64 6)),(1,1,.c (.int .i64 7)),(2,1,.c (.int .i64 15))])),(zo 29 (.call (.s 27) [.s 28]))]) (.cond (.s 29) (.region g48 [(zo 30 (.fldA 7 (.s 1))),⟨none,none,.store 1 (.s 30) (.c (.str [])),[]⟩]) .skip)) (.seq (.seq (.region g48 [(zo 31 (.move (.s 4))),(zo 32 (.buildSl 3 1 2 (.cons (.int .i64 0) .nil) [(0,1,.c (.int .i64 6)),(1,1,.c (.int .i64 10))])),(zo 33 (.call (.s 31) [.s 32]))]) (.cond (.s 33) (.region g48 [(zo 34 (.build zHn [])),(zo 35 (.build zPt [])),(zo 36 (.fldA 10 (.s 1))),⟨none,none,.store 4 (.s 36) (.s 34),[]⟩,(zo 37 (.fldA 14 (.s 1))),⟨none,none,.store 2 (.s 37) (.s 35),[]⟩]) .skip)) (.seq (.seq (.region g48 [(zo 38 (.move (.s 4))),(zo 39 (.buildSl 3 1 2 (.cons (.int .i64 0) .nil) [(0,1,.c (.int .i64 8)),(1,1,.c (.int .i64 9))])),(zo 40 (.call (.s 38) [.s 39]))]) (.cond (.s 40) (.region g48 [(zo 41 (.fldA 17 (.s 1))),⟨none,none,.store 1 (.s 41) (.c (.nilsl)),[]⟩]) .skip)) (.seq (.seq (.region g48 [(zo 42 (.load 1 false (.s 3)))]) (.block 0 (.seq (.region g48 [(zo 44 (.bin (.eql) (.s 42) (.c (.int .i64 3)))),(zo 43 (.move (.s 44)))]) (.cond (.s 43) (.region g48 [(zo 45 (.fldA 9 (.s 1))),⟨none,none,.store 1 (.s 45) (.c (.nilsl)),[]⟩]) (.seq (.region g48 [(zo 47 (.bin (.eql) (.s 42) (.c (.int .i64 10)))),(zo 46 (.move (.s 47)))]) (.cond (.s 46) (.region g48 [(zo 48 (.fldA 8 (.s 1))),⟨none,none,.store 1 (.s 48) (.c (.nilsl)),[]⟩]) (.seq (.region g48 [(zo 50 (.bin (.eql) (.s 42) (.c (.int .i64 15)))),(zo 49 (.move (.s 50)))]) (.cond (.s 49) (.region g48 [(zo 51 (.fldA 4 (.s 1))),⟨none,none,.store 1 (.s 51) (.c (.int .i64 0)),[]⟩]) .skip)))))))) (.seq (.region g48 [(zo 52 (.load 18 true (.s 1))),⟨none,none,.store 18 (.s 2) (.s 52),[]⟩]) .ret)))))))))))
def r48:List aR:=[.cell 2 18 true]
def k48:List (Nat×Nat×aD×Nat):=[]
theorem e48:aK Tryz.prog 48 g48 [] [] k48=some (c48,r48,53):=by kernel_rfl
theorem q48:aF Tryz.prog k48:=aF.nil
def bA (e:Ev):Ev where
 kind:=e.kind
 day:=e.day
 a:=if e.kind=13\/e.kind=14\/e.kind=1 then 0 else e.a
 b:=if e.kind=13\/e.kind=14 then 0 else e.b
 off:=if e.kind=15 then 0 else e.off
 id:=if e.kind=13\/e.kind=14 then e.id else []
 oth:=if e.kind=4\/e.kind=6\/e.kind=7 then [] else e.oth
 txt:=if e.kind=6\/e.kind=7\/e.kind=15 then [] else e.txt
 ids:=⟨if e.kind=10 then 0 else e.ids.n,e.ids.f⟩
 names:=⟨if e.kind=3 then 0 else e.names.n,e.names.f⟩
 num:=if e.kind=6\/e.kind=10 then ⟨0,[],0,0⟩ else e.num
 pt:=if e.kind=6\/e.kind=10 then (0,0) else e.pt
 path:=⟨if e.kind=1\/e.kind=2\/e.kind=5 then 0 else e.path.n,e.path.p⟩
 list:=⟨if e.kind=8\/e.kind=9 then 0 else e.list.n,e.list.f⟩
def Ti:Eng.Spec where
 X:=Ev
 args:=fun e=>.cons (evE e) .nil
 pre:=fun e=>1<=e.kind/\e.kind<=15
 res:=fun e=>evE (bA e)
 inst:=ev1
 fresh:=false
set_option maxHeartbeats 80000000 in
theorem P5:Ti.Ok Tryz.prog 48:=by
 refine Eng.Spec.okR e48 q48 (fun _=>[(79,.p Ub)]) (fun _ _=>aA.p Q6 aA.nil) ?_
 rintro ⟨k,day,a,b,off,id,oth,txt,ids,names,num,pt,path,list⟩ ⟨(h1:1<=k),(h2:k<=15)⟩
 have:k=1\/k=2\/k=3\/k=4\/k=5\/k=6\/k=7\/k=8\/k=9\/k=10\/k=11\/k=12\/k=13\/k=14\/k=15:=by omega
 rcases this with rfl|rfl|rfl|rfl|rfl|rfl|rfl|rfl|rfl|rfl|rfl|rfl|rfl|rfl|rfl
 all_goals refine ⟨trivial,?_⟩
 all_goals repeat' (first|apply And.intro|exact trivial|exact rfl|exact lz fun _=>rfl|exact fun (j:Nat) (hj:j < _)=>Or.inl (L3.sub_one _ _ _ _ _)|exact Nat.le_of_ble_eq_true rfl|exact fun (h:(!rE _ _ _)=true)=>nof rfl h|exact fun (h:(!rE _ _ _)=false)=>jV rfl h|exact fun (h:rE _ _ _=true)=>nof rfl h|exact fun (h:rE _ _ _=false)=>jV rfl h|exact fun (h:decide ((_:Int)=_)=true)=>nof rfl h|exact fun (h:decide ((_:Int)=_)=false)=>jV rfl h|refine fun (_:(!rE _ _ _)=true)=>?_|refine fun (_:(!rE _ _ _)=false)=>?_|refine fun (_:rE _ _ _=true)=>?_|refine fun (_:rE _ _ _=false)=>?_|refine fun (_:decide ((_:Int)=_)=true)=>?_|refine fun (_:decide ((_:Int)=_)=false)=>?_)
end F9
