/- A part of the proof. -/
import Derived.Test.YtijddkljgihcnaaGreatDoorF8
open Go Go.Eng Go.Proofs G1 G2 G3 G4 G6 G7 EV0 N1 F1 F2 F3 F4 F5 F6 F7 F8
set_option maxRecDepth 100000
namespace F9
theorem nof {P:Prop} {b:Bool} (e:b=false) (h:b=true):P:=by rw [e] at h; cases h
theorem Ro {P:Prop} {b:Bool} (e:b=true) (h:b=false):P:=by rw [e] at h; cases h
def g135:List Nat:=[0,1,3]
def c135:aH :=
 .seq (.region g135 [(zo 3 (.move cF))]) (.seq (.region g135 [(mv 4 0),(ld 5 1),(zo 6 (.call (.c (.fn 40)) [.s 4,.s 5])),(mv 3 6)]) .ret)
theorem e135:aI Tryz.prog 135 g135 [] [] []=some (c135,[.slot 3],7):=by kernel_rfl
def qZ (n:Nat) (cs:Nat->Int) (k:Int):Bool:=orB (fun i=>decide (cs i=k)) n
theorem Mh (n:Nat) (cs:Nat->Int) (k:Int):decide (∃ i,i < n/\cs i=k)=qZ n cs k:=by
 unfold qZ
 rw [Bool.eq_iff_iff,decide_eq_true_iff,aO]
 simp
def Uk:Eng.Spec where
 X:=Nat×(Nat->Int)×Int
 args:=fun x=>.cons (.slice 1 x.1 fun i=>.cons (.int .i64 (x.2.1 i)) .nil) (.cons (.cptr (.cons (.int .i64 x.2.2) .nil)) .nil)
 pre:=fun x=>x.1<=1000000
 res:=fun x=>.bool (qZ x.1 x.2.1 x.2.2)
 inst:=fun s=>match s with
  | .cons l (.cons (.cptr (.cons (.int _ v) _)) _)=>match L3.sP l with
   | some (n,f)=>some (n,f,v)
   | none=>none
  | _=>none
theorem Qn:Uk.Ok Tryz.prog 135:=by
 refine Eng.Spec.okR e135 .nil (fun _=>[(40,.p L3.Ls)]) (fun _ _=>aA.p L3.Bd aA.nil) ?_
 rintro ⟨n,cs,k⟩ (hn:n<=1000000)
 have e:decide (∃ i,i < n/\cs i=k)=qZ n cs k:=Mh n cs k
 refine ⟨trivial,?_⟩
 repeat' (first|exact hn|apply And.intro|exact trivial|exact rfl|exact fun (j:Nat) (hj:j < _)=>Or.inl (L3.sub_one _ _ _ _ _)|exact e)
def g97:List Nat:=[0,11,17,21,25,29,33,4,40,3,43,46,42,49,1,2]
def c97:aH :=
 .seq (.region g97 [(zo 1 (.box 93 (.s 0))),(zo 2 (.alloc 93 zEv))]) (.seq (.region g97 [(fa 5 0 1),(ld 6 5),(zo 3 (.alloc 3 (.cons (.int .i64 0) .nil))),⟨none,none,.store 1 (.s 3) (.s 6),[]⟩]) (.seq (.region g97 [(zo 7 (.mkfn 135 [.s 3])),(mv 4 7)]) (.seq (.seq (.region g97 [(mv 8 4),(zo 9 (.buildSl 3 1 2 (.cons (.int .i64 0) .nil) [(0,1,cj 13),(1,1,cj 14)])),(zo 10 (.call (.s 8) [.s 9])),(zo 11 (.not (.s 10)))]) (.cond (.s 11) (.region g97 [(fa 12 5 1),⟨none,none,.store 1 (.s 12) (.c (.str [])),[]⟩]) (.region g97 [(fa 13 2 1),⟨none,none,.store 1 (.s 13) (cj 0),[]⟩,(fa 14 3 1),⟨none,none,.store 1 (.s 14) (cj 0),[]⟩]))) (.seq (.seq (.region g97 [(mv 15 4),(zo 16 (.buildSl 3 1 1 (.cons (.int .i64 0) .nil) [(0,1,cj 1)])),(zo 17 (.call (.s 15) [.s 16]))]) (.cond (.s 17) (.region g97 [(fa 18 2 1),⟨none,none,.store 1 (.s 18) (cj 0),[]⟩]) .skip)) (.seq (.seq (.region g97 [(mv 19 4),(zo 20 (.buildSl 3 1 3 (.cons (.int .i64 0) .nil) [(0,1,cj 1),(1,1,cj 2),(2,1,cj 5)])),(zo 21 (.call (.s 19) [.s 20]))]) (.cond (.s 21) (.region g97 [(fa 22 16 1),⟨none,none,.store 1 (.s 22) (.c (.nilsl)),[]⟩]) .skip)) (.seq (.seq (.region g97 [(mv 23 4),(zo 24 (.buildSl 3 1 3 (.cons (.int .i64 0) .nil) [(0,1,cj 4),(1,1,cj 6),(2,1,cj 7)])),(zo 25 (.call (.s 23) [.s 24]))]) (.cond (.s 25) (.region g97 [(fa 26 6 1),⟨none,none,.store 1 (.s 26) (.c (.str [])),[]⟩]) .skip)) (.seq (.seq (.region g97 [(mv 27 4),(zo 28 (.buildSl 3 1 3 (.cons (.int .i64 0) .nil) [(0,1,cj 6),(1,1,cj 7),(2,1,cj 15)])),(zo 29 (.call (.s 27) [.s 28]))]) (.cond (.s 29) (.region g97 [(fa 30 7 1),⟨none,none,.store 1 (.s 30) (.c (.str [])),[]⟩]) .skip)) (.seq (.seq (.region g97 [(mv 31 4),(zo 32 (.buildSl 3 1 2 (.cons (.int .i64 0) .nil) [(0,1,cj 6),(1,1,cj 10)])),(zo 33 (.call (.s 31) [.s 32]))]) (.cond (.s 33) (.region g97 [(zo 34 (.build zHn [])),(zo 35 (.build zPt [])),(fa 36 10 1),⟨none,none,.store 4 (.s 36) (.s 34),[]⟩,(fa 37 14 1),⟨none,none,.store 2 (.s 37) (.s 35),[]⟩]) .skip)) (.seq (.seq (.region g97 [(mv 38 4),(zo 39 (.buildSl 3 1 2 (.cons (.int .i64 0) .nil) [(0,1,cj 8),(1,1,cj 9)])),(zo 40 (.call (.s 38) [.s 39]))]) (.cond (.s 40) (.region g97 [(fa 41 17 1),⟨none,none,.store 1 (.s 41) (.c (.nilsl)),[]⟩]) .skip)) (.seq (.seq (.region g97 [(ld 42 3)]) (.block 0 (.seq (.region g97 [(zo 44 (.bin (.eql) (.s 42) (cj 3))),(mv 43 44)]) (.cond (.s 43) (.region g97 [(fa 45 9 1),⟨none,none,.store 1 (.s 45) (.c (.nilsl)),[]⟩]) (.seq (.region g97 [(zo 47 (.bin (.eql) (.s 42) (cj 10))),(mv 46 47)]) (.cond (.s 46) (.region g97 [(fa 48 8 1),⟨none,none,.store 1 (.s 48) (.c (.nilsl)),[]⟩]) (.seq (.region g97 [(zo 50 (.bin (.eql) (.s 42) (cj 15))),(mv 49 50)]) (.cond (.s 49) (.region g97 [(fa 51 4 1),⟨none,none,.store 1 (.s 51) (cj 0),[]⟩]) .skip)))))))) (.seq (.region g97 [(zo 52 (.load 18 true (.s 1))),⟨none,none,.store 18 (.s 2) (.s 52),[]⟩]) .ret)))))))))))
theorem e97:aI Tryz.prog 97 g97 [] [] []=some (c97,[.cell 2 18 true],53):=by kernel_rfl
def bM (e:Ev):Ev where
 kind:=e.kind
 day:=e.day
 a:=if e.kind=13\/e.kind=14\/e.kind=1 then 0 else e.a
 b:=if e.kind=13\/e.kind=14 then 0 else e.b
 off:=if e.kind=15 then 0 else e.off
 id:=if e.kind=13\/e.kind=14 then e.id else []
 oth:=if e.kind=4\/e.kind=6\/e.kind=7 then [] else e.oth
 txt:=if e.kind=6\/e.kind=7\/e.kind=15 then [] else e.txt
 ids:=⟨if e.kind=10 then 0 else e.ids.n,e.ids.f⟩
 names:=⟨if e.kind=3 then 0 else e.names.n,e.names.f⟩
 num:=if e.kind=6\/e.kind=10 then ⟨0,[],0,0⟩ else e.num
 pt:=if e.kind=6\/e.kind=10 then (0,0) else e.pt
 path:=⟨if e.kind=1\/e.kind=2\/e.kind=5 then 0 else e.path.n,e.path.p⟩
 list:=⟨if e.kind=8\/e.kind=9 then 0 else e.list.n,e.list.f⟩
def Tv:Eng.Spec where
 X:=Ev
 args:=fun e=>.cons (evE e) .nil
 pre:=fun e=>1<=e.kind/\e.kind<=15
 res:=fun e=>evE (bM e)
 inst:=ev1
 fresh:=false
set_option maxHeartbeats 80000000 in
theorem Pm:Tv.Ok Tryz.prog 97:=by
 refine Eng.Spec.okR e97 .nil (fun _=>[(135,.p Uk)]) (fun _ _=>aA.p Qn aA.nil) ?_
 rintro ⟨k,day,a,b,off,id,oth,txt,ids,names,num,pt,path,list⟩ ⟨(h1:1<=k),(h2:k<=15)⟩
 have:k=1\/k=2\/k=3\/k=4\/k=5\/k=6\/k=7\/k=8\/k=9\/k=10\/k=11\/k=12\/k=13\/k=14\/k=15:=by omega
 rcases this with rfl|rfl|rfl|rfl|rfl|rfl|rfl|rfl|rfl|rfl|rfl|rfl|rfl|rfl|rfl
 all_goals refine ⟨trivial,?_⟩
 all_goals repeat' (first|apply And.intro|exact trivial|exact rfl|exact lz fun _=>rfl|exact fun (j:Nat) (hj:j < _)=>Or.inl (L3.sub_one _ _ _ _ _)|exact Nat.le_of_ble_eq_true rfl|exact fun (h:(!qZ _ _ _)=true)=>nof rfl h|exact fun (h:(!qZ _ _ _)=false)=>Ro rfl h|exact fun (h:qZ _ _ _=true)=>nof rfl h|exact fun (h:qZ _ _ _=false)=>Ro rfl h|exact fun (h:decide ((_:Int)=_)=true)=>nof rfl h|exact fun (h:decide ((_:Int)=_)=false)=>Ro rfl h|refine fun (_:(!qZ _ _ _)=true)=>?_|refine fun (_:(!qZ _ _ _)=false)=>?_|refine fun (_:qZ _ _ _=true)=>?_|refine fun (_:qZ _ _ _=false)=>?_|refine fun (_:decide ((_:Int)=_)=true)=>?_|refine fun (_:decide ((_:Int)=_)=false)=>?_)
end F9
