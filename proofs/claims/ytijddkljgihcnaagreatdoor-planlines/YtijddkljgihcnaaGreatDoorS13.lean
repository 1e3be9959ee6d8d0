/- A part of the proof. -/
import Derived.Test.YtijddkljgihcnaaGreatDoorF10
import Derived.Test.YtijddkljgihcnaaGreatDoorS1
import Derived.Test.YtijddkljgihcnaaGreatDoorS39
import Derived.Test.YtijddkljgihcnaaGreatDoorL10
section
open Go Go.Eng Go.Proofs G7 G4 L3 L10 G1 G3 EV0 S1
set_option maxRecDepth 100000
namespace S10
structure Rn where
 id:B
 kind:Int
 owner:Int
 ring:Pts
 names:Sq Nm
 ended : Int
structure Sr where
 id:B
 owner:Int
 line:Pts
 names:Sq Nm
 ended : Int
structure Bu where
 id:B
 owner:Int
 ring:Pts
 ended : Int
structure Dr where
 id:B
 bld:B
 str:B
 owner:Int
 num:Hn
 pt:Pt
 frm:Int
 ended : Int
 after:Sq B
 why:Int
 office:Int
 veil:B
structure Un where
 id:B
 door:B
 txt:B
 frm:Int
 ended : Int
 why:Int
structure Sta where
 regions:Sq Rn
 streets:Sq Sr
 buildings:Sq Bu
 doors:Sq Dr
 units:Sq Un
 merged:Pts
 rulings:Pts
def rnL (x:Rn):SV:=.cons (.str x.id) (.cons (.int .i64 x.kind) (.cons (.int .i64 x.owner) (.cons (rgE x.ring) (.cons (nmE x.names) (.cons (.int .i64 x.ended) .nil)))))
def srL (x:Sr):SV:=.cons (.str x.id) (.cons (.int .i64 x.owner) (.cons (rgE x.line) (.cons (nmE x.names) (.cons (.int .i64 x.ended) .nil))))
def buL (x:Bu):SV:=.cons (.str x.id) (.cons (.int .i64 x.owner) (.cons (rgE x.ring) (.cons (.int .i64 x.ended) .nil)))
def drL (x:Dr):SV:=.cons (.str x.id) (.cons (.str x.bld) (.cons (.str x.str) (.cons (.int .i64 x.owner) (hnC x.num (.cons (.int .i64 x.pt.1) (.cons (.int .i64 x.pt.2) (.cons (.int .i64 x.frm) (.cons (.int .i64 x.ended) (.cons (stE x.after) (.cons (.int .i64 x.why) (.cons (.int .i64 x.office) (.cons (.str x.veil) .nil))))))))))))
def unL (x:Un):SV:=.cons (.str x.id) (.cons (.str x.door) (.cons (.str x.txt) (.cons (.int .i64 x.frm) (.cons (.int .i64 x.ended) (.cons (.int .i64 x.why) .nil)))))
def rnE (s:Sq Rn):SV:=.slice 6 s.n fun i=>rnL (s.f i)
def srE (s:Sq Sr):SV:=.slice 5 s.n fun i=>srL (s.f i)
def buE (s:Sq Bu):SV:=.slice 4 s.n fun i=>buL (s.f i)
def drE (s:Sq Dr):SV:=.slice 16 s.n fun i=>drL (s.f i)
def unE (s:Sq Un):SV:=.slice 6 s.n fun i=>unL (s.f i)
def Vi (s:Sta):SV:=.cons (rnE s.regions) (.cons (srE s.streets) (.cons (buE s.buildings) (.cons (drE s.doors) (.cons (unE s.units) (.cons (rgE s.merged) (.cons (rgE s.rulings) .nil))))))
def nR (s:Sta):SV:=.agg (Vi s)
theorem Rf (k:Keep) (hp:List (Nat×aG)) (m:Nat) (x:Rn) (hk:loose k=true):sub k hp (m+20) (rnL x) (rnL x):=by
 repeat' (first|exact hk|apply And.intro|exact trivial|exact rfl|exact lz fun _=>rfl)
theorem Rg (k:Keep) (hp:List (Nat×aG)) (m:Nat) (x:Sr) (hk:loose k=true):sub k hp (m+20) (srL x) (srL x):=by
 repeat' (first|exact hk|apply And.intro|exact trivial|exact rfl|exact lz fun _=>rfl)
theorem Rb (k:Keep) (hp:List (Nat×aG)) (m:Nat) (x:Bu) (hk:loose k=true):sub k hp (m+20) (buL x) (buL x):=by
 repeat' (first|exact hk|apply And.intro|exact trivial|exact rfl|exact lz fun _=>rfl)
theorem Rc (k:Keep) (hp:List (Nat×aG)) (m:Nat) (x:Dr) (hk:loose k=true):sub k hp (m+30) (drL x) (drL x):=by
 repeat' (first|exact hk|apply And.intro|exact trivial|exact rfl|exact lz fun _=>rfl)
theorem Vk (k:Keep) (hp:List (Nat×aG)) (m:Nat) (x:Un):sub k hp (m+20) (unL x) (unL x):=by
 repeat' (first|apply And.intro|exact trivial|exact rfl|exact lz fun _=>rfl)
def Ex (s:SV):Pts:=sqT ⟨0,fun _=>(0,0)⟩ pB s
def rnD (s:SV):Option (Sq Rn):=sqD (fun c=>⟨bE (aJ c 0),aO (aJ c 1),aO (aJ c 2),Ex (aJ c 3),sqT ⟨0,fun _=>⟨[],0,[]⟩⟩ nmD (aJ c 4),aO (aJ c 5)⟩) s
def srD (s:SV):Option (Sq Sr):=sqD (fun c=>⟨bE (aJ c 0),aO (aJ c 1),Ex (aJ c 2),sqT ⟨0,fun _=>⟨[],0,[]⟩⟩ nmD (aJ c 3),aO (aJ c 4)⟩) s
def buD (s:SV):Option (Sq Bu):=sqD (fun c=>⟨bE (aJ c 0),aO (aJ c 1),Ex (aJ c 2),aO (aJ c 3)⟩) s
def drD (s:SV):Option (Sq Dr):=sqD (fun c=>⟨bE (aJ c 0),bE (aJ c 1),bE (aJ c 2),aO (aJ c 3),hnA c 4,(aO (aJ c 8),aO (aJ c 9)),aO (aJ c 10),aO (aJ c 11),sqT ⟨0,fun _=>[]⟩ stD (aJ c 12),aO (aJ c 13),aO (aJ c 14),bE (aJ c 15)⟩) s
def unD (s:SV):Option (Sq Un):=sqD (fun c=>⟨bE (aJ c 0),bE (aJ c 1),bE (aJ c 2),aO (aJ c 3),aO (aJ c 4),aO (aJ c 5)⟩) s
def sN:SV->Option Sta
 | .agg c=>match rnD (aJ c 0),srD (aJ c 1),buD (aJ c 2),drD (aJ c 3),unD (aJ c 4),pB (aJ c 5),pB (aJ c 6) with
  | some a,some b,some c,some d,some e,some f,some g=>some ⟨a,b,c,d,e,f,g⟩
  | _,_,_,_,_,_,_=>none
 | _=>none
structure okR (x:Rn):Prop where
 id:okT x.id
 ring:x.ring.n<=1000000
 names:okS x.names okN
structure vS (x:Sr):Prop where
 id:okT x.id
 line:x.line.n<=1000000
 names:okS x.names okN
structure okB (x:Bu):Prop where
 id:okT x.id
 ring:x.ring.n<=1000000
structure okD (x:Dr):Prop where
 id:okT x.id
 bld:okT x.bld
 str:okT x.str
 num:okH x.num
 after:okS x.after okT
 veil:okT x.veil
structure okU (x:Un):Prop where
 id:okT x.id
 door:okT x.door
 txt:okT x.txt
structure oW (s:Sta):Prop where
 regions:okS s.regions okR
 streets:okS s.streets vS
 buildings:okS s.buildings okB
 doors:okS s.doors okD
 units:okS s.units okU
 merged:s.merged.n<=1000000
 rulings:s.rulings.n<=1000000
instance:Zr rnL:=⟨fun k hp m x h=>Rf k hp (m+10) x h⟩
instance:Zr srL:=⟨fun k hp m x h=>Rg k hp (m+10) x h⟩
instance:Zr buL:=⟨fun k hp m x h=>Rb k hp (m+10) x h⟩
instance:Zr drL:=⟨fun k hp m x h=>Rc k hp (m+0) x h⟩
end S10
end
section
open Go Go.Eng Go.Proofs F1 F6 G7 G4 L3 L10 G1 G3 EV0 S1 S10
set_option maxRecDepth 100000
namespace S11
def g58:List Nat:=[0,2,1,3]
def c58:aH :=
 .seq (.region g58 [(zo 2 (.box 55 (.s 0))),(zo 3 (.move cF))]) (.seq (.region g58 [(fa 4 0 2),(ld 5 4),(ld 6 1),(zo 7 (.bin (.eql) (.s 5) (.s 6))),(mv 3 7)]) .ret)
theorem e58:aI Tryz.prog 58 g58 [] [] []=some (c58,[.slot 3],8):=by kernel_rfl
def drP (c:B) (x:Dr):Bool:=decide (x.id=c)
def dr0:Eng.Spec where
 X:=Dr×B
 args:=fun x=>.cons (.agg (drL x.1)) (.cons (.cptr (.cons (.str x.2) .nil)) .nil)
 pre:=fun x=>okD x.1
 res:=fun x=>.bool (drP x.2 x.1)
 inst:=fun
  | .cons (.agg c) (.cons (.cptr (.cons (.str z) _)) _)=>some (⟨bE (aJ c 0),bE (aJ c 1),bE (aJ c 2),aO (aJ c 3),hnA c 4,(aO (aJ c 8),aO (aJ c 9)),aO (aJ c 10),aO (aJ c 11),sqT ⟨0,fun _=>[]⟩ stD (aJ c 12),aO (aJ c 13),aO (aJ c 14),bE (aJ c 15)⟩,z)
  | _=>none
theorem Ow:dr0.Ok Tryz.prog 58:=by
 refine Eng.Spec.okR e58 .nil (fun _=>[]) (fun _ _=>aA.nil) ?_
 rintro ⟨x,c⟩ _
 refine ⟨trivial,?_⟩
 repeat' (first|apply And.intro|exact trivial|exact rfl|exact lz fun _=>rfl)
def g78:List Nat:=[7,9,1,0,16,5,8,4]
def c78:aH :=
 .seq (.region g78 [(zo 4 (.move (cj 0)))]) (.seq (.seq (.region g78 [(mv 6 0),(zo 7 (.lenSl (.s 6))),(zo 8 (.move (cj 0)))]) (.block 0 (.loop 0 [9,10,5,11,12,13,14,15,16,17,4,18,8] (.seq (.region g78 [(zo 9 (.bin (.lss) (.s 8) (.s 7)))]) (.seq (.cond (.s 9) .skip (.exit 0)) (.seq (.block 1 (.seq (.region g78 [(mv 10 8),(mv 5 10)]) (.seq (.region g78 [(mv 11 1),(mv 12 0),(mv 13 5),(zo 14 (.idxSl 16 (.s 12) (.s 13))),(zo 15 (.load 16 true (.s 14))),(zo 16 (.call (.s 11) [.s 15]))]) (.cond (.s 16) (.seq (.region g78 [(mv 17 5),(mv 4 17)]) .ret) .skip)))) (.region g78 [(zo 18 (.bin (.add) (.s 8) (cj 1))),(mv 8 18)]))))))) (.seq (.region g78 [(zo 4 (.move (cj (-1))))]) .ret))
theorem e78:aI Tryz.prog 78 g78 [] [] []=some (c78,[.slot 4],19):=by kernel_rfl
def g57:List Nat:=[0,1,4]
def c57:aH :=
 .seq (.region g57 [(zo 4 (.move (cj 0)))]) (.seq (.region g57 [(mv 5 0),(mv 6 1),(zo 7 (.call (.c (.fn 78)) [.s 5,.s 6])),(mv 4 7)]) .ret)
theorem e57:aI Tryz.prog 57 g57 [] [] []=some (c57,[.slot 4],8):=by kernel_rfl
def drI:Eng.Spec where
 X:=Sq Dr×B
 args:=fun x=>.cons (drE x.1) (.cons (.fn 58 (.cons (.cptr (.cons (.str x.2) .nil)) .nil)) .nil)
 pre:=fun x=>okS x.1 okD
 res:=fun x=>.int .i64 (aW (fun i=>drP x.2 (x.1.f i)) x.1.n)
 inst:=fun
  | .cons a (.cons (.fn _ (.cons (.cptr (.cons c _)) _)) .nil)=>match drD a,nS c with
   | some r,some c=>some (r,c)
   | _,_=>none
  | _=>none
theorem Ox:drI.Ok Tryz.prog 78:=by
 refine Eng.Spec.okR e78 .nil (fun _=>[(58,.p dr0)]) (fun _ _=>aA.p Ow aA.nil) ?_
 rintro ⟨r,c⟩ ⟨(hn:r.n<=1000000),(hel:∀ i,i < r.n->okD (r.f i))⟩
 refine ⟨trivial,?_⟩
 repeat' (first|apply And.intro|exact trivial|exact rfl|exact lz fun _=>rfl|exact S1.zz rfl)
 refine ⟨⟨Nat,fun i=>i<=r.n/\orB (fun i=>drP c (r.f i)) i=false,fun i=>[(8,.int .i64 (i:Int))],fun _=>[],fun i=>r.n - i⟩,0,⟨Nat.zero_le _,rfl⟩,?_,?_⟩
 ·repeat' (first|apply And.intro|exact trivial|exact rfl|exact lz fun _=>rfl|exact S1.zz rfl)
 rintro (i:Nat) ⟨(hi:i<=r.n),(hf:orB (fun i=>drP c (r.f i)) i=false)⟩
 repeat' (first|apply And.intro|exact trivial|exact rfl|exact lz fun _=>rfl|exact S1.zz rfl)
 ·refine fun (h:decide ((i:Int) < (r.n:Int))=true)=>?_
  have hi1:(i:Int) < (r.n:Int):=of_decide_eq_true h
  have hil:i < r.n:=by omega
  have hi0:(0:Int)<=(i:Int):=by omega
  have hok:=hel i hil
  have b1:-9223372036854775808<=(i:Int)+1:=by omega
  have b2:(i:Int)+1<=9223372036854775807:=by omega
  repeat' (first|with_reducible exact hi1|with_reducible exact hi0|apply And.intro|exact trivial|exact rfl|exact lz fun _=>rfl|exact hok)
  ·refine fun (hc:drP c (r.f i)=true)=>?_
   have e:(i:Int)=aW (fun i=>drP c (r.f i)) r.n:=(cI hf hc hil).symm
   repeat' (first|exact e|apply And.intro|exact trivial|exact rfl|exact lz fun _=>rfl)
  ·refine fun (hc:drP c (r.f i)=false)=>?_
   have hf1:orB (fun i=>drP c (r.f i)) (i+1)=false:=by
    simp only [orB]
    rw [hf]
    exact hc
   repeat' (first|with_reducible exact b1|with_reducible exact b2|apply And.intro|exact trivial|exact rfl|exact lz fun _=>rfl)
   refine Exists.intro (i+1) ?_
   refine And.intro (And.intro hil hf1) ?_
   repeat' (first|apply And.intro|exact trivial|exact rfl|exact lz fun _=>rfl|exact S1.zz rfl)
   show r.n - (i+1) < r.n - i
   omega
 ·refine fun (h:decide ((i:Int) < (r.n:Int))=false)=>?_
  have hi1:¬ (i:Int) < (r.n:Int):=of_decide_eq_false h
  have e:i=r.n:=by omega
  have ef:-1=aW (fun i=>drP c (r.f i)) r.n:=by rw [<- e,bV hf]
  repeat' (first|exact ef|apply And.intro|exact trivial|exact rfl|exact lz fun _=>rfl)
def drS:Eng.Spec where
 X:=Sq Dr×B
 args:=drI.args
 pre:=fun x=>okS x.1 okD
 res:=drI.res
 inst:=drI.inst
theorem Gm:drS.Ok Tryz.prog 57:=by
 refine Eng.Spec.okR e57 .nil (fun _=>[(78,.p drI)]) (fun _ _=>aA.p Ox aA.nil) ?_
 rintro ⟨r,c⟩ ⟨(hn:r.n<=1000000),(hel:∀ i,i < r.n->okD (r.f i))⟩
 refine ⟨trivial,?_⟩
 repeat' (first|exact hn|exact hel|apply And.intro|exact trivial|exact rfl|exact lz fun _=>rfl|exact S1.zz rfl)
def g100:List Nat:=[0,2,1,3]
def c100:aH :=
 .seq (.region g100 [(zo 2 (.box 72 (.s 0))),(zo 3 (.move cF))]) (.seq (.region g100 [(fa 4 0 2),(ld 5 4),(ld 6 1),(zo 7 (.bin (.eql) (.s 5) (.s 6))),(mv 3 7)]) .ret)
theorem e100:aI Tryz.prog 100 g100 [] [] []=some (c100,[.slot 3],8):=by kernel_rfl
def buP (c:B) (x:Bu):Bool:=decide (x.id=c)
def bu0:Eng.Spec where
 X:=Bu×B
 args:=fun x=>.cons (.agg (buL x.1)) (.cons (.cptr (.cons (.str x.2) .nil)) .nil)
 pre:=fun x=>okB x.1
 res:=fun x=>.bool (buP x.2 x.1)
 inst:=fun
  | .cons (.agg c) (.cons (.cptr (.cons (.str z) _)) _)=>some (⟨bE (aJ c 0),aO (aJ c 1),Ex (aJ c 2),aO (aJ c 3)⟩,z)
  | _=>none
theorem N8:bu0.Ok Tryz.prog 100:=by
 refine Eng.Spec.okR e100 .nil (fun _=>[]) (fun _ _=>aA.nil) ?_
 rintro ⟨x,c⟩ _
 refine ⟨trivial,?_⟩
 repeat' (first|apply And.intro|exact trivial|exact rfl|exact lz fun _=>rfl)
def g161:List Nat:=[7,9,1,0,16,5,8,4]
def c161:aH :=
 .seq (.region g161 [(zo 4 (.move (cj 0)))]) (.seq (.seq (.region g161 [(mv 6 0),(zo 7 (.lenSl (.s 6))),(zo 8 (.move (cj 0)))]) (.block 0 (.loop 0 [9,10,5,11,12,13,14,15,16,17,4,18,8] (.seq (.region g161 [(zo 9 (.bin (.lss) (.s 8) (.s 7)))]) (.seq (.cond (.s 9) .skip (.exit 0)) (.seq (.block 1 (.seq (.region g161 [(mv 10 8),(mv 5 10)]) (.seq (.region g161 [(mv 11 1),(mv 12 0),(mv 13 5),(zo 14 (.idxSl 4 (.s 12) (.s 13))),(zo 15 (.load 4 true (.s 14))),(zo 16 (.call (.s 11) [.s 15]))]) (.cond (.s 16) (.seq (.region g161 [(mv 17 5),(mv 4 17)]) .ret) .skip)))) (.region g161 [(zo 18 (.bin (.add) (.s 8) (cj 1))),(mv 8 18)]))))))) (.seq (.region g161 [(zo 4 (.move (cj (-1))))]) .ret))
theorem e161:aI Tryz.prog 161 g161 [] [] []=some (c161,[.slot 4],19):=by kernel_rfl
def g99:List Nat:=[0,1,4]
def c99:aH :=
 .seq (.region g99 [(zo 4 (.move (cj 0)))]) (.seq (.region g99 [(mv 5 0),(mv 6 1),(zo 7 (.call (.c (.fn 161)) [.s 5,.s 6])),(mv 4 7)]) .ret)
theorem e99:aI Tryz.prog 99 g99 [] [] []=some (c99,[.slot 4],8):=by kernel_rfl
def buI:Eng.Spec where
 X:=Sq Bu×B
 args:=fun x=>.cons (buE x.1) (.cons (.fn 100 (.cons (.cptr (.cons (.str x.2) .nil)) .nil)) .nil)
 pre:=fun x=>okS x.1 okB
 res:=fun x=>.int .i64 (aW (fun i=>buP x.2 (x.1.f i)) x.1.n)
 inst:=fun
  | .cons a (.cons (.fn _ (.cons (.cptr (.cons c _)) _)) .nil)=>match buD a,nS c with
   | some r,some c=>some (r,c)
   | _,_=>none
  | _=>none
theorem Oa:buI.Ok Tryz.prog 161:=by
 refine Eng.Spec.okR e161 .nil (fun _=>[(100,.p bu0)]) (fun _ _=>aA.p N8 aA.nil) ?_
 rintro ⟨r,c⟩ ⟨(hn:r.n<=1000000),(hel:∀ i,i < r.n->okB (r.f i))⟩
 refine ⟨trivial,?_⟩
 repeat' (first|apply And.intro|exact trivial|exact rfl|exact lz fun _=>rfl|exact S1.zz rfl)
 refine ⟨⟨Nat,fun i=>i<=r.n/\orB (fun i=>buP c (r.f i)) i=false,fun i=>[(8,.int .i64 (i:Int))],fun _=>[],fun i=>r.n - i⟩,0,⟨Nat.zero_le _,rfl⟩,?_,?_⟩
 ·repeat' (first|apply And.intro|exact trivial|exact rfl|exact lz fun _=>rfl|exact S1.zz rfl)
 rintro (i:Nat) ⟨(hi:i<=r.n),(hf:orB (fun i=>buP c (r.f i)) i=false)⟩
 repeat' (first|apply And.intro|exact trivial|exact rfl|exact lz fun _=>rfl|exact S1.zz rfl)
 ·refine fun (h:decide ((i:Int) < (r.n:Int))=true)=>?_
  have hi1:(i:Int) < (r.n:Int):=of_decide_eq_true h
  have hil:i < r.n:=by omega
  have hi0:(0:Int)<=(i:Int):=by omega
  have hok:=hel i hil
  have b1:-9223372036854775808<=(i:Int)+1:=by omega
  have b2:(i:Int)+1<=9223372036854775807:=by omega
  repeat' (first|with_reducible exact hi1|with_reducible exact hi0|apply And.intro|exact trivial|exact rfl|exact lz fun _=>rfl|exact hok)
  ·refine fun (hc:buP c (r.f i)=true)=>?_
   have e:(i:Int)=aW (fun i=>buP c (r.f i)) r.n:=(cI hf hc hil).symm
   repeat' (first|exact e|apply And.intro|exact trivial|exact rfl|exact lz fun _=>rfl)
  ·refine fun (hc:buP c (r.f i)=false)=>?_
   have hf1:orB (fun i=>buP c (r.f i)) (i+1)=false:=by
    simp only [orB]
    rw [hf]
    exact hc
   repeat' (first|with_reducible exact b1|with_reducible exact b2|apply And.intro|exact trivial|exact rfl|exact lz fun _=>rfl)
   refine Exists.intro (i+1) ?_
   refine And.intro (And.intro hil hf1) ?_
   repeat' (first|apply And.intro|exact trivial|exact rfl|exact lz fun _=>rfl|exact S1.zz rfl)
   show r.n - (i+1) < r.n - i
   omega
 ·refine fun (h:decide ((i:Int) < (r.n:Int))=false)=>?_
  have hi1:¬ (i:Int) < (r.n:Int):=of_decide_eq_false h
  have e:i=r.n:=by omega
  have ef:-1=aW (fun i=>buP c (r.f i)) r.n:=by rw [<- e,bV hf]
  repeat' (first|exact ef|apply And.intro|exact trivial|exact rfl|exact lz fun _=>rfl)
def buS:Eng.Spec where
 X:=Sq Bu×B
 args:=buI.args
 pre:=fun x=>okS x.1 okB
 res:=buI.res
 inst:=buI.inst
theorem Gb:buS.Ok Tryz.prog 99:=by
 refine Eng.Spec.okR e99 .nil (fun _=>[(161,.p buI)]) (fun _ _=>aA.p Oa aA.nil) ?_
 rintro ⟨r,c⟩ ⟨(hn:r.n<=1000000),(hel:∀ i,i < r.n->okB (r.f i))⟩
 refine ⟨trivial,?_⟩
 repeat' (first|exact hn|exact hel|apply And.intro|exact trivial|exact rfl|exact lz fun _=>rfl|exact S1.zz rfl)
def g102:List Nat:=[0,2,1,3]
def c102:aH :=
 .seq (.region g102 [(zo 2 (.box 70 (.s 0))),(zo 3 (.move cF))]) (.seq (.region g102 [(fa 4 0 2),(ld 5 4),(ld 6 1),(zo 7 (.bin (.eql) (.s 5) (.s 6))),(mv 3 7)]) .ret)
theorem e102:aI Tryz.prog 102 g102 [] [] []=some (c102,[.slot 3],8):=by kernel_rfl
def srP (c:B) (x:Sr):Bool:=decide (x.id=c)
def sr0:Eng.Spec where
 X:=Sr×B
 args:=fun x=>.cons (.agg (srL x.1)) (.cons (.cptr (.cons (.str x.2) .nil)) .nil)
 pre:=fun x=>vS x.1
 res:=fun x=>.bool (srP x.2 x.1)
 inst:=fun
  | .cons (.agg c) (.cons (.cptr (.cons (.str z) _)) _)=>some (⟨bE (aJ c 0),aO (aJ c 1),Ex (aJ c 2),sqT ⟨0,fun _=>⟨[],0,[]⟩⟩ nmD (aJ c 3),aO (aJ c 4)⟩,z)
  | _=>none
theorem Q1:sr0.Ok Tryz.prog 102:=by
 refine Eng.Spec.okR e102 .nil (fun _=>[]) (fun _ _=>aA.nil) ?_
 rintro ⟨x,c⟩ _
 refine ⟨trivial,?_⟩
 repeat' (first|apply And.intro|exact trivial|exact rfl|exact lz fun _=>rfl)
def g162:List Nat:=[7,9,1,0,16,5,8,4]
def c162:aH :=
 .seq (.region g162 [(zo 4 (.move (cj 0)))]) (.seq (.seq (.region g162 [(mv 6 0),(zo 7 (.lenSl (.s 6))),(zo 8 (.move (cj 0)))]) (.block 0 (.loop 0 [9,10,5,11,12,13,14,15,16,17,4,18,8] (.seq (.region g162 [(zo 9 (.bin (.lss) (.s 8) (.s 7)))]) (.seq (.cond (.s 9) .skip (.exit 0)) (.seq (.block 1 (.seq (.region g162 [(mv 10 8),(mv 5 10)]) (.seq (.region g162 [(mv 11 1),(mv 12 0),(mv 13 5),(zo 14 (.idxSl 5 (.s 12) (.s 13))),(zo 15 (.load 5 true (.s 14))),(zo 16 (.call (.s 11) [.s 15]))]) (.cond (.s 16) (.seq (.region g162 [(mv 17 5),(mv 4 17)]) .ret) .skip)))) (.region g162 [(zo 18 (.bin (.add) (.s 8) (cj 1))),(mv 8 18)]))))))) (.seq (.region g162 [(zo 4 (.move (cj (-1))))]) .ret))
theorem e162:aI Tryz.prog 162 g162 [] [] []=some (c162,[.slot 4],19):=by kernel_rfl
def g101:List Nat:=[0,1,4]
def c101:aH :=
 .seq (.region g101 [(zo 4 (.move (cj 0)))]) (.seq (.region g101 [(mv 5 0),(mv 6 1),(zo 7 (.call (.c (.fn 162)) [.s 5,.s 6])),(mv 4 7)]) .ret)
theorem e101:aI Tryz.prog 101 g101 [] [] []=some (c101,[.slot 4],8):=by kernel_rfl
def srI:Eng.Spec where
 X:=Sq Sr×B
 args:=fun x=>.cons (srE x.1) (.cons (.fn 102 (.cons (.cptr (.cons (.str x.2) .nil)) .nil)) .nil)
 pre:=fun x=>okS x.1 vS
 res:=fun x=>.int .i64 (aW (fun i=>srP x.2 (x.1.f i)) x.1.n)
 inst:=fun
  | .cons a (.cons (.fn _ (.cons (.cptr (.cons c _)) _)) .nil)=>match srD a,nS c with
   | some r,some c=>some (r,c)
   | _,_=>none
  | _=>none
theorem Q3:srI.Ok Tryz.prog 162:=by
 refine Eng.Spec.okR e162 .nil (fun _=>[(102,.p sr0)]) (fun _ _=>aA.p Q1 aA.nil) ?_
 rintro ⟨r,c⟩ ⟨(hn:r.n<=1000000),(hel:∀ i,i < r.n->vS (r.f i))⟩
 refine ⟨trivial,?_⟩
 repeat' (first|apply And.intro|exact trivial|exact rfl|exact lz fun _=>rfl|exact S1.zz rfl)
 refine ⟨⟨Nat,fun i=>i<=r.n/\orB (fun i=>srP c (r.f i)) i=false,fun i=>[(8,.int .i64 (i:Int))],fun _=>[],fun i=>r.n - i⟩,0,⟨Nat.zero_le _,rfl⟩,?_,?_⟩
 ·repeat' (first|apply And.intro|exact trivial|exact rfl|exact lz fun _=>rfl|exact S1.zz rfl)
 rintro (i:Nat) ⟨(hi:i<=r.n),(hf:orB (fun i=>srP c (r.f i)) i=false)⟩
 repeat' (first|apply And.intro|exact trivial|exact rfl|exact lz fun _=>rfl|exact S1.zz rfl)
 ·refine fun (h:decide ((i:Int) < (r.n:Int))=true)=>?_
  have hi1:(i:Int) < (r.n:Int):=of_decide_eq_true h
  have hil:i < r.n:=by omega
  have hi0:(0:Int)<=(i:Int):=by omega
  have hok:=hel i hil
  have b1:-9223372036854775808<=(i:Int)+1:=by omega
  have b2:(i:Int)+1<=9223372036854775807:=by omega
  repeat' (first|with_reducible exact hi1|with_reducible exact hi0|apply And.intro|exact trivial|exact rfl|exact lz fun _=>rfl|exact hok)
  ·refine fun (hc:srP c (r.f i)=true)=>?_
   have e:(i:Int)=aW (fun i=>srP c (r.f i)) r.n:=(cI hf hc hil).symm
   repeat' (first|exact e|apply And.intro|exact trivial|exact rfl|exact lz fun _=>rfl)
  ·refine fun (hc:srP c (r.f i)=false)=>?_
   have hf1:orB (fun i=>srP c (r.f i)) (i+1)=false:=by
    simp only [orB]
    rw [hf]
    exact hc
   repeat' (first|with_reducible exact b1|with_reducible exact b2|apply And.intro|exact trivial|exact rfl|exact lz fun _=>rfl)
   refine Exists.intro (i+1) ?_
   refine And.intro (And.intro hil hf1) ?_
   repeat' (first|apply And.intro|exact trivial|exact rfl|exact lz fun _=>rfl|exact S1.zz rfl)
   show r.n - (i+1) < r.n - i
   omega
 ·refine fun (h:decide ((i:Int) < (r.n:Int))=false)=>?_
  have hi1:¬ (i:Int) < (r.n:Int):=of_decide_eq_false h
  have e:i=r.n:=by omega
  have ef:-1=aW (fun i=>srP c (r.f i)) r.n:=by rw [<- e,bV hf]
  repeat' (first|exact ef|apply And.intro|exact trivial|exact rfl|exact lz fun _=>rfl)
def srS:Eng.Spec where
 X:=Sq Sr×B
 args:=srI.args
 pre:=fun x=>okS x.1 vS
 res:=srI.res
 inst:=srI.inst
theorem Jf:srS.Ok Tryz.prog 101:=by
 refine Eng.Spec.okR e101 .nil (fun _=>[(162,.p srI)]) (fun _ _=>aA.p Q3 aA.nil) ?_
 rintro ⟨r,c⟩ ⟨(hn:r.n<=1000000),(hel:∀ i,i < r.n->vS (r.f i))⟩
 refine ⟨trivial,?_⟩
 repeat' (first|exact hn|exact hel|apply And.intro|exact trivial|exact rfl|exact lz fun _=>rfl|exact S1.zz rfl)
end S11
end
section
open Go Go.Eng Go.Proofs F1 F6 F10 G7 G4 L3 L10 G1 G3 EV0 S1 S10 S11
set_option maxRecDepth 100000
namespace S12
attribute [local irreducible] lI
def g37:List Nat:=[0,1,2,3,4]
def c37:aH :=
 .seq (.region g37 [(zo 2 (.box 30 (.s 0))),(zo 3 (.box 9 (.s 1))),(zo 4 (.move (cj 0)))]) (.seq (.region g37 [(fa 5 3 2),(ld 6 5),(zo 7 (.mkfn 58 [.s 3])),(zo 8 (.call (.c (.fn 57)) [.s 6,.s 7])),(mv 4 8)]) .ret)
theorem e37:aI Tryz.prog 37 g37 [] [] []=some (c37,[.slot 4],9):=by kernel_rfl
def fdV (s:Sta) (id:B):Int:=aW (fun i=>drP id (s.doors.f i)) s.doors.n
def fdS:Eng.Spec where
 X:=Sta×B
 args:=fun x=>.cons (nR x.1) (.cons (.str x.2) .nil)
 pre:=fun x=>okS x.1.doors okD
 res:=fun x=>.int .i64 (fdV x.1 x.2)
 inst:=EV0.two sN nS
theorem C4:fdS.Ok Tryz.prog 37:=by
 refine Eng.Spec.okR e37 .nil (fun _=>[(57,.p drS)]) (fun _ _=>aA.p Gm aA.nil) ?_
 rintro ⟨s,id⟩ ⟨(hn:s.doors.n<=1000000),(hel:∀ i,i < s.doors.n->okD (s.doors.f i))⟩
 refine ⟨trivial,?_⟩
 repeat' (first|exact hn|exact hel|apply And.intro|exact trivial|exact rfl|exact lz fun _=>rfl|exact S1.zz rfl)
def g67:List Nat:=[0,1,2,3,4]
def c67:aH :=
 .seq (.region g67 [(zo 2 (.box 30 (.s 0))),(zo 3 (.box 9 (.s 1))),(zo 4 (.move (cj 0)))]) (.seq (.region g67 [(fa 5 2 2),(ld 6 5),(zo 7 (.mkfn 100 [.s 3])),(zo 8 (.call (.c (.fn 99)) [.s 6,.s 7])),(mv 4 8)]) .ret)
theorem e67:aI Tryz.prog 67 g67 [] [] []=some (c67,[.slot 4],9):=by kernel_rfl
def fbV (s:Sta) (id:B):Int:=aW (fun i=>buP id (s.buildings.f i)) s.buildings.n
def fbS:Eng.Spec where
 X:=Sta×B
 args:=fun x=>.cons (nR x.1) (.cons (.str x.2) .nil)
 pre:=fun x=>okS x.1.buildings okB
 res:=fun x=>.int .i64 (fbV x.1 x.2)
 inst:=EV0.two sN nS
theorem Sk:fbS.Ok Tryz.prog 67:=by
 refine Eng.Spec.okR e67 .nil (fun _=>[(99,.p buS)]) (fun _ _=>aA.p Gb aA.nil) ?_
 rintro ⟨s,id⟩ ⟨(hn:s.buildings.n<=1000000),(hel:∀ i,i < s.buildings.n->okB (s.buildings.f i))⟩
 refine ⟨trivial,?_⟩
 repeat' (first|exact hn|exact hel|apply And.intro|exact trivial|exact rfl|exact lz fun _=>rfl|exact S1.zz rfl)
def g68:List Nat:=[0,1,2,3,4]
def c68:aH :=
 .seq (.region g68 [(zo 2 (.box 30 (.s 0))),(zo 3 (.box 9 (.s 1))),(zo 4 (.move (cj 0)))]) (.seq (.region g68 [(fa 5 1 2),(ld 6 5),(zo 7 (.mkfn 102 [.s 3])),(zo 8 (.call (.c (.fn 101)) [.s 6,.s 7])),(mv 4 8)]) .ret)
theorem e68:aI Tryz.prog 68 g68 [] [] []=some (c68,[.slot 4],9):=by kernel_rfl
def fsV (s:Sta) (id:B):Int:=aW (fun i=>srP id (s.streets.f i)) s.streets.n
def fsS:Eng.Spec where
 X:=Sta×B
 args:=fun x=>.cons (nR x.1) (.cons (.str x.2) .nil)
 pre:=fun x=>okS x.1.streets vS
 res:=fun x=>.int .i64 (fsV x.1 x.2)
 inst:=EV0.two sN nS
theorem Sm:fsS.Ok Tryz.prog 68:=by
 refine Eng.Spec.okR e68 .nil (fun _=>[(101,.p srS)]) (fun _ _=>aA.p Jf aA.nil) ?_
 rintro ⟨s,id⟩ ⟨(hn:s.streets.n<=1000000),(hel:∀ i,i < s.streets.n->vS (s.streets.f i))⟩
 refine ⟨trivial,?_⟩
 repeat' (first|exact hn|exact hel|apply And.intro|exact trivial|exact rfl|exact lz fun _=>rfl|exact S1.zz rfl)
def g65:List Nat:=[1,0,2,6]
def c65:aH :=
 .seq (.region g65 [(zo 6 (.move cF))]) (.seq (.region g65 [(mv 7 0),(mv 8 1),(zo 9 (.bin (.geq) (.s 7) (.s 8))),(mv 10 9),(mg 11 10 true 0),(mg 12 10 true 2),(zg 13 10 true (.bin (.leq) (.s 11) (.s 12))),(zo 14 (.pick (.s 10) (.s 13) cF)),(mv 6 14)]) .ret)
theorem e65:aI Tryz.prog 65 g65 [] [] []=some (c65,[.slot 6],15):=by kernel_rfl
def Lc:Eng.Spec where
 X:=Int×Int×Int
 args:=fun x=>.cons (.int .i64 x.1) (.cons (.int .i64 x.2.1) (.cons (.int .i64 x.2.2) .nil))
 pre:=fun _=>True
 res:=fun x=>.bool (bH x.1 x.2.1 x.2.2)
 inst:=fun
  | .cons (.int _ a) (.cons (.int _ b) (.cons (.int _ c) _))=>some (a,b,c)
  | _=>none
theorem Hi:Lc.Ok Tryz.prog 65:=by
 refine Eng.Spec.okR e65 .nil (fun _=>[]) (fun _ _=>aA.nil) ?_
 rintro ⟨a,b,c⟩ _
 have e:aE (decide (b<=a)) (.s 13) cF (decide (a<=c)) false=bH a b c:=by rw [aD]; rfl
 refine ⟨trivial,?_⟩
 repeat' (first|exact e|apply And.intro|exact trivial|exact rfl|exact lz fun _=>rfl|exact S1.zz rfl)
def g44:List Nat:=[0,1,2,6]
def c44:aH :=
 .seq (.region g44 [(zo 6 (.move cF))]) (.seq (.region g44 [(mv 7 0),(zo 8 (.call (.c (.fn 65)) [.s 7,cj 0,cj 63])),(mv 9 8),(mg 10 9 true 1),(zg 11 9 true (.call (.c (.fn 65)) [.s 10,cj (-1),cj 100000])),(zo 12 (.pick (.s 9) (.s 11) cF)),(mv 13 12),(mg 14 13 true 2),(zg 15 13 true (.call (.c (.fn 65)) [.s 14,cj 0,cj 100000])),(zo 16 (.pick (.s 13) (.s 15) cF)),(mv 6 16)]) .ret)
theorem e44:aI Tryz.prog 44 g44 [] [] []=some (c44,[.slot 6],17):=by kernel_rfl
def jI (a b c:Int):Bool:=(bH a 0 63 && bH b (-1) 100000) && bH c 0 100000
def Qk:Eng.Spec where
 X:=Int×Int×Int
 args:=fun x=>.cons (.int .i64 x.1) (.cons (.int .i64 x.2.1) (.cons (.int .i64 x.2.2) .nil))
 pre:=fun _=>True
 res:=fun x=>.bool (jI x.1 x.2.1 x.2.2)
 inst:=Lc.inst
theorem Ij:Qk.Ok Tryz.prog 44:=by
 refine Eng.Spec.okR e44 .nil (fun _=>[(65,.p Lc)]) (fun _ _=>aA.p Hi aA.nil) ?_
 rintro ⟨a,b,c⟩ _
 have e:aE (aE (bH a 0 63) (.s 11) cF (bH b (-1) 100000) false) (.s 15) cF (bH c 0 100000) false=jI a b c:=by rw [aD,aD]; rfl
 refine ⟨trivial,?_⟩
 repeat' (first|exact e|apply And.intro|exact trivial|exact rfl|exact lz fun _=>rfl|exact S1.zz rfl|refine gd ?_)
def g46:List Nat:=[1,0,3,4]
def c46:aH :=
 .seq (.region g46 [(zo 3 (.box 93 (.s 1))),(zo 4 (.move cF))]) (.seq (.region g46 [(mv 5 0),(fa 6 0 3),⟨none,none,.store 1 (.s 6) (.s 5),[]⟩]) (.seq (.region g46 [(zo 7 (.load 18 true (.s 3))),(zo 8 (.call (.c (.fn 66)) [.s 7])),(mv 4 8)]) .ret))
theorem e46:aI Tryz.prog 46 g46 [] [] []=some (c46,[.slot 4],9):=by kernel_rfl
def mdV (k:Int) (e:Ev):Bool:=lI { e with kind:=k }
def mdS:Eng.Spec where
 X:=Int×Ev
 args:=fun x=>.cons (.int .i64 x.1) (.cons (evE x.2) .nil)
 pre:=fun x=>okV x.2
 res:=fun x=>.bool (mdV x.1 x.2)
 inst:=EV0.two rS evD
theorem Nk:mdS.Ok Tryz.prog 46:=by
 refine Eng.Spec.okR e46 .nil (fun _=>[(66,.p O5)]) (fun _ _=>aA.p Gz aA.nil) ?_
 rintro ⟨k,e⟩ (h:okV e)
 have h2:okV { e with kind:=k }:=⟨h.id,h.oth,h.txt,h.ids,h.names,h.num,h.path,h.list⟩
 refine ⟨trivial,?_⟩
 repeat' (first|exact h2|apply And.intro|exact trivial|exact rfl|exact lz fun _=>rfl|exact S1.zz rfl)
end S12
end
section
namespace Go.Eng
open Go Go.RowKit
def bX.ren (S:bX) (Y:Type) (post:S.X->Y->Prop) (res:S.X->Y->SV) (h1:S.X->Y->List (Nat×aG)):bX :=
 { X:=S.X,Y:=Y,args:=S.args,pre:=S.pre,h0:=S.h0,nx0:=S.nx0,post:=post,res:=res,h1:=h1,nx1:=S.nx1,fresh:=S.fresh }
def Spec.mof (S:Spec) (Y:Type) (post:S.X->Y->Prop) (res:S.X->Y->SV):bX :=
 { X:=S.X,Y:=Y,args:=S.args,pre:=S.pre,h0:=fun _=>[],nx0:=0,post:=post,res:=res,h1:=fun _ _=>[],nx1:=0,fresh:=S.fresh }
theorem Spec.Bm {P:Program} {f:Nat} {S:Spec} (h:S.Ok P f) {Y:Type} {post:S.X->Y->Prop} {res:S.X->Y->SV} (hy:∀ x,S.pre x->∃ y,post x y/\S.res x=res x y):(S.mof Y post res).Ok P f:=by
 refine ⟨h.call,?_⟩
 intro x w μ vs T U hU hg hh hp hR
 replace hh:aL (bQ w T U μ 0) μ [] 0 w:=hh
 replace hR:R (aC (bQ w T U μ 0) μ [] w) (S.args x) vs:=hR
 have hno:∀ id p,μ id≠some p:=by
  intro id p e
  by_cases hn:id < FB
  ·exact absurd (hh.nx _ _ e hn) (Nat.not_lt_zero _)
  ·obtain ⟨o,ho⟩:=hh.fam _ _ e (Nat.not_lt.1 hn)
   rw [eK] at ho
   cases ho
 have hU':∀ b,(aC (bQ w T U μ 0) μ [] w).U b->b < w.heap.size/\Plain w b:=fun b hb=>⟨hb.1,hb.2.2.2⟩
 have hR':R (eP (aC (bQ w T U μ 0) μ [] w).U w) (S.args x) vs :=
  cE (E:=aC (bQ w T U μ 0) μ [] w) (E':=eP (aC (bQ w T U μ 0) μ [] w).U w) ⟨⟨fun _ hb=>hb,fun _ _=>rfl⟩,fun id p e=>absurd e (hno id p)⟩ hR
 obtain ⟨y,py,ey⟩:=hy x hp
 refine (h.does x w vs _ hU' hg.gok hp hR').mono ?_
 intro e w' he
 cases e with
 | returned v =>
  obtain ⟨k1,k2⟩:=he
  rw [ey] at k1
  refine ⟨y,μ,py,?_,?_⟩
  ·refine ⟨⟨fun id o e=>(by cases e),fun id o e=>?_⟩,fun i i' o o' b c c' e=>?_,fun i o b c e=>?_,fun i o e=>(by cases e),hh.nx,hh.fam,fun _ _ e=>e,⟨k2.os,k2.tape,k2.output,k2.size,fun b hb _=>k2.block b hb,k2.drawn⟩⟩
   ·change hget [] id=some o at e
    rw [eK] at e; cases e
   ·change hget [] i=some o at e
    rw [eK] at e; cases e
   ·change hget [] i=some o at e
    rw [eK] at e; cases e
  ·refine cE (E:=eP (B5 S.fresh (aC (bQ w T U μ 0) μ [] w).U w w') w') (E':=aC (bQ w T (Ufresh S.fresh U) μ 0) μ [] w') ⟨⟨?_,fun _ _=>rfl⟩,fun id p e=>(by cases e)⟩ k1
   intro b hb
   rcases hb with ⟨hf,hb⟩|⟨hb1,hb2,hb3⟩
   ·refine ⟨Nat.lt_of_lt_of_le hb.1 k2.size,?_,fun id o c e=>(by change hget [] id=some o at e; rw [eK] at e; cases e),fun ds e=>hb.2.2.2 ds ((k2.block b hb.1).symm.trans e)⟩
    rcases hb.2.1 with h1|h1|h1
    ·exact .inl ⟨hf,h1⟩
    ·exact .inr (.inl h1)
    ·exact .inr (.inr h1)
   ·exact ⟨hb2,.inr (.inr hb1),fun id o c e=>(by change hget [] id=some o at e; rw [eK] at e; cases e),hb3⟩
 | panicked c=>exact he
 | outgrown=>exact he
end Go.Eng
end
section
open Go Go.Eng Go.Proofs F1 F6 F10 G7 G4 L3 L10 G1 G3 EV0 S1 S10 S11 S12
set_option maxRecDepth 100000
namespace S13
attribute [local irreducible] lI
def Sl:bX:=O5.mof Bool (fun e y=>y=lI e) (fun _ y=>.bool y)
theorem K1:Sl.Ok Tryz.prog 66:=Spec.Bm Gz (fun e _=>⟨lI e,rfl,rfl⟩)
def Lw (l:Sq Nm):Ev:={ kind:=3,day:=0,a:=0,b:=0,off:=0,id:=[120],oth:=[],txt:=[],ids:=⟨0,fun _=>[]⟩,names:=l,num:=⟨0,[],0,0⟩,pt:=(0,0),path:=⟨0,fun _=>(0,0)⟩,list:=⟨0,fun _=>⟨[],⟨0,[],0,0⟩,(0,0)⟩⟩ }
def qJ (l:Sq Nm):Bool:=decide ((l.n:Int)=0) || lI (Lw l)
def g45:List Nat:=[0,2]
def c45:aH :=
 .seq (.region g45 [(zo 2 (.move cF))]) (.seq (.region g45 [(mv 3 0),(zo 4 (.lenSl (.s 3))),(zo 5 (.bin (.eql) (.s 4) (cj 0))),(mv 6 5),(mg 7 6 false 0),(zg 8 6 false (.build zEv [(0,1,cj 3),(5,1,.c (.str [120])),(9,1,.s 7)])),(zg 9 6 false (.call (.c (.fn 66)) [.s 8])),(zo 10 (.pick (.s 6) cT (.s 9))),(mv 2 10)]) .ret)
theorem e45:aI Tryz.prog 45 g45 [] [] []=some (c45,[.slot 2],11):=by kernel_rfl
def T2:Eng.Spec where
 X:=Sq Nm
 args:=fun x=>.cons (nmE x) .nil
 pre:=fun x=>okS x okN
 res:=fun x=>.bool (qJ x)
 inst:=EV0.one nmD
theorem P7:T2.Ok Tryz.prog 45:=by
 refine Eng.Spec.okR e45 .nil (fun _=>[(66,.m Sl)]) (fun _ _=>aA.m K1 aA.nil) ?_
 rintro l ⟨(hn:l.n<=1000000),(hel:∀ i,i < l.n->okN (l.f i))⟩
 refine ⟨trivial,?_⟩
 have hv:okV (Lw l):=⟨(by decide:([120]:B).length<=1000000),(by decide:([]:B).length<=1000000),(by decide:([]:B).length<=1000000),⟨Nat.zero_le _,fun i h=>absurd h (Nat.not_lt_zero i)⟩,⟨hn,hel⟩,(by decide:([]:B).length<=1000000),Nat.zero_le _,⟨Nat.zero_le _,fun i h=>absurd h (Nat.not_lt_zero i)⟩⟩
 repeat' (first|exact hn|exact hel|apply And.intro|exact trivial|exact rfl|exact lz fun _=>rfl)
 ·refine fun (hc:decide ((l.n:Int)=0)=false)=>?_
  repeat' (first|apply And.intro|exact trivial|exact rfl|exact lz fun _=>rfl)
  refine Exists.intro (Lw l) (Exists.intro [] ?_)
  repeat' (first|exact hv|apply And.intro|exact trivial|exact rfl|exact lz fun _=>rfl)
  rintro (y:Bool) (hy:y=lI (Lw l))
  have e1:aE (decide ((l.n:Int)=0)) cT (.s 9) true y=qJ l:=by unfold qJ; rw [aF,hy]
  have e2:y=qJ l:=by unfold qJ; rw [hc,hy]; rfl
  repeat' (first|exact e1|exact e2|apply And.intro|exact trivial|exact rfl|exact lz fun _=>rfl)
 ·refine fun (hc:decide ((l.n:Int)=0)=!false)=>?_
  have e1:true=qJ l:=by unfold qJ; rw [hc]; rfl
  repeat' (first|exact e1|exact hc|apply And.intro|exact trivial|exact rfl|exact lz fun _=>rfl)
end S13
end
