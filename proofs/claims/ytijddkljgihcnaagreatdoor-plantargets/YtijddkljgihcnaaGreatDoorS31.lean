/- A part of the proof. -/
import Derived.Test.YtijddkljgihcnaaGreatDoorS30
import Derived.Test.YtijddkljgihcnaaGreatDoorS20
open Go Go.Eng Go.Proofs F1 F2 F5 F6 F10 G7 G4 L3 L10 G1 G3 EV0 S1 S10 S11 S12 S13 S14 S15 S16 S17 S18 S19 S20 S30
set_option maxRecDepth 100000
namespace S31
def hn0:Hn:=⟨0,[],0,0⟩
def pt0:Pts:=⟨0,fun _=>(0,0)⟩
def evX (id oth txt:B) (a off:Int) (num:Hn) (pt:Pt) (path:Pts):Ev:={ kind:=0,day:=0,a:=a,b:=0,off:=off,id:=id,oth:=oth,txt:=txt,ids:=⟨0,fun _=>[]⟩,names:=⟨0,fun _=>⟨[],0,[]⟩⟩,num:=num,pt:=pt,path:=path,list:=⟨0,fun _=>⟨[],⟨0,[],0,0⟩,(0,0)⟩⟩ }
def N3:SV->Option (Nat×(Nat->SV))
 | .slice _ n enc=>some (n,enc)
 | .slit _ els=>some (els.len,aJ els)
 | .nilsl=>some (0,fun _=>.nil)
 | _=>none
def Sg {T:Type} (g:SV->T) (s:SV):Option (Sq T):=match N3 s with
 | some (n,enc)=>some ⟨n,fun i=>g (enc i)⟩
 | none=>none
def Vw (s:SV):Option Pts:=match N3 s with
 | some (n,enc)=>some ⟨n,fun i=>(aP (aJ (enc i) 0),aP (aJ (enc i) 1))⟩
 | none=>none
def W0:SV->Option Ev
 | .agg c=>match Sg (fun c=>bH (aJ c 0)) (aJ c 8),Sg (fun c=>(⟨bH (aJ c 0),aP (aJ c 1),bH (aJ c 2)⟩:Nm)) (aJ c 9),Vw (aJ c 16),Sg (fun c=>(⟨bH (aJ c 0),hnA c 1,(aP (aJ c 5),aP (aJ c 6))⟩:En)) (aJ c 17) with
  | some i,some n,some p,some l=>some ⟨aP (aJ c 0),aP (aJ c 1),aP (aJ c 2),aP (aJ c 3),aP (aJ c 4),bH (aJ c 5),bH (aJ c 6),bH (aJ c 7),i,n,hnA c 10,(aP (aJ c 14),aP (aJ c 15)),p,l⟩
  | _,_,_,_=>none
 | _=>none
def mdN:Eng.Spec where
 X:=Int×Ev
 args:=fun x=>.cons (.int .i64 x.1) (.cons (evE x.2) .nil)
 pre:=fun x=>okV x.2
 res:=fun x=>.bool (mdV x.1 x.2)
 inst:=EV0.two tY W0
theorem I7:mdN.Ok Tryz.prog 46:=⟨Ou.call,Ou.does⟩
theorem cR:okT []:=Nat.zero_le _
theorem pH {id oth txt:B} {a off:Int} {num:Hn} {pt:Pt} {path:Pts} (h1:okT id) (h2:okT oth) (h3:okT txt) (h4:okT num.l) (h5:path.n<=1000000):okV (evX id oth txt a off num pt path) :=
 ⟨h1,h2,h3,⟨Nat.zero_le _,fun i h=>absurd h (Nat.not_lt_zero i)⟩,⟨Nat.zero_le _,fun i h=>absurd h (Nat.not_lt_zero i)⟩,h4,h5,⟨Nat.zero_le _,fun i h=>absurd h (Nat.not_lt_zero i)⟩⟩
theorem H6 (s:Sta) (d:B):fdV s d < (s.doors.n:Int):=lR _ _
theorem N9 (s:Sta) (d:B):fbV s d < (s.buildings.n:Int):=lR _ _
theorem Ob (s:Sta) (d:B):fsV s d < (s.streets.n:Int):=lR _ _
theorem R7 {s:Sta} (h:kJ s):(q5 s).n<=10000000:=by
 have n1:=h.regions.1
 have n2:=h.streets.1
 have n3:=h.buildings.1
 have n4:=h.doors.1
 have n5:=h.units.1
 have c0:q0.n=0:=rfl
 have c1:(q1 s).n=q0.n+s.regions.n:=rfl
 have c2:(q2 s).n=(q1 s).n+s.streets.n:=rfl
 have c3:(q3 s).n=(q2 s).n+s.buildings.n:=rfl
 have c4:(q4 s).n=(q3 s).n+s.doors.n:=rfl
 have c5:(q5 s).n=(q4 s).n+s.units.n:=rfl
 omega
def afB (s:Sta) (i:Nat) (j:Nat):Bool:=decide (fdV s ((s.doors.f i).after.f j)<=(i:Int))
def sI (d:Dr) (w:Int):Bool :=
 if w=12 then decide ((d.after.n:Int)=0) else if w=11 then decide ((d.after.n:Int)=0) && decide (d.veil=[]) else
 if w=9 then bI (d.after.n:Int) 2 8 && decide (d.veil=[]) else if w=10 then decide ((d.after.n:Int)=1) && decide (d.veil=[]) else false
abbrev MS:=List (aK×SV×Nat)
structure xU (d:Dr) (x:MS×Nat):Prop where
 hit:∀ k v t,mget x.1 (.i .i64 k)=some (v,t)->v=.bool (sI d k)
 miss:∀ k,mget x.1 (.i .i64 k)=none->sI d k=false
theorem xU.look {d:Dr} {x:MS×Nat} (h:xU d x) {k:Int} {Q:SV->Nat->Prop} {R:Prop} (h1:∀ (b:Bool) (t:Nat),b=sI d k->Q (.bool b) t) (h2:sI d k=false->R):dC x.1 (.i .i64 k) Q R :=
 ⟨fun v t hm=>by rw [h.hit k v t hm]; exact h1 _ t rfl,fun hm=>h2 (h.miss k hm)⟩
theorem bR {l l':MS} (h:l=l') (hb:∀ x∈l',∃ b,x.2.1=.bool b) (k:Keep) (hp:List (Nat×aG)) (m:Nat):∀ (i:Nat) (x y:aK×SV×Nat),l[i]?=some x->l'[i]?=some y->x.1=y.1/\x.2.2=y.2.2/\sub k hp (m+1) (id x.2.1) (id y.2.1):=by
 subst h
 intro i x y hx hy
 rw [hx] at hy
 cases hy
 obtain ⟨b,e⟩:=hb x (List.mem_of_getElem? hx)
 refine ⟨rfl,rfl,?_⟩
 show sub k hp (m+1) x.2.1 x.2.1
 rw [e]
 rfl
theorem xU.look1 {d:Dr} {x:MS×Nat} (h:xU d x) {k:Int} {P:SV->Prop} (h1:∀ b:Bool,b=sI d k->P (.bool b)):dC x.1 (.i .i64 k) (fun v _=>P v) (P (.bool false)) :=
 ⟨fun v t hm=>by rw [h.hit k v t hm]; exact h1 _ rfl,fun hm=>h1 false (h.miss k hm).symm⟩
def stA (s:Sta) (i:Nat):Bool:=((!decide (decide ((s.doors.f i).ended=-1)=decide ((s.doors.f i).why=0)) || (decide ((s.doors.f i).ended=-1) && decide ((0:Int) < ((s.doors.f i).after.n:Int)))) || (!decide ((s.doors.f i).ended=-1) && !sI (s.doors.f i) (s.doors.f i).why)) || !lW (s.doors.f i).after
def Cw (d:Dr):Ev:=evX d.id [] d.veil 0 d.office hn0 (0,0) pt0
def Lw (d:Dr):Ev:=evX d.id d.bld d.str 0 0 d.num d.pt pt0
def stH (d:Dr):Bool:=(((decide (d.bld=[]) && decide (d.str=[])) && (decide (d.num.n=0) && (decide (d.num.l=[]) && (decide (d.num.num=0) && (decide (d.num.den=0) && true))))) && (decide (d.pt.1=0) && (decide (d.pt.2=0) && true))) && mdV 15 (Cw d)
def stB (s:Sta) (d:Dr):Bool:=((!decide (d.office=0) || decide (fbV s d.bld < 0)) || decide (fsV s d.str < 0)) || (decide (d.ended=-1) && (!decide ((s.buildings.f (fbV s d.bld).toNat).ended=-1) || !decide ((s.streets.f (fsV s d.str).toNat).ended=-1)))
def dW (s:Sta) (i:Nat):Bool:=!orB (afB s i) (s.doors.f i).after.n && (!stA s i && (if (s.doors.f i).veil=[] then !stB s (s.doors.f i) && mdV 6 (Lw (s.doors.f i)) else stH (s.doors.f i)))
attribute [local irreducible] mdV lW fdV fbV fsV bI
def g47:List Nat:=[0,23,25,22,8,1,32,24,9,10,90,93,6,11,2,12,163,5,4]
def c47:aH :=
 .seq (.region g47 [(zo 2 (.box 30 (.s 0))),(zo 4 (.move cF))]) (.seq (.region g47 [(fa 13 3 2),(ld 14 13),(mv 15 1),(zo 16 (.idxSl 16 (.s 14) (.s 15))),(zo 17 (.load 16 true (.s 16))),(zo 5 (.alloc 55 (.cons (.str []) (.cons (.str []) (.cons (.str []) (.cons (.int .i64 0) (.cons (.int .i64 0) (.cons (.str []) (.cons (.int .i64 0) (.cons (.int .i64 0) (.cons (.int .i64 0) (.cons (.int .i64 0) (.cons (.int .i64 0) (.cons (.int .i64 0) (.cons (.nilsl) (.cons (.int .i64 0) (.cons (.int .i64 0) (.cons (.str []) .nil)))))))))))))))))),⟨none,none,.store 16 (.s 5) (.s 17),[]⟩]) (.seq (.region g47 [(fa 18 11 5),(ld 19 18),(zo 20 (.bin (.eql) (.s 19) (cj (-1)))),(mv 6 20)]) (.seq (.seq (.region g47 [(fa 21 12 5),(ld 22 21),(zo 23 (.lenSl (.s 22))),(zo 24 (.move (cj 0)))]) (.block 0 (.loop 0 [25,26,27,8,28,29,30,31,32,4,33,24] (.seq (.region g47 [(zo 25 (.bin (.lss) (.s 24) (.s 23)))]) (.seq (.cond (.s 25) .skip (.exit 0)) (.seq (.block 1 (.seq (.region g47 [(zo 26 (.idxSl 1 (.s 22) (.s 24))),(ld 27 26),(mv 8 27)]) (.seq (.region g47 [(zo 28 (.load 7 true (.s 2))),(mv 29 8),(zo 30 (.call (.c (.fn 37)) [.s 28,.s 29])),(mv 31 1),(zo 32 (.bin (.leq) (.s 30) (.s 31)))]) (.cond (.s 32) (.seq (.region g47 [(zo 4 (.move cF))]) .ret) .skip)))) (.region g47 [(zo 33 (.bin (.add) (.s 24) (cj 1))),(mv 24 33)]))))))) (.seq (.region g47 [(fa 34 12 5),(ld 35 34),(zo 36 (.lenSl (.s 35))),(mv 9 36)]) (.seq (.join 1 [37,38,39,40,41,42,43,44,45,46,47,48,49,50,51,52,53,54,55,56,57,58,59,60,61,10] (.drawn g47 (.pure 1 (mv 38 9) (.pure 2 (zo 39 (.bin (.eql) (.s 38) (cj 0))) (.pure 4 (mv 40 9) (.pure 5 (zo 41 (.bin (.eql) (.s 40) (cj 0))) (.pure 6 (mv 42 41) (.pure 7 (fg 43 42 true 15 5) (.pure 8 (lg 44 42 true 43) (.pure 9 (zg 45 42 true (.bin (.eql) (.s 44) (.c (.str [])))) (.pure 10 (zo 46 (.pick (.s 42) (.s 45) cF)) (.pure 12 (mv 47 9) (.pure 13 (zo 48 (.call (.c (.fn 65)) [.s 47,cj 2,cj 8])) (.pure 14 (mv 49 48) (.pure 15 (fg 50 49 true 15 5) (.pure 16 (lg 51 49 true 50) (.pure 17 (zg 52 49 true (.bin (.eql) (.s 51) (.c (.str [])))) (.pure 18 (zo 53 (.pick (.s 49) (.s 52) cF)) (.pure 20 (mv 54 9) (.pure 21 (zo 55 (.bin (.eql) (.s 54) (cj 1))) (.pure 22 (mv 56 55) (.pure 23 (fg 57 56 true 15 5) (.pure 24 (lg 58 56 true 57) (.pure 25 (zg 59 56 true (.bin (.eql) (.s 58) (.c (.str [])))) (.pure 26 (zo 60 (.pick (.s 56) (.s 59) cF)) (.eff 0 (zo 37 (.mkmap (.i .i64))) [(lg 58 56 true 57),(lg 51 49 true 50),(zo 48 (.call (.c (.fn 65)) [.s 47,cj 2,cj 8])),(lg 44 42 true 43)] (.eff 3 ⟨none,none,.mupd (.i .i64) (.s 37) (cj 12) (.s 39),[]⟩ [(lg 58 56 true 57),(lg 51 49 true 50),(zo 48 (.call (.c (.fn 65)) [.s 47,cj 2,cj 8])),(lg 44 42 true 43)] (.eff 11 ⟨none,none,.mupd (.i .i64) (.s 37) (cj 11) (.s 46),[]⟩ [(lg 58 56 true 57),(lg 51 49 true 50),(zo 48 (.call (.c (.fn 65)) [.s 47,cj 2,cj 8]))] (.eff 19 ⟨none,none,.mupd (.i .i64) (.s 37) (cj 9) (.s 53),[]⟩ [(lg 58 56 true 57),(lg 44 42 true 43)] (.eff 27 ⟨none,none,.mupd (.i .i64) (.s 37) (cj 10) (.s 60),[]⟩ [(lg 51 49 true 50),(lg 44 42 true 43)] (.pure 28 (mv 61 37) (.pure 29 (mv 10 61) .done)) .none) (.eff 27 ⟨none,none,.mupd (.i .i64) (.s 37) (cj 10) (.s 60),[]⟩ [(lg 51 49 true 50),(lg 44 42 true 43)] (.eff 19 ⟨none,none,.mupd (.i .i64) (.s 37) (cj 9) (.s 53),[]⟩ [(lg 58 56 true 57),(lg 44 42 true 43)] (.pure 28 (mv 61 37) (.pure 29 (mv 10 61) .done)) .none) .none)) (.eff 19 ⟨none,none,.mupd (.i .i64) (.s 37) (cj 9) (.s 53),[]⟩ [(lg 58 56 true 57),(lg 44 42 true 43)] (.eff 11 ⟨none,none,.mupd (.i .i64) (.s 37) (cj 11) (.s 46),[]⟩ [(lg 58 56 true 57),(lg 51 49 true 50),(zo 48 (.call (.c (.fn 65)) [.s 47,cj 2,cj 8]))] (.eff 27 ⟨none,none,.mupd (.i .i64) (.s 37) (cj 10) (.s 60),[]⟩ [(lg 51 49 true 50),(lg 44 42 true 43)] (.pure 28 (mv 61 37) (.pure 29 (mv 10 61) .done)) .none) (.eff 27 ⟨none,none,.mupd (.i .i64) (.s 37) (cj 10) (.s 60),[]⟩ [(lg 51 49 true 50),(lg 44 42 true 43)] (.eff 11 ⟨none,none,.mupd (.i .i64) (.s 37) (cj 11) (.s 46),[]⟩ [(lg 58 56 true 57),(lg 51 49 true 50),(zo 48 (.call (.c (.fn 65)) [.s 47,cj 2,cj 8]))] (.pure 28 (mv 61 37) (.pure 29 (mv 10 61) .done)) .none) .none)) (.eff 27 ⟨none,none,.mupd (.i .i64) (.s 37) (cj 10) (.s 60),[]⟩ [(lg 51 49 true 50),(lg 44 42 true 43)] (.eff 11 ⟨none,none,.mupd (.i .i64) (.s 37) (cj 11) (.s 46),[]⟩ [(lg 58 56 true 57),(lg 51 49 true 50),(zo 48 (.call (.c (.fn 65)) [.s 47,cj 2,cj 8]))] (.eff 19 ⟨none,none,.mupd (.i .i64) (.s 37) (cj 9) (.s 53),[]⟩ [(lg 58 56 true 57),(lg 44 42 true 43)] (.pure 28 (mv 61 37) (.pure 29 (mv 10 61) .done)) .none) (.eff 19 ⟨none,none,.mupd (.i .i64) (.s 37) (cj 9) (.s 53),[]⟩ [(lg 58 56 true 57),(lg 44 42 true 43)] (.eff 11 ⟨none,none,.mupd (.i .i64) (.s 37) (cj 11) (.s 46),[]⟩ [(lg 58 56 true 57),(lg 51 49 true 50),(zo 48 (.call (.c (.fn 65)) [.s 47,cj 2,cj 8]))] (.pure 28 (mv 61 37) (.pure 29 (mv 10 61) .done)) .none) .none)) .none))) (.eff 11 ⟨none,none,.mupd (.i .i64) (.s 37) (cj 11) (.s 46),[]⟩ [(lg 58 56 true 57),(lg 51 49 true 50),(zo 48 (.call (.c (.fn 65)) [.s 47,cj 2,cj 8]))] (.eff 3 ⟨none,none,.mupd (.i .i64) (.s 37) (cj 12) (.s 39),[]⟩ [(lg 58 56 true 57),(lg 51 49 true 50),(zo 48 (.call (.c (.fn 65)) [.s 47,cj 2,cj 8])),(lg 44 42 true 43)] (.eff 19 ⟨none,none,.mupd (.i .i64) (.s 37) (cj 9) (.s 53),[]⟩ [(lg 58 56 true 57),(lg 44 42 true 43)] (.eff 27 ⟨none,none,.mupd (.i .i64) (.s 37) (cj 10) (.s 60),[]⟩ [(lg 51 49 true 50),(lg 44 42 true 43)] (.pure 28 (mv 61 37) (.pure 29 (mv 10 61) .done)) .none) (.eff 27 ⟨none,none,.mupd (.i .i64) (.s 37) (cj 10) (.s 60),[]⟩ [(lg 51 49 true 50),(lg 44 42 true 43)] (.eff 19 ⟨none,none,.mupd (.i .i64) (.s 37) (cj 9) (.s 53),[]⟩ [(lg 58 56 true 57),(lg 44 42 true 43)] (.pure 28 (mv 61 37) (.pure 29 (mv 10 61) .done)) .none) .none)) (.eff 19 ⟨none,none,.mupd (.i .i64) (.s 37) (cj 9) (.s 53),[]⟩ [(lg 58 56 true 57),(lg 44 42 true 43)] (.eff 3 ⟨none,none,.mupd (.i .i64) (.s 37) (cj 12) (.s 39),[]⟩ [(lg 58 56 true 57),(lg 51 49 true 50),(zo 48 (.call (.c (.fn 65)) [.s 47,cj 2,cj 8])),(lg 44 42 true 43)] (.eff 27 ⟨none,none,.mupd (.i .i64) (.s 37) (cj 10) (.s 60),[]⟩ [(lg 51 49 true 50),(lg 44 42 true 43)] (.pure 28 (mv 61 37) (.pure 29 (mv 10 61) .done)) .none) (.eff 27 ⟨none,none,.mupd (.i .i64) (.s 37) (cj 10) (.s 60),[]⟩ [(lg 51 49 true 50),(lg 44 42 true 43)] (.eff 3 ⟨none,none,.mupd (.i .i64) (.s 37) (cj 12) (.s 39),[]⟩ [(lg 58 56 true 57),(lg 51 49 true 50),(zo 48 (.call (.c (.fn 65)) [.s 47,cj 2,cj 8])),(lg 44 42 true 43)] (.pure 28 (mv 61 37) (.pure 29 (mv 10 61) .done)) .none) .none)) (.eff 27 ⟨none,none,.mupd (.i .i64) (.s 37) (cj 10) (.s 60),[]⟩ [(lg 51 49 true 50),(lg 44 42 true 43)] (.eff 3 ⟨none,none,.mupd (.i .i64) (.s 37) (cj 12) (.s 39),[]⟩ [(lg 58 56 true 57),(lg 51 49 true 50),(zo 48 (.call (.c (.fn 65)) [.s 47,cj 2,cj 8])),(lg 44 42 true 43)] (.eff 19 ⟨none,none,.mupd (.i .i64) (.s 37) (cj 9) (.s 53),[]⟩ [(lg 58 56 true 57),(lg 44 42 true 43)] (.pure 28 (mv 61 37) (.pure 29 (mv 10 61) .done)) .none) (.eff 19 ⟨none,none,.mupd (.i .i64) (.s 37) (cj 9) (.s 53),[]⟩ [(lg 58 56 true 57),(lg 44 42 true 43)] (.eff 3 ⟨none,none,.mupd (.i .i64) (.s 37) (cj 12) (.s 39),[]⟩ [(lg 58 56 true 57),(lg 51 49 true 50),(zo 48 (.call (.c (.fn 65)) [.s 47,cj 2,cj 8])),(lg 44 42 true 43)] (.pure 28 (mv 61 37) (.pure 29 (mv 10 61) .done)) .none) .none)) .none))) (.eff 19 ⟨none,none,.mupd (.i .i64) (.s 37) (cj 9) (.s 53),[]⟩ [(lg 58 56 true 57),(lg 44 42 true 43)] (.eff 3 ⟨none,none,.mupd (.i .i64) (.s 37) (cj 12) (.s 39),[]⟩ [(lg 58 56 true 57),(lg 51 49 true 50),(zo 48 (.call (.c (.fn 65)) [.s 47,cj 2,cj 8])),(lg 44 42 true 43)] (.eff 11 ⟨none,none,.mupd (.i .i64) (.s 37) (cj 11) (.s 46),[]⟩ [(lg 58 56 true 57),(lg 51 49 true 50),(zo 48 (.call (.c (.fn 65)) [.s 47,cj 2,cj 8]))] (.eff 27 ⟨none,none,.mupd (.i .i64) (.s 37) (cj 10) (.s 60),[]⟩ [(lg 51 49 true 50),(lg 44 42 true 43)] (.pure 28 (mv 61 37) (.pure 29 (mv 10 61) .done)) .none) (.eff 27 ⟨none,none,.mupd (.i .i64) (.s 37) (cj 10) (.s 60),[]⟩ [(lg 51 49 true 50),(lg 44 42 true 43)] (.eff 11 ⟨none,none,.mupd (.i .i64) (.s 37) (cj 11) (.s 46),[]⟩ [(lg 58 56 true 57),(lg 51 49 true 50),(zo 48 (.call (.c (.fn 65)) [.s 47,cj 2,cj 8]))] (.pure 28 (mv 61 37) (.pure 29 (mv 10 61) .done)) .none) .none)) (.eff 11 ⟨none,none,.mupd (.i .i64) (.s 37) (cj 11) (.s 46),[]⟩ [(lg 58 56 true 57),(lg 51 49 true 50),(zo 48 (.call (.c (.fn 65)) [.s 47,cj 2,cj 8]))] (.eff 3 ⟨none,none,.mupd (.i .i64) (.s 37) (cj 12) (.s 39),[]⟩ [(lg 58 56 true 57),(lg 51 49 true 50),(zo 48 (.call (.c (.fn 65)) [.s 47,cj 2,cj 8])),(lg 44 42 true 43)] (.eff 27 ⟨none,none,.mupd (.i .i64) (.s 37) (cj 10) (.s 60),[]⟩ [(lg 51 49 true 50),(lg 44 42 true 43)] (.pure 28 (mv 61 37) (.pure 29 (mv 10 61) .done)) .none) (.eff 27 ⟨none,none,.mupd (.i .i64) (.s 37) (cj 10) (.s 60),[]⟩ [(lg 51 49 true 50),(lg 44 42 true 43)] (.eff 3 ⟨none,none,.mupd (.i .i64) (.s 37) (cj 12) (.s 39),[]⟩ [(lg 58 56 true 57),(lg 51 49 true 50),(zo 48 (.call (.c (.fn 65)) [.s 47,cj 2,cj 8])),(lg 44 42 true 43)] (.pure 28 (mv 61 37) (.pure 29 (mv 10 61) .done)) .none) .none)) (.eff 27 ⟨none,none,.mupd (.i .i64) (.s 37) (cj 10) (.s 60),[]⟩ [(lg 51 49 true 50),(lg 44 42 true 43)] (.eff 3 ⟨none,none,.mupd (.i .i64) (.s 37) (cj 12) (.s 39),[]⟩ [(lg 58 56 true 57),(lg 51 49 true 50),(zo 48 (.call (.c (.fn 65)) [.s 47,cj 2,cj 8])),(lg 44 42 true 43)] (.eff 11 ⟨none,none,.mupd (.i .i64) (.s 37) (cj 11) (.s 46),[]⟩ [(lg 58 56 true 57),(lg 51 49 true 50),(zo 48 (.call (.c (.fn 65)) [.s 47,cj 2,cj 8]))] (.pure 28 (mv 61 37) (.pure 29 (mv 10 61) .done)) .none) (.eff 11 ⟨none,none,.mupd (.i .i64) (.s 37) (cj 11) (.s 46),[]⟩ [(lg 58 56 true 57),(lg 51 49 true 50),(zo 48 (.call (.c (.fn 65)) [.s 47,cj 2,cj 8]))] (.eff 3 ⟨none,none,.mupd (.i .i64) (.s 37) (cj 12) (.s 39),[]⟩ [(lg 58 56 true 57),(lg 51 49 true 50),(zo 48 (.call (.c (.fn 65)) [.s 47,cj 2,cj 8])),(lg 44 42 true 43)] (.pure 28 (mv 61 37) (.pure 29 (mv 10 61) .done)) .none) .none)) .none))) (.eff 27 ⟨none,none,.mupd (.i .i64) (.s 37) (cj 10) (.s 60),[]⟩ [(lg 51 49 true 50),(lg 44 42 true 43)] (.eff 3 ⟨none,none,.mupd (.i .i64) (.s 37) (cj 12) (.s 39),[]⟩ [(lg 58 56 true 57),(lg 51 49 true 50),(zo 48 (.call (.c (.fn 65)) [.s 47,cj 2,cj 8])),(lg 44 42 true 43)] (.eff 11 ⟨none,none,.mupd (.i .i64) (.s 37) (cj 11) (.s 46),[]⟩ [(lg 58 56 true 57),(lg 51 49 true 50),(zo 48 (.call (.c (.fn 65)) [.s 47,cj 2,cj 8]))] (.eff 19 ⟨none,none,.mupd (.i .i64) (.s 37) (cj 9) (.s 53),[]⟩ [(lg 58 56 true 57),(lg 44 42 true 43)] (.pure 28 (mv 61 37) (.pure 29 (mv 10 61) .done)) .none) (.eff 19 ⟨none,none,.mupd (.i .i64) (.s 37) (cj 9) (.s 53),[]⟩ [(lg 58 56 true 57),(lg 44 42 true 43)] (.eff 11 ⟨none,none,.mupd (.i .i64) (.s 37) (cj 11) (.s 46),[]⟩ [(lg 58 56 true 57),(lg 51 49 true 50),(zo 48 (.call (.c (.fn 65)) [.s 47,cj 2,cj 8]))] (.pure 28 (mv 61 37) (.pure 29 (mv 10 61) .done)) .none) .none)) (.eff 11 ⟨none,none,.mupd (.i .i64) (.s 37) (cj 11) (.s 46),[]⟩ [(lg 58 56 true 57),(lg 51 49 true 50),(zo 48 (.call (.c (.fn 65)) [.s 47,cj 2,cj 8]))] (.eff 3 ⟨none,none,.mupd (.i .i64) (.s 37) (cj 12) (.s 39),[]⟩ [(lg 58 56 true 57),(lg 51 49 true 50),(zo 48 (.call (.c (.fn 65)) [.s 47,cj 2,cj 8])),(lg 44 42 true 43)] (.eff 19 ⟨none,none,.mupd (.i .i64) (.s 37) (cj 9) (.s 53),[]⟩ [(lg 58 56 true 57),(lg 44 42 true 43)] (.pure 28 (mv 61 37) (.pure 29 (mv 10 61) .done)) .none) (.eff 19 ⟨none,none,.mupd (.i .i64) (.s 37) (cj 9) (.s 53),[]⟩ [(lg 58 56 true 57),(lg 44 42 true 43)] (.eff 3 ⟨none,none,.mupd (.i .i64) (.s 37) (cj 12) (.s 39),[]⟩ [(lg 58 56 true 57),(lg 51 49 true 50),(zo 48 (.call (.c (.fn 65)) [.s 47,cj 2,cj 8])),(lg 44 42 true 43)] (.pure 28 (mv 61 37) (.pure 29 (mv 10 61) .done)) .none) .none)) (.eff 19 ⟨none,none,.mupd (.i .i64) (.s 37) (cj 9) (.s 53),[]⟩ [(lg 58 56 true 57),(lg 44 42 true 43)] (.eff 3 ⟨none,none,.mupd (.i .i64) (.s 37) (cj 12) (.s 39),[]⟩ [(lg 58 56 true 57),(lg 51 49 true 50),(zo 48 (.call (.c (.fn 65)) [.s 47,cj 2,cj 8])),(lg 44 42 true 43)] (.eff 11 ⟨none,none,.mupd (.i .i64) (.s 37) (cj 11) (.s 46),[]⟩ [(lg 58 56 true 57),(lg 51 49 true 50),(zo 48 (.call (.c (.fn 65)) [.s 47,cj 2,cj 8]))] (.pure 28 (mv 61 37) (.pure 29 (mv 10 61) .done)) .none) (.eff 11 ⟨none,none,.mupd (.i .i64) (.s 37) (cj 11) (.s 46),[]⟩ [(lg 58 56 true 57),(lg 51 49 true 50),(zo 48 (.call (.c (.fn 65)) [.s 47,cj 2,cj 8]))] (.eff 3 ⟨none,none,.mupd (.i .i64) (.s 37) (cj 12) (.s 39),[]⟩ [(lg 58 56 true 57),(lg 51 49 true 50),(zo 48 (.call (.c (.fn 65)) [.s 47,cj 2,cj 8])),(lg 44 42 true 43)] (.pure 28 (mv 61 37) (.pure 29 (mv 10 61) .done)) .none) .none)) .none))) .none)))) .none)))))))))))))))))))))))))) (.seq (.seq (.region g47 [(mv 62 6),(fa 63 13 5),(ld 64 63),(zo 65 (.bin (.eql) (.s 64) (cj 0))),(zo 66 (.eqB true (.s 62) (.s 65))),(mv 67 66),(mg 68 67 false 6),(mg 69 67 false 68),(mg 70 69 true 9),(zg 71 69 true (.bin (.gtr) (.s 70) (cj 0))),(zg 72 67 false (.pick (.s 69) (.s 71) cF)),(zo 73 (.pick (.s 67) cT (.s 72))),(mv 74 73),(mg 75 74 false 6),(zg 76 74 false (.not (.s 75))),(mg 77 74 false 76),(mg 78 77 true 10),(fg 79 77 true 13 5),(lg 80 77 true 79),(zg 81 77 true (.mlook (.bool false) false (.i .i64) (.s 78) (.s 80))),(zg 82 77 true (.not (.s 81))),(zg 83 74 false (.pick (.s 77) (.s 82) cF)),(zo 84 (.pick (.s 74) cT (.s 83))),(mv 85 84),(fg 86 85 false 12 5),(lg 87 85 false 86),(zg 88 85 false (.call (.c (.fn 48)) [.s 87])),(zg 89 85 false (.not (.s 88))),(zo 90 (.pick (.s 85) cT (.s 89)))]) (.cond (.s 90) (.seq (.region g47 [(zo 4 (.move cF))]) .ret) .skip)) (.seq (.seq (.region g47 [(fa 91 15 5),(ld 92 91),(zo 93 (.bin (.neq) (.s 92) (.c (.str []))))]) (.cond (.s 93) (.seq (.region g47 [(fa 94 1 5),(ld 95 94),(zo 96 (.bin (.eql) (.s 95) (.c (.str [])))),(mv 97 96),(fg 98 97 true 2 5),(lg 99 97 true 98),(zg 100 97 true (.bin (.eql) (.s 99) (.c (.str [])))),(zo 101 (.pick (.s 97) (.s 100) cF)),(mv 102 101),(fg 103 102 true 4 5),(zg 104 102 true (.load 4 true (.s 103))),(zg 105 102 true (.build zHn [])),(zg 106 102 true (.eqS false [(0,1),(1,2),(2,1),(3,1)] (.s 104) (.s 105))),(zo 107 (.pick (.s 102) (.s 106) cF)),(mv 108 107),(fg 109 108 true 8 5),(zg 110 108 true (.load 2 true (.s 109))),(zg 111 108 true (.build zPt [])),(zg 112 108 true (.eqS false [(0,1),(1,1)] (.s 110) (.s 111))),(zo 113 (.pick (.s 108) (.s 112) cF)),(mv 114 113),(fg 115 114 true 0 5),(lg 116 114 true 115),(fg 117 114 true 14 5),(lg 118 114 true 117),(fg 119 114 true 15 5),(lg 120 114 true 119),(zg 121 114 true (.build zEv [(5,1,.s 116),(4,1,.s 118),(7,1,.s 120)])),(zg 122 114 true (.call (.c (.fn 46)) [cj 15,.s 121])),(zo 123 (.pick (.s 114) (.s 122) cF)),(mv 4 123)]) .ret) .skip)) (.seq (.drawn g47 (.pure 0 (zo 124 (.load 7 true (.s 2))) (.pure 1 (fa 125 1 5) (.pure 2 (ld 126 125) (.pure 3 (zo 127 (.call (.c (.fn 67)) [.s 124,.s 126])) (.pure 4 (zo 128 (.load 7 true (.s 2))) (.pure 5 (fa 129 2 5) (.pure 6 (ld 130 129) (.pure 7 (zo 131 (.call (.c (.fn 68)) [.s 128,.s 130])) (.pure 8 (mv 11 127) (.pure 9 (mv 12 131) .done))))))))))) (.seq (.seq (.region g47 [(fa 132 14 5),(ld 133 132),(zo 134 (.bin (.neq) (.s 133) (cj 0))),(mv 135 134),(mg 136 135 false 11),(zg 137 135 false (.bin (.lss) (.s 136) (cj 0))),(zo 138 (.pick (.s 135) cT (.s 137))),(mv 139 138),(mg 140 139 false 12),(zg 141 139 false (.bin (.lss) (.s 140) (cj 0))),(zo 142 (.pick (.s 139) cT (.s 141))),(mv 143 142),(mg 144 143 false 6),(mg 145 143 false 144),(fg 146 145 true 2 2),(lg 147 145 true 146),(mg 148 145 true 11),(zg 149 145 true (.idxSl 4 (.s 147) (.s 148))),(fg 150 145 true 3 149),(lg 151 145 true 150),(zg 152 145 true (.bin (.neq) (.s 151) (cj (-1)))),(mg 153 145 true 152),(fg 154 153 false 1 2),(lg 155 153 false 154),(mg 156 153 false 12),(zg 157 153 false (.idxSl 5 (.s 155) (.s 156))),(fg 158 153 false 4 157),(lg 159 153 false 158),(zg 160 153 false (.bin (.neq) (.s 159) (cj (-1)))),(zg 161 145 true (.pick (.s 153) cT (.s 160))),(zg 162 143 false (.pick (.s 145) (.s 161) cF)),(zo 163 (.pick (.s 143) cT (.s 162)))]) (.cond (.s 163) (.seq (.region g47 [(zo 4 (.move cF))]) .ret) .skip)) (.seq (.region g47 [(fa 164 0 5),(ld 165 164),(fa 166 1 5),(ld 167 166),(fa 168 2 5),(ld 169 168),(fa 170 4 5),(zo 171 (.load 4 true (.s 170))),(fa 172 8 5),(zo 173 (.load 2 true (.s 172))),(zo 174 (.build zEv [(5,1,.s 165),(6,1,.s 167),(7,1,.s 169),(10,4,.s 171),(14,2,.s 173)])),(zo 175 (.call (.c (.fn 46)) [cj 6,.s 174])),(mv 4 175)]) .ret))))))))))
theorem e47:aI Tryz.prog 47 g47 [1000010] [] []=some (c47,[.slot 4],176):=by kernel_rfl
def J2:Eng.Spec where
 X:=Sta×Nat
 args:=fun x=>.cons (kM x.1) (.cons (.int .i64 (x.2:Int)) .nil)
 pre:=fun x=>kJ x.1/\x.2 < x.1.doors.n
 res:=fun x=>.bool (dW x.1 x.2)
 inst:=fun
  | .cons a (.cons (.int _ b) _)=>match rF a with
   | some s=>some (s,b.toNat)
   | none=>none
  | _=>none
def en12 (d:Dr) (t:Nat):aK×SV×Nat:=(.i .i64 12,.bool (decide ((d.after.n:Int)=0)),t)
def en11 (d:Dr) (t:Nat):aK×SV×Nat:=(.i .i64 11,.bool (aE (decide ((d.after.n:Int)=0)) (.s 45) cF (decide (d.veil=[])) false),t)
def en9 (d:Dr) (t:Nat):aK×SV×Nat:=(.i .i64 9,.bool (aE (bI (d.after.n:Int) 2 8) (.s 52) cF (decide (d.veil=[])) false),t)
def en10 (d:Dr) (t:Nat):aK×SV×Nat:=(.i .i64 10,.bool (aE (decide ((d.after.n:Int)=1)) (.s 59) cF (decide (d.veil=[])) false),t)
theorem L0 {d:Dr} {l:MS} {c:Nat} (h:∀ x∈l,(∃ t,x=en12 d t)\/(∃ t,x=en11 d t)\/(∃ t,x=en9 d t)\/(∃ t,x=en10 d t)) (h12:∃ t,en12 d t∈l) (h11:∃ t,en11 d t∈l) (h9:∃ t,en9 d t∈l) (h10:∃ t,en10 d t∈l):xU d (l,c):=by
 constructor
 ·intro k v t hm
  have hk:=uV hm
  rcases h _ hk with ⟨t',e⟩|⟨t',e⟩|⟨t',e⟩|⟨t',e⟩
  ·cases e; rfl
  ·cases e; rw [aF]; rfl
  ·cases e; rw [aF]; rfl
  ·cases e; rw [aF]; rfl
 ·intro k hm
  have no:∀ x∈l,x.1≠.i .i64 k:=Mv hm
  have n1:k≠12:=fun e=>by obtain ⟨t,ht⟩:=h12; exact no _ ht (by rw [e]; rfl)
  have n2:k≠11:=fun e=>by obtain ⟨t,ht⟩:=h11; exact no _ ht (by rw [e]; rfl)
  have n3:k≠9:=fun e=>by obtain ⟨t,ht⟩:=h9; exact no _ ht (by rw [e]; rfl)
  have n4:k≠10:=fun e=>by obtain ⟨t,ht⟩:=h10; exact no _ ht (by rw [e]; rfl)
  unfold sI
  rw [if_neg n1,if_neg n2,if_neg n3,if_neg n4]
def en (d:Dr):Nat->Nat->aK×SV×Nat
 | 0,t=>en12 d t
 | 1,t=>en11 d t
 | 2,t=>en9 d t
 | _,t=>en10 d t
def lm (d:Dr) (a b c e:Nat):MS:=[en d a 0,en d b 1,en d c 2,en d e 3]
theorem N6 (d:Dr) (k t:Nat):(∃ t',en d k t=en12 d t')\/(∃ t',en d k t=en11 d t')\/(∃ t',en d k t=en9 d t')\/(∃ t',en d k t=en10 d t'):=by
 match k with
 | 0=>exact .inl ⟨t,rfl⟩
 | 1=>exact .inr (.inl ⟨t,rfl⟩)
 | 2=>exact .inr (.inr (.inl ⟨t,rfl⟩))
 | _+3=>exact .inr (.inr (.inr ⟨t,rfl⟩))
theorem Om {d:Dr} {a b c e:Nat} {x:aK×SV×Nat} (h:x∈lm d a b c e):∃ k t,x=en d k t:=by
 unfold lm at h
 simp only [List.mem_cons,List.not_mem_nil,or_false] at h
 rcases h with h|h|h|h <;> exact ⟨_,_,h⟩
theorem gN {d:Dr} {a b c e:Nat}:∀ x∈lm d a b c e,∃ b,x.2.1=.bool b:=by
 intro x hx
 obtain ⟨k,t,rfl⟩:=Om hx
 rcases N6 d k t with ⟨_,h⟩|⟨_,h⟩|⟨_,h⟩|⟨_,h⟩ <;> (rw [h]; exact ⟨_,rfl⟩)
theorem wK {d:Dr} {a b c e x:Nat} (h:x=a\/x=b\/x=c\/x=e):∃ t,en d x t∈lm d a b c e:=by
 unfold lm
 rcases h with rfl|rfl|rfl|rfl
 ·exact ⟨0,by simp⟩
 ·exact ⟨1,by simp⟩
 ·exact ⟨2,by simp⟩
 ·exact ⟨3,by simp⟩
theorem dU (d:Dr) {a b c e:Nat} (h:∀ x,x < 4->x=a\/x=b\/x=c\/x=e):xU d (lm d a b c e,4) :=
 L0 (fun _ hx=>by obtain ⟨k,t,rfl⟩:=Om hx; exact N6 d k t) (wK (x:=0) (h 0 (by decide))) (wK (x:=1) (h 1 (by decide))) (wK (x:=2) (h 2 (by decide))) (wK (x:=3) (h 3 (by decide)))
set_option maxHeartbeats 80000000 in
theorem Cv:J2.Ok Tryz.prog 47:=by
 refine Eng.Spec.okR e47 .nil (fun _=>[(37,.p fdS),(65,.p Mk),(48,.p P6),(46,.p mdN),(67,.p fbS),(68,.p fsS)]) (fun _ _=>aA.p Dz (aA.p Io (aA.p Hs (aA.p I7 (aA.p Uc (aA.p Uf aA.nil)))))) ?_
 rintro ⟨s,i⟩ ⟨(hs:kJ s),(hil:i < s.doors.n)⟩
 have hn:=hs.doors.1
 have hok:okD (s.doors.f i):=hs.doors.2 i hil
 have a0:(0:Int)<=(i:Int):=by omega
 have a1:(i:Int) < (s.doors.n:Int):=by omega
 have han:=hok.after.1
 refine ⟨trivial,?_⟩
 repeat' (first|with_reducible exact a0|with_reducible exact a1|apply And.intro|exact trivial|exact rfl|exact lz fun _=>rfl|exact S1.zz rfl|refine gd ?_)
 refine ⟨⟨Nat,fun j=>j<=(s.doors.f i).after.n/\orB (afB s i) j=false,fun j=>[(24,.int .i64 (j:Int))],fun _=>[],fun j=>(s.doors.f i).after.n - j⟩,0,⟨Nat.zero_le _,rfl⟩,?_,?_⟩
 ·repeat' (first|apply And.intro|exact trivial|exact rfl|exact lz fun _=>rfl|exact S1.zz rfl|refine gd ?_)
 rintro (j:Nat) ⟨(hj:j<=(s.doors.f i).after.n),(hf:orB (afB s i) j=false)⟩
 repeat' (first|apply And.intro|exact trivial|exact rfl|exact lz fun _=>rfl|exact S1.zz rfl|refine gd ?_)
 ·refine fun (h:decide ((j:Int) < ((s.doors.f (i:Int).toNat).after.n:Int))=true)=>?_
  have j1:(j:Int) < ((s.doors.f (i:Int).toNat).after.n:Int):=of_decide_eq_true h
  have hjl:j < (s.doors.f i).after.n:=by
   have:(j:Int) < ((s.doors.f i).after.n:Int):=j1
   omega
  have j0:(0:Int)<=(j:Int):=by omega
  have b1:-9223372036854775808<=(j:Int)+1:=by omega
  have b2:(j:Int)+1<=9223372036854775807:=by omega
  have em:(s.doors.f i).after.n - (j+1) < (s.doors.f i).after.n - j:=by omega
  have ht:=hok.after.2 j hjl
  repeat' (first|with_reducible exact j0|with_reducible exact j1|exact hs.doors|exact ht|apply And.intro|exact trivial|exact rfl|exact lz fun _=>rfl|exact S1.zz rfl|refine gd ?_)
  ·refine fun (hc:decide (fdV s ((s.doors.f (i:Int).toNat).after.f (j:Int).toNat)<=(i:Int))=true)=>?_
   have hb:afB s i j=true:=hc
   have e:false=dW s i:=by unfold dW; rw [aO.2 ⟨j,hjl,hb⟩]; rfl
   repeat' (first|exact e|apply And.intro|exact trivial|exact rfl|exact lz fun _=>rfl|exact S1.zz rfl|refine gd ?_)
  ·refine fun (hc:decide (fdV s ((s.doors.f (i:Int).toNat).after.f (j:Int).toNat)<=(i:Int))=false)=>?_
   have hb:afB s i j=false:=hc
   have hf1:orB (afB s i) (j+1)=false:=by simp only [orB]; rw [hf,hb]; rfl
   repeat' (first|with_reducible exact b1|with_reducible exact b2|apply And.intro|exact trivial|exact rfl|exact lz fun _=>rfl|exact S1.zz rfl|refine gd ?_)
   refine Exists.intro (j+1) (And.intro ⟨hjl,hf1⟩ ?_)
   repeat' (first|with_reducible exact em|apply And.intro|exact trivial|exact rfl|exact lz fun _=>rfl|exact S1.zz rfl|refine gd ?_)
 refine fun (h:decide ((j:Int) < ((s.doors.f (i:Int).toNat).after.n:Int))=false)=>?_
 obtain rfl:j=(s.doors.f i).after.n:=by
  have:¬ (j:Int) < ((s.doors.f i).after.n:Int):=of_decide_eq_false h
  omega
 clear h hj
 repeat' (first|apply And.intro|exact trivial|exact rfl|exact lz fun _=>rfl|exact S1.zz rfl|refine gd ?_)
 refine Exists.intro ⟨MS×Nat,xU (s.doors.f i),fun _=>[(10,.mref 20)],fun x=>[(20,.map SV (.i .i64) x.1 x.2 id some)],fun _=>0⟩ ?_
 refine And.intro ?_ ?_
 ·repeat' (first|refine dC.jU rfl ?_|apply And.intro|exact trivial|exact rfl|exact lz fun _=>rfl|exact S1.zz rfl|refine gd ?_)
  ·refine Exists.intro (lm (s.doors.f i) 0 1 2 3,4) (And.intro (dU _ (by decide)) ?_)
   repeat' (first|apply And.intro|exact trivial|exact rfl|exact lz fun _=>rfl|exact S1.zz rfl|refine gd ?_|exact bR (l':=lm (s.doors.f i) 0 1 2 3) rfl gN _ _ _)
  ·refine Exists.intro (lm (s.doors.f i) 0 1 3 2,4) (And.intro (dU _ (by decide)) ?_)
   repeat' (first|apply And.intro|exact trivial|exact rfl|exact lz fun _=>rfl|exact S1.zz rfl|refine gd ?_|exact bR (l':=lm (s.doors.f i) 0 1 3 2) rfl gN _ _ _)
  ·refine Exists.intro (lm (s.doors.f i) 0 2 1 3,4) (And.intro (dU _ (by decide)) ?_)
   repeat' (first|apply And.intro|exact trivial|exact rfl|exact lz fun _=>rfl|exact S1.zz rfl|refine gd ?_|exact bR (l':=lm (s.doors.f i) 0 2 1 3) rfl gN _ _ _)
  ·refine Exists.intro (lm (s.doors.f i) 0 2 3 1,4) (And.intro (dU _ (by decide)) ?_)
   repeat' (first|apply And.intro|exact trivial|exact rfl|exact lz fun _=>rfl|exact S1.zz rfl|refine gd ?_|exact bR (l':=lm (s.doors.f i) 0 2 3 1) rfl gN _ _ _)
  ·refine Exists.intro (lm (s.doors.f i) 0 3 1 2,4) (And.intro (dU _ (by decide)) ?_)
   repeat' (first|apply And.intro|exact trivial|exact rfl|exact lz fun _=>rfl|exact S1.zz rfl|refine gd ?_|exact bR (l':=lm (s.doors.f i) 0 3 1 2) rfl gN _ _ _)
  ·refine Exists.intro (lm (s.doors.f i) 0 3 2 1,4) (And.intro (dU _ (by decide)) ?_)
   repeat' (first|apply And.intro|exact trivial|exact rfl|exact lz fun _=>rfl|exact S1.zz rfl|refine gd ?_|exact bR (l':=lm (s.doors.f i) 0 3 2 1) rfl gN _ _ _)
  ·refine Exists.intro (lm (s.doors.f i) 1 0 2 3,4) (And.intro (dU _ (by decide)) ?_)
   repeat' (first|apply And.intro|exact trivial|exact rfl|exact lz fun _=>rfl|exact S1.zz rfl|refine gd ?_|exact bR (l':=lm (s.doors.f i) 1 0 2 3) rfl gN _ _ _)
  ·refine Exists.intro (lm (s.doors.f i) 1 0 3 2,4) (And.intro (dU _ (by decide)) ?_)
   repeat' (first|apply And.intro|exact trivial|exact rfl|exact lz fun _=>rfl|exact S1.zz rfl|refine gd ?_|exact bR (l':=lm (s.doors.f i) 1 0 3 2) rfl gN _ _ _)
  ·refine Exists.intro (lm (s.doors.f i) 1 2 0 3,4) (And.intro (dU _ (by decide)) ?_)
   repeat' (first|apply And.intro|exact trivial|exact rfl|exact lz fun _=>rfl|exact S1.zz rfl|refine gd ?_|exact bR (l':=lm (s.doors.f i) 1 2 0 3) rfl gN _ _ _)
  ·refine Exists.intro (lm (s.doors.f i) 1 2 3 0,4) (And.intro (dU _ (by decide)) ?_)
   repeat' (first|apply And.intro|exact trivial|exact rfl|exact lz fun _=>rfl|exact S1.zz rfl|refine gd ?_|exact bR (l':=lm (s.doors.f i) 1 2 3 0) rfl gN _ _ _)
  ·refine Exists.intro (lm (s.doors.f i) 1 3 0 2,4) (And.intro (dU _ (by decide)) ?_)
   repeat' (first|apply And.intro|exact trivial|exact rfl|exact lz fun _=>rfl|exact S1.zz rfl|refine gd ?_|exact bR (l':=lm (s.doors.f i) 1 3 0 2) rfl gN _ _ _)
  ·refine Exists.intro (lm (s.doors.f i) 1 3 2 0,4) (And.intro (dU _ (by decide)) ?_)
   repeat' (first|apply And.intro|exact trivial|exact rfl|exact lz fun _=>rfl|exact S1.zz rfl|refine gd ?_|exact bR (l':=lm (s.doors.f i) 1 3 2 0) rfl gN _ _ _)
  ·refine Exists.intro (lm (s.doors.f i) 2 0 1 3,4) (And.intro (dU _ (by decide)) ?_)
   repeat' (first|apply And.intro|exact trivial|exact rfl|exact lz fun _=>rfl|exact S1.zz rfl|refine gd ?_|exact bR (l':=lm (s.doors.f i) 2 0 1 3) rfl gN _ _ _)
  ·refine Exists.intro (lm (s.doors.f i) 2 0 3 1,4) (And.intro (dU _ (by decide)) ?_)
   repeat' (first|apply And.intro|exact trivial|exact rfl|exact lz fun _=>rfl|exact S1.zz rfl|refine gd ?_|exact bR (l':=lm (s.doors.f i) 2 0 3 1) rfl gN _ _ _)
  ·refine Exists.intro (lm (s.doors.f i) 2 1 0 3,4) (And.intro (dU _ (by decide)) ?_)
   repeat' (first|apply And.intro|exact trivial|exact rfl|exact lz fun _=>rfl|exact S1.zz rfl|refine gd ?_|exact bR (l':=lm (s.doors.f i) 2 1 0 3) rfl gN _ _ _)
  ·refine Exists.intro (lm (s.doors.f i) 2 1 3 0,4) (And.intro (dU _ (by decide)) ?_)
   repeat' (first|apply And.intro|exact trivial|exact rfl|exact lz fun _=>rfl|exact S1.zz rfl|refine gd ?_|exact bR (l':=lm (s.doors.f i) 2 1 3 0) rfl gN _ _ _)
  ·refine Exists.intro (lm (s.doors.f i) 2 3 0 1,4) (And.intro (dU _ (by decide)) ?_)
   repeat' (first|apply And.intro|exact trivial|exact rfl|exact lz fun _=>rfl|exact S1.zz rfl|refine gd ?_|exact bR (l':=lm (s.doors.f i) 2 3 0 1) rfl gN _ _ _)
  ·refine Exists.intro (lm (s.doors.f i) 2 3 1 0,4) (And.intro (dU _ (by decide)) ?_)
   repeat' (first|apply And.intro|exact trivial|exact rfl|exact lz fun _=>rfl|exact S1.zz rfl|refine gd ?_|exact bR (l':=lm (s.doors.f i) 2 3 1 0) rfl gN _ _ _)
  ·refine Exists.intro (lm (s.doors.f i) 3 0 1 2,4) (And.intro (dU _ (by decide)) ?_)
   repeat' (first|apply And.intro|exact trivial|exact rfl|exact lz fun _=>rfl|exact S1.zz rfl|refine gd ?_|exact bR (l':=lm (s.doors.f i) 3 0 1 2) rfl gN _ _ _)
  ·refine Exists.intro (lm (s.doors.f i) 3 0 2 1,4) (And.intro (dU _ (by decide)) ?_)
   repeat' (first|apply And.intro|exact trivial|exact rfl|exact lz fun _=>rfl|exact S1.zz rfl|refine gd ?_|exact bR (l':=lm (s.doors.f i) 3 0 2 1) rfl gN _ _ _)
  ·refine Exists.intro (lm (s.doors.f i) 3 1 0 2,4) (And.intro (dU _ (by decide)) ?_)
   repeat' (first|apply And.intro|exact trivial|exact rfl|exact lz fun _=>rfl|exact S1.zz rfl|refine gd ?_|exact bR (l':=lm (s.doors.f i) 3 1 0 2) rfl gN _ _ _)
  ·refine Exists.intro (lm (s.doors.f i) 3 1 2 0,4) (And.intro (dU _ (by decide)) ?_)
   repeat' (first|apply And.intro|exact trivial|exact rfl|exact lz fun _=>rfl|exact S1.zz rfl|refine gd ?_|exact bR (l':=lm (s.doors.f i) 3 1 2 0) rfl gN _ _ _)
  ·refine Exists.intro (lm (s.doors.f i) 3 2 0 1,4) (And.intro (dU _ (by decide)) ?_)
   repeat' (first|apply And.intro|exact trivial|exact rfl|exact lz fun _=>rfl|exact S1.zz rfl|refine gd ?_|exact bR (l':=lm (s.doors.f i) 3 2 0 1) rfl gN _ _ _)
  ·refine Exists.intro (lm (s.doors.f i) 3 2 1 0,4) (And.intro (dU _ (by decide)) ?_)
   repeat' (first|apply And.intro|exact trivial|exact rfl|exact lz fun _=>rfl|exact S1.zz rfl|refine gd ?_|exact bR (l':=lm (s.doors.f i) 3 2 1 0) rfl gN _ _ _)
 ·rintro ⟨L,C⟩ (hE:xU (s.doors.f i) (L,C))
  have hdf:(s.doors.f i).after.n<=10000000:=by omega
  have hsh:okV (Cw (s.doors.f i)):=pH hok.id cR hok.veil cR (Nat.zero_le _)
  have hdo:okV (Lw (s.doors.f i)):=pH hok.id hok.bld hok.str hok.num (Nat.zero_le _)
  have bb:∀ a b:Nat,aE (aE (!decide ((s.doors.f (i:Int).toNat).office=0)) cT (.s a) true (decide (fbV s (s.doors.f (i:Int).toNat).bld < 0))) cT (.s b) true (decide (fsV s (s.doors.f (i:Int).toNat).str < 0))=false->0<=fbV s (s.doors.f (i:Int).toNat).bld/\0<=fsV s (s.doors.f (i:Int).toNat).str:=fun a b h=>by
   rw [aD,aD,Bool.or_eq_false_iff,Bool.or_eq_false_iff,decide_eq_false_iff_not,decide_eq_false_iff_not] at h
   omega
  have eB:∀ a b c d e:Nat,aE (aE (aE (!decide ((s.doors.f (i:Int).toNat).office=0)) cT (.s a) true (decide (fbV s (s.doors.f (i:Int).toNat).bld < 0))) cT (.s b) true (decide (fsV s (s.doors.f (i:Int).toNat).str < 0))) cT (.s c) true (aE (decide ((s.doors.f (i:Int).toNat).ended=-1)) (.s d) cF (aE (!decide ((s.buildings.f (fbV s (s.doors.f (i:Int).toNat).bld).toNat).ended=-1)) cT (.s e) true (!decide ((s.streets.f (fsV s (s.doors.f (i:Int).toNat).str).toNat).ended=-1))) false)=stB s (s.doors.f i):=fun a b c d e=>by rw [aD,aD,aD,aF,aD]; rfl
  have eA:∀ (a b c e:Nat) (w:Bool),aE (aE (aE (!decide (decide ((s.doors.f (i:Int).toNat).ended=-1)=decide ((s.doors.f (i:Int).toNat).why=0))) cT (.s a) true (aE (decide ((s.doors.f (i:Int).toNat).ended=-1)) (.s b) cF (decide ((0:Int) < ((s.doors.f (i:Int).toNat).after.n:Int))) false)) cT (.s c) true w) cT (.s e) true (!lW (s.doors.f (i:Int).toNat).after) =
    (((!decide (decide ((s.doors.f i).ended=-1)=decide ((s.doors.f i).why=0)) || (decide ((s.doors.f i).ended=-1) && decide ((0:Int) < ((s.doors.f i).after.n:Int)))) || w) || !lW (s.doors.f i).after):=fun a b c e w=>by rw [aD,aD,aD,aF]; rfl
  repeat' (first|apply And.intro|exact trivial|exact rfl|exact lz fun _=>rfl|exact S1.zz rfl|refine gd ?_)
  ·refine fun (hx:aE _ cT (.s 72) true _=false)=>?_
   repeat' (first|apply And.intro|exact trivial|exact rfl|exact lz fun _=>rfl|exact S1.zz rfl|refine gd ?_)
   ·refine fun (he:(!decide ((s.doors.f (i:Int).toNat).ended=-1))=true)=>?_
    repeat' (first|apply And.intro|exact trivial|exact rfl|exact lz fun _=>rfl|exact S1.zz rfl|refine gd ?_)
    refine hE.look1 (fun (b:Bool) (hb:b=sI (s.doors.f i) (s.doors.f i).why)=>?_)
    have eX:=(eA 72 71 83 89 (aE (!decide ((s.doors.f (i:Int).toNat).ended=-1)) (.s 82) cF (!b) false)).trans (by rw [hb,aF]; rfl:_=stA s i)
    repeat' (first|exact hdf|apply And.intro|exact trivial|exact rfl|exact lz fun _=>rfl|exact S1.zz rfl|refine gd ?_)
    ·refine fun (hc0:aE _ cT (.s 89) true _=true)=>?_
     have hA:stA s i=true:=eX.symm.trans hc0
     have e:false=dW s i:=by unfold dW; rw [hf,hA]; rfl
     repeat' (first|exact e|apply And.intro|exact trivial|exact rfl|exact lz fun _=>rfl|exact S1.zz rfl|refine gd ?_)
    refine fun (hc0:aE _ cT (.s 89) true _=false)=>?_
    have hA:stA s i=false:=eX.symm.trans hc0
    clear hc0 eX
    have hA':=hA
    clear hA'
    repeat' (first|apply And.intro|exact trivial|exact rfl|exact lz fun _=>rfl|exact S1.zz rfl|refine gd ?_)
    ·refine fun (hv0:(!decide ((s.doors.f (i:Int).toNat).veil=[]))=true)=>?_
     have hv:¬ (s.doors.f i).veil=[]:=by
      have:(!decide ((s.doors.f i).veil=[]))=true:=hv0
      simpa using this
     have e:∀ a b c d:Nat,aE (aE (aE (aE (decide ((s.doors.f (i:Int).toNat).bld=[])) (.s a) cF (decide ((s.doors.f (i:Int).toNat).str=[])) false) (.s b) cF (decide ((s.doors.f (i:Int).toNat).num.n=0) && (decide ((s.doors.f (i:Int).toNat).num.l=[]) && (decide ((s.doors.f (i:Int).toNat).num.num=0) && (decide ((s.doors.f (i:Int).toNat).num.den=0) && true)))) false) (.s c) cF (decide ((s.doors.f (i:Int).toNat).pt.1=0) && (decide ((s.doors.f (i:Int).toNat).pt.2=0) && true)) false) (.s d) cF (mdV 15 (Cw (s.doors.f i))) false=dW s i:=fun a b c d=>by
      rw [aF,aF,aF,aF]
      unfold dW
      rw [hf,hA,if_neg hv]
      rfl
     repeat' (first|exact hsh|exact e _ _ _ _|apply And.intro|exact trivial|exact rfl|exact lz fun _=>rfl|exact S1.zz rfl|refine gd ?_)
    refine fun (hv0:(!decide ((s.doors.f (i:Int).toNat).veil=[]))=false)=>?_
    have hv:(s.doors.f i).veil=[]:=by
     have:(!decide ((s.doors.f i).veil=[]))=false:=hv0
     simpa using this
    repeat' (first|exact hs.buildings|exact hok.bld|exact hs.streets|exact hok.str|exact fun (hg:bD _ _ _ _)=>And.intro (bb _ _ hg.2).1 (N9 s _)|exact fun (hg:bD _ _ _ _)=>And.intro (bb _ _ hg.2.2).2 (Ob s _)|apply And.intro|exact trivial|exact rfl|exact lz fun _=>rfl|exact S1.zz rfl|refine gd ?_)
    ·refine fun (hb0:aE _ cT (.s 162) true _=true)=>?_
     have hB:stB s (s.doors.f i)=true:=(eB 137 141 162 161 160).symm.trans hb0
     have e:false=dW s i:=by unfold dW; rw [hf,hA,if_pos hv,hB]; rfl
     repeat' (first|exact e|apply And.intro|exact trivial|exact rfl|exact lz fun _=>rfl|exact S1.zz rfl|refine gd ?_)
    refine fun (hb0:aE _ cT (.s 162) true _=false)=>?_
    have hB:stB s (s.doors.f i)=false:=(eB 137 141 162 161 160).symm.trans hb0
    have e:mdV 6 (Lw (s.doors.f i))=dW s i:=by unfold dW; rw [hf,hA,if_pos hv,hB]; rfl
    repeat' (first|exact hdo|exact e|apply And.intro|exact trivial|exact rfl|exact lz fun _=>rfl|exact S1.zz rfl|refine gd ?_)
   ·refine fun (he:(!decide ((s.doors.f (i:Int).toNat).ended=-1))=!true)=>?_
    have eX:=(eA 72 71 83 89 false).trans (by
     unfold stA
     rw [show (!decide ((s.doors.f i).ended=-1))=false from he]
     rfl:_=stA s i)
    repeat' (first|exact hdf|exact fun _=>he|exact fun (hg:bD _ _ _ _)=>Bool.noConfusion (hg.1.symm.trans he)|apply And.intro|exact trivial|exact rfl|exact lz fun _=>rfl|exact S1.zz rfl|refine gd ?_)
    ·refine fun (hc0:aE _ cT (.s 89) true _=true)=>?_
     have hA:stA s i=true:=eX.symm.trans hc0
     have e:false=dW s i:=by unfold dW; rw [hf,hA]; rfl
     repeat' (first|exact e|apply And.intro|exact trivial|exact rfl|exact lz fun _=>rfl|exact S1.zz rfl|refine gd ?_)
    refine fun (hc0:aE _ cT (.s 89) true _=false)=>?_
    have hA:stA s i=false:=eX.symm.trans hc0
    clear hc0 eX
    have hA':=hA
    clear hA'
    repeat' (first|apply And.intro|exact trivial|exact rfl|exact lz fun _=>rfl|exact S1.zz rfl|refine gd ?_)
    ·refine fun (hv0:(!decide ((s.doors.f (i:Int).toNat).veil=[]))=true)=>?_
     have hv:¬ (s.doors.f i).veil=[]:=by
      have:(!decide ((s.doors.f i).veil=[]))=true:=hv0
      simpa using this
     have e:∀ a b c d:Nat,aE (aE (aE (aE (decide ((s.doors.f (i:Int).toNat).bld=[])) (.s a) cF (decide ((s.doors.f (i:Int).toNat).str=[])) false) (.s b) cF (decide ((s.doors.f (i:Int).toNat).num.n=0) && (decide ((s.doors.f (i:Int).toNat).num.l=[]) && (decide ((s.doors.f (i:Int).toNat).num.num=0) && (decide ((s.doors.f (i:Int).toNat).num.den=0) && true)))) false) (.s c) cF (decide ((s.doors.f (i:Int).toNat).pt.1=0) && (decide ((s.doors.f (i:Int).toNat).pt.2=0) && true)) false) (.s d) cF (mdV 15 (Cw (s.doors.f i))) false=dW s i:=fun a b c d=>by
      rw [aF,aF,aF,aF]
      unfold dW
      rw [hf,hA,if_neg hv]
      rfl
     repeat' (first|exact hsh|exact e _ _ _ _|apply And.intro|exact trivial|exact rfl|exact lz fun _=>rfl|exact S1.zz rfl|refine gd ?_)
    refine fun (hv0:(!decide ((s.doors.f (i:Int).toNat).veil=[]))=false)=>?_
    have hv:(s.doors.f i).veil=[]:=by
     have:(!decide ((s.doors.f i).veil=[]))=false:=hv0
     simpa using this
    repeat' (first|exact hs.buildings|exact hok.bld|exact hs.streets|exact hok.str|exact fun (hg:bD _ _ _ _)=>And.intro (bb _ _ hg.2).1 (N9 s _)|exact fun (hg:bD _ _ _ _)=>And.intro (bb _ _ hg.2.2).2 (Ob s _)|apply And.intro|exact trivial|exact rfl|exact lz fun _=>rfl|exact S1.zz rfl|refine gd ?_)
    ·refine fun (hb0:aE _ cT (.s 162) true _=true)=>?_
     have hB:stB s (s.doors.f i)=true:=(eB 137 141 162 161 160).symm.trans hb0
     have e:false=dW s i:=by unfold dW; rw [hf,hA,if_pos hv,hB]; rfl
     repeat' (first|exact e|apply And.intro|exact trivial|exact rfl|exact lz fun _=>rfl|exact S1.zz rfl|refine gd ?_)
    refine fun (hb0:aE _ cT (.s 162) true _=false)=>?_
    have hB:stB s (s.doors.f i)=false:=(eB 137 141 162 161 160).symm.trans hb0
    have e:mdV 6 (Lw (s.doors.f i))=dW s i:=by unfold dW; rw [hf,hA,if_pos hv,hB]; rfl
    repeat' (first|exact hdo|exact e|apply And.intro|exact trivial|exact rfl|exact lz fun _=>rfl|exact S1.zz rfl|refine gd ?_)
  ·refine fun (hx:aE _ cT (.s 72) true _=!false)=>?_
   have hx':=hx
   rw [aD,aF] at hx'
   have hA:stA s i=true:=by
    unfold stA
    rw [show (!decide (decide ((s.doors.f i).ended=-1)=decide ((s.doors.f i).why=0)) || (decide ((s.doors.f i).ended=-1) && decide ((0:Int) < ((s.doors.f i).after.n:Int))))=true from hx']
    rfl
   have e:false=dW s i:=by unfold dW; rw [hf,hA]; rfl
   repeat' (first|exact hdf|exact fun (hg:bD _ _ _ _)=>Bool.noConfusion (hx.symm.trans hg)|exact fun (hg:bD _ _ _ _)=>Bool.noConfusion (hx.symm.trans hg.2)|apply And.intro|exact trivial|exact rfl|exact lz fun _=>rfl|exact S1.zz rfl|refine gd ?_)
   ·refine fun _=>?_
    repeat' (first|exact e|apply And.intro|exact trivial|exact rfl|exact lz fun _=>rfl|exact S1.zz rfl|refine gd ?_)
   ·exact fun hc0=>by
     have h1:=hc0
     rw [aD,aD] at h1
     exact Bool.noConfusion (hx.symm.trans (Bool.or_eq_false_iff.1 (Bool.or_eq_false_iff.1 h1).1).1)
end S31
