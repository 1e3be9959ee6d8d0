/- A part of the proof. -/
import Derived.Test.YtpiolkcdfgiefaaGreatDoorT3
import Derived.Shelf.Spec.SlicesInsert
import Derived.Shelf.Spec.SlicesInsertGrow
import Derived.Shelf.Slices.Delete
import Derived.Lib.RowBridge
import Derived.Test.YtpiolkcdfgiefaaGreatDoorProg
section
open Go Go.Eng Go.Proofs T1 T3
set_option maxRecDepth 100000
namespace T4
abbrev bl:=Op.bytesLess
theorem Ir (a:B):bl a []=false:=by cases a <;> rfl
theorem Dl (a b:UInt8) (x y:B):bl (a::x) (b::y)=(decide (a < b) || (a == b && bl x y)):=rfl
theorem Dm {a b:UInt8} {x y:B}:bl (a::x) (b::y)=true ↔ a < b\/(a=b/\bl x y=true):=by rw [Dl]; simp
theorem vB:∀ a:B,bl a a=false:=by
 intro a;induction a with
 | nil=>rfl
 | cons x r ih=>rw [Dl,ih]; simp
theorem Fu:∀ {a b c:B},bl a b=true->bl b c=true->bl a c=true:=by
 intro a;induction a with
 | nil =>
  intro b c h1 h2;cases c with
  | nil=>rw [Ir] at h2; exact h2
  | cons z t=>rfl
 | cons x r ih =>
  intro b c h1 h2;cases b with
  | nil=>rw [Ir] at h1; cases h1
  | cons y s =>
   cases c with
   | nil=>rw [Ir] at h2; cases h2
   | cons z t =>
    rw [Dm] at h1 h2 ⊢;rcases h1 with h1|⟨rfl,h1⟩ <;> rcases h2 with h2|⟨rfl,h2⟩
    ·exact .inl (jZ h1 h2)
    ·exact .inl h1
    ·exact .inl h2
    ·exact .inr ⟨rfl,ih h1 h2⟩
theorem Xg:∀ {a b:B},bl a b=false->bl b a=false->a=b:=by
 intro a;induction a with
 | nil=>intro b h1 h2; cases b with
  | nil=>rfl
  | cons y s=>cases h1
 | cons x r ih =>
  intro b h1 h2;cases b with
  | nil=>cases h2
  | cons y s =>
   have n1:¬ (x < y\/(x=y/\bl r s=true)):=fun h=>by rw [Dm.2 h] at h1; cases h1
   have n2:¬ (y < x\/(y=x/\bl s r=true)):=fun h=>by rw [Dm.2 h] at h2; cases h2
   have e:x=y:=by
    have h1:¬ x < y:=fun h=>n1 (.inl h);have h2:¬ y < x:=fun h=>n2 (.inl h);rw [UInt8.lt_iff_toNat_lt] at h1 h2;exact UInt8.toNat_inj.1 (by omega)
   subst e;rw [ih (iE.2 fun h=>n1 (.inr ⟨rfl,h⟩)) (iE.2 fun h=>n2 (.inr ⟨rfl,h⟩))]
theorem Tn {a b:B} (h:bl a b=true):bl b a=false:=by
 cases e:bl b a with
 | false=>rfl
 | true=>have:=Fu h e; rw [vB] at this; cases this
def Srt (l:List B):Prop:=l.Pairwise fun a b=>bl a b=true
def eO (l:List B) (v:B):Nat:=l.countP fun x=>bl x v
theorem Srt.lt {l:List B} (h:Srt l) {i j:Nat} (hij:i < j) (hj:j < l.length):bl (l.getD i []) (l.getD j [])=true:=by
 have:=List.pairwise_iff_getElem.1 h i j (by omega) hj hij;simpa [List.getD_eq_getElem?_getD,hj,Nat.lt_trans hij hj] using this
theorem wY (l:List B) (v:B):eO l v<=l.length:=List.countP_le_length
theorem Hk {x:B} {l:List B} {v:B} (h:bl x v=true):eO (x::l) v=eO l v+1:=by simp [eO,h]
theorem R3 {l:List B} (_h:Srt l) {v:B} (h0:∀ x∈l,bl x v=false):eO l v=0:=by
 unfold eO;rw [List.countP_eq_zero];intro x hx;rw [h0 x hx];simp
theorem uE:∀ {l:List B},Srt l->∀ (v:B) {i:Nat},i < l.length->(bl (l.getD i []) v=true ↔ i < eO l v):=by
 intro l;induction l with
 | nil=>intro _ v i hi; exact absurd hi (bP _)
 | cons x r ih =>
  intro h v i hi;have hx:=bD.1 h;cases hb:bl x v with
  | true =>
   rw [Hk hb];cases i with
   | zero=>simp [hb]
   | succ i =>
    have:=ih hx.2 v (i:=i) (by simpa using hi);simpa using this
  | false =>
   have h0:∀ y∈x::r,bl y v=false:=by
    intro y hy;rcases aI.1 hy with rfl|hy
    ·exact hb
    ·cases e:bl y v with
     | false=>rfl
     | true=>have:=Fu (hx.1 y hy) e; rw [hb] at this; cases this
   rw [R3 h h0];have:bl ((x::r).getD i []) v=false:=h0 _ (by rw [aE,aH hi]; exact dN hi);simp only [this];simp
theorem zW {l:List B} (h:Srt l) (v:B):v∈l ↔ eO l v < l.length/\l.getD (eO l v) []=v:=by
 constructor
 ·intro hv;obtain ⟨i,hi,e⟩:=cU hv;have e':l.getD i []=v:=by simp [hi,e]
  have h1:¬ i < eO l v:=fun h'=>by
   have:=(uE h v hi).2 h';rw [e',vB] at this;cases this
  have h2:¬ eO l v < i:=fun h'=>by
   have:=h.lt h' hi;rw [e'] at this;exact absurd ((uE h v (Nat.lt_trans h' hi)).1 this) (fE _)
  have:eO l v=i:=by omega
  rw [this];exact ⟨hi,e'⟩
 ·rintro ⟨h1,h2⟩;rw [<- h2,aE,aH h1];exact dN h1
def g97:List Nat:=[0,2]
def c97:bH :=
 .seq (.region g97 [(zo 2 (.move cF))]) (.seq (.region g97 [(mv 3 0),(mv 4 0),(zo 5 (.bin (.neq) (.s 3) (.s 4))),(mv 2 5)]) .ret)
theorem e97:cR Tryz.prog 97 g97 [] [] []=some (c97,[.slot 2],6):=by kernel_rfl
def g68:List Nat:=[0,2]
def c68:bH :=
 .seq (.region g68 [(zo 2 (.move cF))]) (.seq (.region g68 [(mv 3 0),(mv 4 0),(zo 5 (.bin (.neq) (.s 3) (.s 4))),(mv 2 5)]) .ret)
theorem e68:cR Tryz.prog 68 g68 [] [] []=some (c68,[.slot 2],6):=by kernel_rfl
def J4:Eng.Spec where
 X:=B
 args:=fun x=>.cons (.str x) .nil
 pre:=fun _=>True
 res:=fun _=>.bool false
 inst:=fun
  | .cons (.str s) _=>some s
  | _=>none
theorem Uz:J4.Ok Tryz.prog 97:=by
 refine Eng.Spec.okR e97 .nil (fun _=>[]) (fun _ _=>aZ.nil) ?_;rintro (x:B) _;refine ⟨trivial,?_⟩;have e:(!decide (x=x))=false:=by simp
 repeat' (first|exact e)
theorem U1:J4.Ok Tryz.prog 68:=by
 refine Eng.Spec.okR e68 .nil (fun _=>[]) (fun _ _=>aZ.nil) ?_;rintro (x:B) _;refine ⟨trivial,?_⟩;have e:(!decide (x=x))=false:=by simp
 repeat' (first|exact e)
def g67:List Nat:=[0,1,4]
def c67:bH :=
 .seq (.region g67 [(zo 4 (.move cF))]) (.seq (.region g67 [(mv 5 0),(zo 6 (.call (.c (.fn 97)) [.s 5])),(mv 7 6),(mg 8 7 true 1),(zg 9 7 true (.call (.c (.fn 97)) [.s 8])),(zg 10 7 true (.not (.s 9))),(zo 11 (.pick (.s 7) (.s 10) cF)),(mv 12 11),(mg 13 12 false 0),(mg 14 12 false 1),(zg 15 12 false (.bin (.lss) (.s 13) (.s 14))),(zo 16 (.pick (.s 12) cT (.s 15))),(mv 4 16)]) .ret)
theorem e67:cR Tryz.prog 67 g67 [] [] []=some (c67,[.slot 4],17):=by kernel_rfl
def wR:Eng.Spec where
 X:=B×B
 args:=fun x=>.cons (.str x.1) (.cons (.str x.2) .nil)
 pre:=fun _=>True
 res:=fun x=>.bool (bl x.1 x.2)
 inst:=fun
  | .cons (.str s) (.cons (.str t) _)=>some (s,t)
  | _=>none
theorem rS:wR.Ok Tryz.prog 67:=by
 refine Eng.Spec.okR e67 .nil (fun _=>[(97,.p J4)]) (fun _ _=>aZ.p Uz aZ.nil) ?_;rintro ⟨a,b⟩ _;refine ⟨trivial,?_⟩;repeat' (first|apply aA|exact trivial|exact rfl|exact fun (h:false=true)=>Bool.noConfusion h|fail)
def g43:List Nat:=[15,27,9,8,6,0,7,1,4,5]
def c43:bH :=
 .seq (.region g43 [(zo 4 (.move (cj 0))),(zo 5 (.move cF))]) (.seq (.region g43 [(mv 10 0),(zo 11 (.lenSl (.s 10))),(mv 6 11)]) (.seq (.region g43 [(mv 12 6),(zo 7 (.move (cj 0))),(mv 8 12)]) (.seq (.block 0 (.loop 0 [13,14,15,16,17,18,19,20,21,9,22,23,24,25,26,27,28,29,7,30,8] (.seq (.seq (.region g43 [(mv 13 7),(mv 14 8),(zo 15 (.bin (.lss) (.s 13) (.s 14)))]) (.cond (.s 15) .skip (.exit 0))) (.block 1 (.seq (.region g43 [(mv 16 7),(mv 17 8),(zo 18 (.bin (.add) (.s 16) (.s 17))),(zo 19 (.cnv (.u64) (.s 18))),(zo 20 (.bin (.shr) (.s 19) (.c (.int (.u64) 1)))),(zo 21 (.cnv .i64 (.s 20))),(mv 9 21)]) (.seq (.region g43 [(mv 22 0),(mv 23 9),(zo 24 (.idxSl 1 (.s 22) (.s 23))),(ld 25 24),(mv 26 1),(zo 27 (.call (.c (.fn 67)) [.s 25,.s 26]))]) (.cond (.s 27) (.region g43 [(mv 28 9),(zo 29 (.bin (.add) (.s 28) (cj 1))),(mv 7 29)]) (.region g43 [(mv 30 9),(mv 8 30)])))))))) (.seq (.region g43 [(mv 31 7),(mv 32 7),(mv 33 6),(zo 34 (.bin (.lss) (.s 32) (.s 33))),(mv 35 34),(mg 36 35 true 0),(mg 37 35 true 7),(zg 38 35 true (.idxSl 1 (.s 36) (.s 37))),(lg 39 35 true 38),(mg 40 35 true 1),(zg 41 35 true (.bin (.eql) (.s 39) (.s 40))),(mg 42 35 true 41),(mg 43 42 false 0),(mg 44 42 false 7),(zg 45 42 false (.idxSl 1 (.s 43) (.s 44))),(lg 46 42 false 45),(zg 47 42 false (.call (.c (.fn 68)) [.s 46])),(mg 48 42 false 47),(mg 49 48 true 1),(zg 50 48 true (.call (.c (.fn 68)) [.s 49])),(zg 51 42 false (.pick (.s 48) (.s 50) cF)),(zg 52 35 true (.pick (.s 42) cT (.s 51))),(zo 53 (.pick (.s 35) (.s 52) cF)),(mv 4 31),(mv 5 53)]) .ret))))
theorem e43:cR Tryz.prog 43 g43 [] [] []=some (c43,[.slot 4,.slot 5],54):=by kernel_rfl
def Z2:Eng.Spec where
 X:=List B×B
 args:=fun x=>.cons (slE x.1) (.cons (.str x.2) .nil)
 pre:=fun x=>x.1.length<=1000000/\Srt x.1
 res:=fun x=>.tup (.cons (.int .i64 (eO x.1 x.2:Int)) (.cons (.bool (decide (x.2∈x.1))) .nil))
 inst:=fun _=>none
theorem Xj:Z2.Ok Tryz.prog 43:=by
 refine Eng.Spec.okR e43 .nil (fun _=>[(67,.p wR),(68,.p J4)]) (fun _ _=>aZ.p rS (aZ.p U1 aZ.nil)) ?_;rintro ⟨l,v⟩ ⟨(hn:l.length<=1000000),(hs:Srt l)⟩;refine ⟨trivial,?_⟩;refine ⟨⟨Nat×Nat,fun k=>k.1<=k.2/\k.2<=l.length/\k.1<=eO l v/\eO l v<=k.2,fun k=>[(7,.int .i64 (k.1:Int)),(8,.int .i64 (k.2:Int))],fun _=>[],fun k=>k.2 - k.1⟩,(0,l.length),⟨bB _,aL _,bB _,wY l v⟩,?_,?_⟩
 ·repeat' (first|apply aA|exact trivial|exact rfl|exact fun (j:Nat) (hj:j < _)=>Or.inl (fB _ _ _ _)|fail)
 rintro ⟨i,j⟩ ⟨(k1:i<=j),(k2:j<=l.length),(k3:i<=eO l v),(k4:eO l v<=j)⟩;repeat' (first|refine aA ?_ ?_)
 ·refine fun (hg:decide ((i:Int) < (j:Int))=true)=>?_;have hij:(i:Int) < (j:Int):=of_decide_eq_true hg;have b1:-9223372036854775808<=(i:Int)+(j:Int):=by omega
  have b2:(i:Int)+(j:Int)<=9223372036854775807:=by omega
  have b3:(0:Int)<=(i:Int)+(j:Int):=by omega
  have b4:(i:Int)+(j:Int)<=18446744073709551615:=by omega
  have b5:(0:Int)<=1:=by decide
  have em:shI .shr .u64 ((i:Int)+(j:Int)) 1=(((i+j) / 2:Nat):Int):=by
   show ((i:Int)+(j:Int)).fdiv (2 ^ (min (1:Int).toNat IntKind.u64.bits))=_;have e1:(2:Int) ^ (min (1:Int).toNat IntKind.u64.bits)=2:=by decide
   rw [e1,Int.fdiv_eq_ediv_of_nonneg _ (by decide)];omega
  have c1:-9223372036854775808<=shI .shr .u64 ((i:Int)+(j:Int)) 1:=by rw [em]; omega
  have c2:shI .shr .u64 ((i:Int)+(j:Int)) 1<=9223372036854775807:=by rw [em]; omega
  have c3:0<=shI .shr .u64 ((i:Int)+(j:Int)) 1:=by rw [em]; omega
  have c4:shI .shr .u64 ((i:Int)+(j:Int)) 1 < (l.length:Int):=by rw [em]; omega
  have hm:(i+j) / 2 < l.length:=by omega
  repeat' (first|apply aA|exact trivial|exact rfl|(with_reducible first|exact b1|exact b2|exact b3|exact b4|exact b5|exact c1|exact c2|exact c3|exact c4))
  ·refine fun (hb:bl (l.getD (shI .shr .u64 ((i:Int)+(j:Int)) 1).toNat []) v=true)=>?_;have hb':bl (l.getD ((i+j) / 2) []) v=true:=by rw [em] at hb; exact hb
   have hp:=(uE hs v hm).1 hb';have d1:-9223372036854775808<=shI .shr .u64 ((i:Int)+(j:Int)) 1+1:=by rw [em]; omega
   have d2:shI .shr .u64 ((i:Int)+(j:Int)) 1+1<=9223372036854775807:=by rw [em]; omega
   have d3:shI .shr .u64 ((i:Int)+(j:Int)) 1+1=(((i+j) / 2+1:Nat):Int):=by rw [em]; omega
   have f1:(i+j) / 2+1<=j:=by omega
   have f2:(i+j) / 2+1<=eO l v:=hp;have f3:j - ((i+j) / 2+1) < j - i:=by omega
   repeat' (first|apply aA|(with_reducible first|exact d1|exact d2))
   refine aB ((i+j) / 2+1,j) ?_;repeat' (first|apply aA|exact trivial|exact rfl|exact fun (j:Nat) (hj:j < _)=>Or.inl (fB _ _ _ _)|(with_reducible first|exact d3|exact f1|exact k2|exact f2|exact k4|exact f3))
  ·refine fun (hb:bl (l.getD (shI .shr .u64 ((i:Int)+(j:Int)) 1).toNat []) v=false)=>?_;have hb':bl (l.getD ((i+j) / 2) []) v=false:=by rw [em] at hb; exact hb
   have hp:¬ (i+j) / 2 < eO l v:=fun h=>by rw [(uE hs v hm).2 h] at hb'; cases hb'
   have f1:i<=(i+j) / 2:=by omega
   have f2:(i+j) / 2<=l.length:=by omega
   have f4:eO l v<=(i+j) / 2:=by omega
   have f3:(i+j) / 2 - i < j - i:=by omega
   refine aB (i,(i+j) / 2) ?_;repeat' (first|apply aA|exact trivial|exact rfl|exact fun (j:Nat) (hj:j < _)=>Or.inl (fB _ _ _ _)|(with_reducible first|exact em|exact f1|exact f2|exact k3|exact f4|exact f3))
 ·refine fun (hg:decide ((i:Int) < (j:Int))=false)=>?_;have hij:¬ (i:Int) < (j:Int):=of_decide_eq_false hg;have e:i=eO l v:=by omega
  subst e;have h0:(0:Int)<=(eO l v:Int):=by omega
  have em:cS (decide ((eO l v:Int) < (l.length:Int))) (.s 35) cF (cS (decide (l.getD (eO l v:Int).toNat []=v)) cT (.s 51) true (cS false (.s 50) cF false false)) false=decide (v∈l):=by
   rw [dE,cA,aO,decide_eq_true_iff,decide_eq_true_iff,zW hs v];have hx:cS (decide (l.getD (eO l v:Int).toNat []=v)) cT (.s 51) true (cS false (.s 50) cF false false)=decide (l.getD (eO l v) []=v):=by
    show cS (decide (l.getD (eO l v) []=v)) cT (.s 51) true _=_;cases decide (l.getD (eO l v) []=v) <;> rfl
   rw [hx,decide_eq_true_iff];exact ⟨fun ⟨a,b⟩=>⟨by omega,b⟩,fun ⟨a,b⟩=>⟨by omega,b⟩⟩
  repeat' (first|apply aA|exact trivial|exact rfl|exact em)
  ·exact fun (h:decide ((eO l v:Int) < (l.length:Int))=true)=>aA h0 (of_decide_eq_true h)
  ·exact fun h=>aA h0 (of_decide_eq_true h.2)
  ·exact fun h=>aA trivial (aA rfl trivial)
  ·exact fun h=>Bool.noConfusion h.1
def Xi:bU:=Z2.mof (Nat×Bool) (fun x y=>y=(eO x.1 x.2,decide (x.2∈x.1))) (fun _ y=>.tup (.cons (.int .i64 (y.1:Int)) (.cons (.bool y.2) .nil)))
theorem P4:Xi.Ok Tryz.prog 43:=Eng.Spec.pR Xj fun _ _=>⟨_,rfl,rfl⟩
end T4
end
section
namespace Go.Proofs
open Go.Shelf
set_option maxRecDepth 100000
def Tryz.nS:Go.Shelf.Ren:=⟨fun|22=>46|29=>69|30=>70|36=>98|17=>121|n=>n,fun|24=>37|9=>9|3=>3|4=>4|0=>0|n=>n,fun n=>n⟩
theorem Tryz.Az:Go.Proofs.Lays2.n22 Tryz.prog Tryz.nS:={
 mixed:=by kernel_rfl
 f17:=Tryz.func121.trans (congrArg some (by kernel_rfl))
 f22:=Tryz.func46.trans (congrArg some (by kernel_rfl))
 f29:=Tryz.func69.trans (congrArg some (by kernel_rfl))
 f30:=Tryz.func70.trans (congrArg some (by kernel_rfl))
 f36:=Tryz.func98.trans (congrArg some (by kernel_rfl))
 t0:=Tryz.underlying0
 a0:=Tryz.isAgg0
 z0:=Tryz.sizeOf0
 v0:=Tryz.zeroValue0
 t3:=Tryz.underlying3
 a3:=Tryz.isAgg3
 z3:=Tryz.sizeOf3
 v3:=Tryz.zeroValue3
 t4:=Tryz.underlying4
 a4:=Tryz.isAgg4
 z4:=Tryz.sizeOf4
 v4:=Tryz.zeroValue4
 t9:=Tryz.underlying9
 a9:=Tryz.isAgg9
 z9:=Tryz.sizeOf9
 v9:=Tryz.zeroValue9
 t24:=Tryz.underlying37
 a24:=Tryz.isAgg37
 z24:=Tryz.sizeOf37
 v24:=Tryz.zeroValue37
 i9:=by kernel_rfl }
def Tryz.Jw:Go.Shelf.Ren:=⟨fun|24=>44|n=>n,fun|24=>37|9=>9|3=>3|4=>4|0=>0|n=>n,fun n=>n⟩
theorem Tryz.Rc:Go.Proofs.Lays2.n24 Tryz.prog Tryz.Jw:={
 mixed:=by kernel_rfl
 f24:=Tryz.func44.trans (congrArg some (by kernel_rfl))
 t0:=Tryz.underlying0
 a0:=Tryz.isAgg0
 z0:=Tryz.sizeOf0
 v0:=Tryz.zeroValue0
 t3:=Tryz.underlying3
 a3:=Tryz.isAgg3
 z3:=Tryz.sizeOf3
 v3:=Tryz.zeroValue3
 t4:=Tryz.underlying4
 a4:=Tryz.isAgg4
 z4:=Tryz.sizeOf4
 v4:=Tryz.zeroValue4
 t9:=Tryz.underlying9
 a9:=Tryz.isAgg9
 z9:=Tryz.sizeOf9
 v9:=Tryz.zeroValue9
 t24:=Tryz.underlying37
 a24:=Tryz.isAgg37
 z24:=Tryz.sizeOf37
 v24:=Tryz.zeroValue37
 i9:=by kernel_rfl }
end Go.Proofs
open Go Go.Eng Go.RowKit Go.Proofs Go.Shelf T1 T3 T4
open Go.Sort (putRow mapBlock onCells putCells)
set_option maxRecDepth 100000
namespace T5
theorem Zv {E E':Env} (hμ:∀ id p,E.μ id=some p->E'.μ id=some p) {h:Nat} {o:NO} {c:Nat} {x:Obj} (k:HR E (noO h o) c x):HR E' (noO h o) c x:=by
 cases o with
 | none=>exact k
 | node a n m sz mk =>
  obtain ⟨cs,rfl,hr⟩:=k;refine ⟨cs,rfl,?_⟩;simp only [R] at hr ⊢;obtain ⟨x1,_,rfl,h1,x2,_,rfl,h2,x3,_,rfl,h3,x4,_,rfl,h4,rfl⟩:=hr;refine ⟨x1,_,rfl,?_,x2,_,rfl,?_,x3,_,rfl,h3,x4,_,rfl,h4,rfl⟩
  ·rcases h1 with h1|⟨b,c,e,h⟩
   ·exact .inl h1
   ·exact .inr ⟨b,c,hμ _ _ e,h⟩
  ·obtain ⟨b,c,e,h⟩:=h2;exact ⟨b,c,hμ _ _ e,h⟩
 | map l q =>
  obtain ⟨h0,es,rfl,he⟩:=k;refine ⟨h0,es,rfl,?_⟩;clear h0;induction l generalizing es with
  | nil=>exact he
  | cons y r ih =>
   obtain ⟨e,t,rfl,h1,h2,h3,h4⟩:=he;refine ⟨e,t,rfl,h1,?_,h3,ih _ h4⟩;simp only [R] at h2 ⊢;obtain ⟨b,c,e,h⟩:=h2;exact ⟨b,c,hμ _ _ e,h⟩
 | arr l =>
  obtain ⟨cs,rfl,h1,h2,h3⟩:=k;refine ⟨cs,rfl,h1,h2,fun i hi=>?_⟩;obtain ⟨xs,k1,k2⟩:=h3 i hi;refine ⟨xs,?_,k2⟩;simp only [idE,R] at k1 ⊢;exact k1
theorem Nz {f:Nat->aT} {n:Nat} {o:aT} (h:hget [(0,.fam f)] n=some o):∃ i,n=fid 0 i/\eT? (f i)=some o:=by
 unfold hget at h;split at h
 ·rename_i hn;rw [get?_cons] at h;split at h
  ·simp [solid?] at h
  ·simp [get?] at h
 ·rename_i hn;split at h
  ·rename_i g hg;rw [get?_cons] at hg;split at hg
   ·rename_i e;cases hg;refine ⟨n / FB - 1,?_,h⟩;have:=nJ (bJ.1 hn);rw [<- e] at this;exact this.symm
   ·simp [get?] at hg
  ·cases h
theorem Gp {w W:World} {b:Nat} {x y:Array Value} {T:TypeId} {f:Nat×Nat} (h1:W.heap.size=w.heap.size) (h2:∀ k,k≠b->W.heap[k]?=w.heap[k]?) (h3:w.heap[b]?=some (.cells x T f)) (h4:W.heap[b]?=some (.cells y T f)):Kd w W:=by
 refine Kd.rA (by omega) fun k _=>?_;by_cases hk:k=b
 ·subst hk;exact .inr ⟨fun o e=>by rw [h3] at e; cases e; rfl,fun o e=>by rw [h4] at e; cases e; rfl⟩
 ·exact .inl (h2 k hk)
theorem fin {w w':World} {T U U':Nat->Prop} {μ μ':Nat->Option (Nat×Nat)} {np nx nx':Nat} {hp':List (Nat×aT)} {N':Nat->NO} (h:bO (dW w T U μ np) μ' hp' nx' w')
  (hh:∀ n,hget [(0,.fam fun q=>noO 0 (N' q))] n=hget hp' n) (h0:0 < nx) (hnx:∀ id p,μ' id=some p->id < FB->id < nx) :
  bO (dW w T U' μ np) μ' [(0,.fam fun q=>noO 0 (N' q))] nx w' where
 obj:=by
  refine ⟨?_,?_⟩
  ·intro id o e;rw [get?_cons] at e;split at e
   ·rename_i h; rw [<- h]; decide
   ·cases e
  ·intro id o e;obtain ⟨b,c,x,m,hx,hr⟩:=h.obj.obj id o (by rw [<- hh]; exact e);obtain ⟨i,_,hi⟩:=Nz e;have:=solid?_self (eT?_solid hi);subst this;exact ⟨b,c,x,m,hx,Zv (E:=aN (dW w T U μ np) μ' hp' w') (E':=aN (dW w T U' μ np) μ' [(0,.fam fun q=>noO 0 (N' q))] w') (fun _ _ e=>e) hr⟩
 inj:=by
  intro id id' o o' b c c' e e';rw [hh] at e e';exact h.inj _ _ _ _ _ _ _ e e'
 mine:=by
  intro id o b c e;rw [hh] at e;exact h.mine _ _ _ _ e
 keys:=by
  intro id o e;rw [get?_cons] at e;split at e
  ·rename_i h; rw [<- h]; exact h0
  ·cases e
 nx:=hnx
 pos:=fun id p q e hge g=>h.pos id p q e hge (by rw [<- hh]; exact g)
 fam:=by
  intro id p e hge;obtain ⟨o,ho⟩:=h.fam id p e hge;exact ⟨o,by rw [hh]; exact ho⟩
 pin:=h.pin
 frm:=h.frm
theorem rD {b:Nat} {T:TypeId}:∀ (vs:List Value) (o:Nat) (w:World) (cs:List Value),w.heap[b]?=some (.cells cs.toArray T (0,0))->o+vs.length<=cs.length ->
  ∃ cs':List Value,(w.setCells b o vs).heap[b]?=some (.cells cs'.toArray T (0,0))/\cs'.length=cs.length/\∀ k,cs'[k]?=if o<=k/\k < o+vs.length then vs[k - o]? else cs[k]?:=by
 intro vs;induction vs with
 | nil =>
  intro o w cs h _;refine ⟨cs,h,rfl,fun k=>?_⟩;rw [if_neg (by simp only [dA]; omega)]
 | cons v r ih =>
  intro o w cs h hle;have hle':o+(r.length+1)<=cs.length:=hle;have h1:(w.setCell ⟨b,o,none⟩ v).heap[b]?=some (.cells (cs.set o v).toArray T (0,0)):=by
   rw [heap_setCell_same w b o cs.toArray T v h];simp
  obtain ⟨cs',k1,k2,k3⟩:=ih (o+1) _ _ h1 (by rw [kW]; omega);refine ⟨cs',k1,by rw [k2,kW],fun k=>?_⟩;rw [k3 k];simp only [aY];by_cases hk:k=o
  ·subst hk;rw [if_neg (by omega),if_pos (by omega),eM,List.getElem?_set_self (by omega)];rfl
  ·by_cases hk2:o+1<=k/\k < o+1+r.length
   ·rw [if_pos hk2,if_pos (by omega),show k - o=(k - (o+1))+1 by omega,dL]
   ·rw [if_neg hk2,if_neg (by omega),List.getElem?_set_ne (by omega)]
theorem rE {b:Nat}:∀ (vs:List Value) (o:Nat) (w:World),(w.setCells b o vs).heap.size=w.heap.size/\(∀ k,k≠b->(w.setCells b o vs).heap[k]?=w.heap[k]?)/\(w.setCells b o vs).os=w.os/\(w.setCells b o vs).tape=w.tape/\(w.setCells b o vs).output=w.output:=by
 intro vs;induction vs with
 | nil=>intro o w; exact ⟨rfl,fun _ _=>rfl,rfl,rfl,rfl⟩
 | cons v r ih =>
  intro o w;obtain ⟨k1,k2,k3,k4,k5⟩:=ih (o+1) (w.setCell ⟨b,o,none⟩ v);refine ⟨k1.trans ?_,fun k hk=>(k2 k hk).trans (heap_setCell_other w _ k v hk),k3.trans rfl,k4.trans rfl,k5.trans rfl⟩;simp [World.setCell]
theorem Pq {E:Env} {s:B} {vs:List Value}:R E (idE s) vs ↔ vs=[encStr s]:=by
 simp only [idE,R];constructor
 ·rintro ⟨x,xs,rfl,h1,rfl⟩;rw [aC.1 h1]
 ·rintro rfl;exact ⟨_,[],rfl,rfl,rfl⟩
theorem Py {w:World} {T U:Nat->Prop} {μ:Nat->Option (Nat×Nat)} {np nx a b c:Nat} {hp:List (Nat×aT)} {N:Nat->NO} {A:List B} (h:bO (dW w T U μ np) μ hp nx w) (hf:get? hp 0=some (.fam fun q=>noO 0 (N q)))
  (hA:N a=.arr A) (h0:0 < A.length) (hm:μ (fid 0 a)=some (b,c)) :
  hget hp (fid 0 a)=some (noO 0 (.arr A))/\∃ cs:List Value,w.heap[b]?=some (.cells cs.toArray 9 (0,0))/\cs.length=c/\A.length<=c/\c<=9223372036854775807/\∀ j,j < A.length->cs[j]?=some (encStr (A.getD j [])):=by
 have hg:hget hp (fid 0 a)=some (noO 0 (.arr A)):=by
  rw [kH (by decide) hf,hA];exact dJ h0
 refine ⟨hg,?_⟩;obtain ⟨b',c',x,e1,e2,e3⟩:=h.obj.obj _ _ hg;have e1':μ (fid 0 a)=some (b',c'):=e1;rw [hm] at e1';cases e1';obtain ⟨cs,rfl,k1,k2,k3⟩:=e3;refine ⟨cs,e2,by omega,by omega,by omega,fun j hj=>?_⟩;obtain ⟨xs,r1,_,r3⟩:=k3 j hj;rw [Pq] at r1;subst r1;have:=r3 0 _ rfl;simpa using this
theorem Ih {E:Env} {h c:Nat} {A:List B} {cs:List Value} (h1:cs.length=c) (h2:A.length<=c) (h3:c<=9223372036854775807) (h4:∀ j,j < A.length->cs[j]?=some (encStr (A.getD j []))):HR E (noO h (.arr A)) c (.cells cs.toArray 9 (0,0)):=by
 refine ⟨cs,rfl,by omega,⟨h2,h3⟩,fun i hi=>⟨_,Pq.2 rfl,rfl,?_⟩⟩;intro j v hv;have hj:j=0:=by
  have:=(aR.1 hv).1;simpa using this
 subst hj;have hv':v=encStr (A.getD i []):=by simpa using hv.symm
 rw [hv',<- h4 i hi];congr 1;omega
theorem Ao {N:Nat->NO} {a:Nat} {x:NO} (hx:eT? (noO 0 x)=some (noO 0 x)) (n:Nat) :
  hget [(0,.fam fun q=>noO 0 (put N a x q))] n=if fid 0 a=n then some (noO 0 x) else hget [(0,.fam fun q=>noO 0 (N q))] n:=by
 have h:=nC (hp:=[(0,.fam fun q=>noO 0 (N q))]) (h:=0) (i:=a) (f:=fun q=>noO 0 (N q)) (x:=noO 0 x) (by decide) rfl hx n;have e:(fun q=>noO 0 (put N a x q))=fun j=>bif Nat.beq j a then noO 0 x else noO 0 (N j):=by
  funext q;unfold put;cases Nat.beq q a <;> rfl
 rw [<- h,e];unfold hget;simp only [get?_cons];by_cases h1:n < FB
 ·simp only [h1,if_true];by_cases h2:0=n
  ·subst h2; rfl
  ·simp [h2]
 ·simp only [h1,if_false];by_cases h2:0=n % FB
  ·simp [h2]
  ·simp [h2]
def wB (A:List B) (n i:Nat):List B:=(A.take n).take i++(A.take n).drop (i+1)++[[]]
theorem P8 {A:List B} {n i:Nat} (hi:i < n) (hn:n<=A.length):(wB A n i).length=n:=by
 unfold wB;simp only [aV,cG,cN,aY,dA];omega
def Xw:bU where
 X:=(Nat->NO)×Nat×List B×Nat×Nat
 Y:=Unit
 args:=fun x=>.cons (.flsl 0 x.2.1 1 x.2.2.2.1) (.cons (.int .i64 (x.2.2.2.2:Int)) (.cons (.int .i64 ((x.2.2.2.2:Int)+1)) .nil))
 pre:=fun x=>x.1 x.2.1=.arr x.2.2.1/\x.2.2.2.2 < x.2.2.2.1/\x.2.2.2.1<=x.2.2.1.length
 h0:=fun x=>[(0,.fam fun q=>noO 0 (x.1 q))]
 nx0:=1
 post:=fun _ _=>True
 res:=fun x _=>.flsl 0 x.2.1 1 (x.2.2.2.1 - 1)
 h1:=fun x _=>[(0,.fam fun q=>noO 0 (put x.1 x.2.1 (.arr (wB x.2.2.1 x.2.2.2.1 x.2.2.2.2)) q))]
 nx1:=1
theorem Xx:Xw.Ok Tryz.prog 44:=by
 refine ⟨enters_of Tryz.Rc.f24 (by kernel_rfl) rfl,?_⟩;rintro ⟨N,a,A,n,i⟩ w μ vs T U hU _ hh ⟨(hA:N a=.arr A),(hi:i < n),(hn:n<=A.length)⟩ hR;have hh0:bO (dW w T U μ 1) μ [(0,.fam fun q=>noO 0 (N q))] 1 w:=hh;obtain ⟨v1,s1,rfl,r1,hR⟩:=mV hR;obtain ⟨v2,s2,rfl,r2,hR⟩:=mV hR;obtain ⟨v3,s3,rfl,r3,hR⟩:=mV hR;obtain rfl:s3=[]:=by simpa only [R] using hR
 simp only [R] at r1 r2 r3;obtain rfl:=aC.1 r2;obtain rfl:=aC.1 r3;rcases r1 with ⟨h,_⟩|⟨b,c,m1,hv,hle⟩
 ·omega
 obtain rfl:=aC.1 hv;have m1':μ (fid 0 a)=some (b,c):=m1;obtain ⟨hg,cs,hb,hcl,hlc,hcm,hel⟩:=Py hh0 rfl hA (by omega) m1';have hlen:(A.take n).length=n:=by simp; omega
 have hH:Go.Sort.Holds encStr w b 0 (A.take n).toArray:=by
  intro j hj;have hj':j < n:=by simpa [hlen] using hj
  have hjA:j < A.length:=by omega
  have hc:=hel j hjA;have eA:A.getD j []=A[j]:=by rw [aE,aH hjA]; rfl
  rw [eA] at hc;refine ⟨?_,by simp [World.frozen?,hb]⟩;rw [getElem!_pos (A.take n).toArray j hj];simp only [World.cell?,hb,Option.isSome_none,dU,if_false,aW];simp only [kA,List.getElem_toArray,eY];exact hc
 have main:=Any.slices_Delete_string Tryz.Rc b 0 c i (i+1) (A.take n) w hH (by omega) hcm (by omega) (by omega);rw [hlen,show n - (i+1 - i)=n - 1 by omega,show (i+1) - i=1 by omega] at main;refine Calls.mono (show Calls Tryz.prog 44 _ w _ from main) ?_;rintro e w' ⟨rfl,q,rfl⟩;obtain ⟨L,hL⟩:∃ L,L=wB A n i:=⟨_,rfl⟩;have hLl:L.length=n:=by rw [hL]; exact P8 hi hn
 have hL':(A.take n).take i++(A.take n).drop (i+1)++List.replicate 1 []=L:=by rw [hL]; rfl
 rw [hL'];generalize hW:putRow encStr (Sort.ahead w q) b 0 L.toArray=W;have hblk:b < w.heap.size:=(aS.1 hb).1;have hheap:W.heap[b]?=some (.cells (putCells encStr 0 L.toArray cs.toArray).toList.toArray 9 (0,0)):=by
  rw [<- hW];simp [putRow,mapBlock,Sort.ahead,Array.getElem?_modify,hb,onCells]
 have hother:∀ k,k≠b->W.heap[k]?=w.heap[k]?:=by
  intro k hk;rw [<- hW];simp [putRow,mapBlock,Sort.ahead,Array.getElem?_modify,Ne.symm hk]
 have hsz:W.heap.size=w.heap.size:=by
  rw [<- hW];simp [putRow,mapBlock,Sort.ahead]
 have hHR:HR (aN (dW w T U μ 1) μ [(0,.fam fun q=>noO 0 (N q))] w) (noO 0 (.arr L)) c (.cells (putCells encStr 0 L.toArray cs.toArray).toList.toArray 9 (0,0)):=by
  refine Ih (by simp [putCells,hcl]) (by omega) hcm (fun j hj=>?_);have hlc':j < cs.length:=by omega
  have eL:L.toArray[j]! = L.getD j []:=by
   rw [aE,aH hj,getElem!_pos L.toArray j (by simpa using hj)];simp
  simp only [putCells,Array.toList_mapIdx,List.getElem?_mapIdx,aH hlc',cL,bB,true_and,aW,fA,hj,if_true,Nat.sub_zero];exact congrArg (fun s=>some (encStr s)) eL
 have hL0:0 < L.length:=by omega
 obtain ⟨k1,k2⟩:=hh0.write (hp':=[(0,.fam fun q=>noO 0 (put N a (.arr L) q))]) (x:=noO 0 (.arr L)) (id:=fid 0 a) (b:=b) (c:=c) (o:=noO 0 (.arr A)) (w':=W) (y:=.cells (putCells encStr 0 L.toArray cs.toArray).toList.toArray 9 (0,0))
  (fun n=>Ao (x:=.arr L) (dJ hL0) n) (fun n o' e=>by
   rw [get?_cons] at e ⊢;split at e
   ·rename_i h; exact ⟨_,if_pos h⟩
   ·cases e) hg m1' hsz hother hheap (by rw [<- hW]; rfl) (by rw [<- hW]; rfl) (by rw [<- hW]; rfl) hHR (fun l p e=>by cases e) (fun h=>by cases h)
 refine ⟨(),μ,trivial,?_,?_,k1.kd⟩
 ·show bO (dW w T _ μ 1) μ [(0,.fam fun q=>noO 0 (put N a (.arr (wB A n i)) q))] 1 W;rw [<- hL];exact fin k2 (fun _=>rfl) (by decide) hh0.nx
 ·simp only [Xw,R];exact .inr ⟨b,c,m1',rfl,by omega⟩
def pZ (A:List B) (n i:Nat) (v:B):List B:=(A.take n).take i++v::(A.take n).drop i
theorem Mc {A:List B} {n i:Nat} {v:B} (hi:i<=n) (hn:n<=A.length):(pZ A n i v).length=n+1:=by
 unfold pZ;simp only [aV,cG,cN,aY];omega
theorem Ul {A:List B} {n i:Nat} {v:B} (hi:i<=n) (hn:n<=A.length) {j:Nat} (hj:j < n+1):(pZ A n i v).getD j []=if j < i then A.getD j [] else if j=i then v else A.getD (j - 1) []:=by
 unfold pZ;simp only [aE];have hl:((A.take n).take i).length=i:=by simp; omega
 by_cases h1:j < i
 ·rw [if_pos h1,aU (by omega),cH h1,cH (by omega)]
 ·rw [if_neg h1,bG (by omega),hl];by_cases h2:j=i
  ·rw [if_pos h2,h2,eM]; rfl
  ·rw [if_neg h2,show j - i=(j - 1 - i)+1 by omega,dL,bQ,cH (by omega)];congr 2;omega
structure IX where
 N:Nat->NO
 a:Nat
 A:List B
 n:Nat
 i:Nat
 v:B
 d:Nat
def qQ:bU where
 X:=IX
 Y:=Nat
 args:=fun x=>.cons (.flsl 0 x.a 1 x.n) (.cons (.int .i64 (x.i:Int)) (.cons (.lsl 1 1 1) .nil))
 pre:=fun x=>(x.A=[]->x.N x.a=.none)/\(x.A≠[]->x.N x.a=.arr x.A)/\x.i<=x.n/\x.n<=x.A.length/\x.n < 1000000/\x.N x.d=.none
 h0:=fun x=>[(0,.fam fun q=>noO 0 (x.N q)),(1,.arr 9 1 1 fun _=>idE x.v)]
 nx0:=2
 post:=fun x y=>(y=x.a/\x.A≠[])\/y=x.d
 res:=fun x y=>.flsl 0 y 1 (x.n+1)
 h1:=fun x y=>[(0,.fam fun q=>noO 0 (put x.N y (.arr (pZ x.A x.n x.i x.v)) q))]
 nx1:=2
theorem Hb {w W:World} {T U:Nat->Prop} {μ:Nat->Option (Nat×Nat)} {np nx d gc:Nat} {N:Nat->NO} {L:List B} {cs:List Value} (h:bO (dW w T U μ np) μ [(0,.fam fun q=>noO 0 (N q))] nx w) (hd:N d=.none) (hL:0 < L.length)
  (hs:W.heap.size=w.heap.size+1) (hsame:∀ k,k < w.heap.size->W.heap[k]?=w.heap[k]?) (hnew:W.heap[w.heap.size]?=some (.cells cs.toArray 9 (0,0))) (ho:W.os=w.os) (ht:W.tape=w.tape) (hu:W.output=w.output)
  (h1:cs.length=gc) (h2:L.length<=gc) (h3:gc<=9223372036854775807) (h4:∀ j,j < L.length->cs[j]?=some (encStr (L.getD j []))) :
  bO (dW w T U μ np) (upd μ (fid 0 d) (w.heap.size,gc)) [(0,.fam fun q=>noO 0 (put N d (.arr L) q))] nx W:=by
 have hm:μ (fid 0 d)=none:=by
  cases e:μ (fid 0 d) with
  | none=>rfl
  | some p =>
   obtain ⟨o,ho'⟩:=h.fam _ p e (dO 0 d);rw [kH (by decide) rfl,hd] at ho';cases ho'
 have hsol:eT? (noO 0 (.arr L))=some (noO 0 (.arr L)):=dJ hL;obtain ⟨_,k2⟩:=h.Df (hp':=[(0,.fam fun q=>noO 0 (put N d (.arr L) q))]) hm (dO 0 d) (.cells cs.toArray 9 (0,0)) (noO 0 (.arr L)) gc (fun n=>Ao hsol n) (fun n o' e=>by
   rw [get?_cons] at e ⊢;split at e
   ·rename_i h; exact ⟨_,if_pos h⟩
   ·cases e) (Ih h1 h2 h3 h4)
 refine k2.below ⟨ho,ht,hu,by simp only [World.size_alloc]; omega,fun k hk=>?_,fun e=>by cases e⟩;simp only [World.size_alloc] at hk;by_cases hk2:k=w.heap.size
 ·subst hk2;rw [hnew];exact (heap_alloc_new w _).symm
 ·rw [hsame k (by omega)];exact (Go.Eng.Below.heap_alloc w _ k (by omega)).symm
theorem He {w W:World} {T U U':Nat->Prop} {μ:Nat->Option (Nat×Nat)} {np nx a b c:Nat} {N:Nat->NO} {A L:List B} {cs:List Value} (h:bO (dW w T U μ np) μ [(0,.fam fun q=>noO 0 (N q))] nx w)
  (hg:hget [(0,.fam fun q=>noO 0 (N q))] (fid 0 a)=some (noO 0 (.arr A))) (hm:μ (fid 0 a)=some (b,c)) (hL:0 < L.length) (h0:0 < nx) (hnx:∀ id p,μ id=some p->id < FB->id < nx)
  (hs:W.heap.size=w.heap.size) (hsame:∀ k,k≠b->W.heap[k]?=w.heap[k]?) (hnew:W.heap[b]?=some (.cells cs.toArray 9 (0,0))) (ho:W.os=w.os) (ht:W.tape=w.tape) (hu:W.output=w.output)
  (h1:cs.length=c) (h2:L.length<=c) (h3:c<=9223372036854775807) (h4:∀ j,j < L.length->cs[j]?=some (encStr (L.getD j []))) :
  bO (dW w T U' μ np) μ [(0,.fam fun q=>noO 0 (put N a (.arr L) q))] nx W:=by
 obtain ⟨_,k2⟩:=h.write (hp':=[(0,.fam fun q=>noO 0 (put N a (.arr L) q))]) (x:=noO 0 (.arr L)) (id:=fid 0 a) (b:=b) (c:=c) (o:=noO 0 (.arr A)) (w':=W) (y:=.cells cs.toArray 9 (0,0))
  (fun n=>Ao (x:=.arr L) (dJ hL) n) (fun n o' e=>by
   rw [get?_cons] at e ⊢;split at e
   ·rename_i h; exact ⟨_,if_pos h⟩
   ·cases e) hg hm hs hsame hnew ho ht hu (Ih h1 h2 h3 h4) (fun l p e=>by cases e) (fun h=>by cases h)
 exact fin k2 (fun _=>rfl) h0 hnx
theorem Ym:qQ.Ok Tryz.prog 46:=by
 refine ⟨enters_of Tryz.Az.f22 (by kernel_rfl) rfl,?_⟩;rintro ⟨N,a,A,n,i,v,d⟩ w μ vs T U hU _ hh ⟨(hA0:A=[]->N a=.none),(hA1:A≠[]->N a=.arr A),(hi:i<=n),(hn:n<=A.length),(hbig:n < 1000000),(hd:N d=.none)⟩ hR;have hh0:bO (dW w T U μ 2) μ [(0,.fam fun q=>noO 0 (N q)),(1,.arr 9 1 1 fun _=>idE v)] 2 w:=hh;obtain ⟨v1,s1,rfl,r1,hR⟩:=mV hR;obtain ⟨v2,s2,rfl,r2,hR⟩:=mV hR;obtain ⟨v3,s3,rfl,r3,hR⟩:=mV hR;obtain rfl:s3=[]:=by simpa only [R] using hR
 simp only [R] at r1 r2 r3;obtain rfl:=aC.1 r2;have hg1:hget [(0,aT.fam fun q=>noO 0 (N q)),(1,.arr 9 1 1 fun _=>idE v)] 1=some (.arr 9 1 1 fun _=>idE v):=kR (by decide) rfl rfl;rcases r3 with ⟨h,_⟩|⟨_,vb,vc,mv,hv3,hvle⟩
 ·cases h
 obtain rfl:=aC.1 hv3;have mv':μ 1=some (vb,vc):=mv;obtain ⟨b',c',x,e1,e2,cs1,rfl,q1,q2,q3⟩:=hh0.obj.obj _ _ hg1;have e1':μ 1=some (b',c'):=e1;rw [mv'] at e1';cases e1';have hvb:w.heap[vb]?=some (.cells cs1.toArray 9 (0,0)):=e2;obtain ⟨xs,t1,_,t3⟩:=q3 0 (by decide);rw [Pq] at t1;subst t1;have hc1:cs1[0]?=some (encStr v):=by simpa using t3 0 _ rfl
 have hcellv:∀ j u,[encStr v][j]?=some u->w.cell? ⟨vb,0+j,none⟩=some u:=by
  intro j u hu;have hj:j=0:=by
   have:=(aR.1 hu).1;simpa using this
  subst hj;obtain rfl:encStr v=u:=by simpa using hu
  simp [World.cell?,hvb,hc1]
 have hone:∀ u∈[encStr v],u.oneCell'=true:=by
  intro u hu;rw [dH.1 hu];rfl
 have hh1:bO (dW w T U μ 2) μ [(0,.fam fun q=>noO 0 (N q))] 2 w:=(hh0.wD (k:=1) (o0:=.arr 9 1 1 fun _=>idE v) rfl rfl).2;obtain ⟨L,hL⟩:∃ L,L=pZ A n i v:=⟨_,rfl⟩;have hLl:L.length=n+1:=by rw [hL]; exact Mc hi hn
 have hLg:∀ {j:Nat},j < n+1->L.getD j []=if j < i then A.getD j [] else if j=i then v else A.getD (j - 1) []:=fun hj=>by rw [hL]; exact Ul hi hn hj
 have goal:∀ (W:World) (y b2 c2:Nat) (μ':Nat->Option (Nat×Nat)),((y=a/\A≠[])\/y=d)->bO (dW w T (Ufresh true U) μ 2) μ' [(0,.fam fun q=>noO 0 (put N y (.arr L) q))] 2 W->μ' (fid 0 y)=some (b2,c2)->n+1<=c2->Kd w W ->
   ∃ y μ',qQ.post ⟨N,a,A,n,i,v,d⟩ y/\bO (dW w T (Ufresh qQ.fresh U) μ qQ.nx0) μ' (qQ.h1 ⟨N,a,A,n,i,v,d⟩ y) qQ.nx1 W/\R (aN (dW w T (Ufresh qQ.fresh U) μ qQ.nx0) μ' (qQ.h1 ⟨N,a,A,n,i,v,d⟩ y) W) (qQ.res ⟨N,a,A,n,i,v,d⟩ y) [.slice (some ⟨b2,0,none⟩) (n+1) c2]/\Kd w W:=by
  intro W y b2 c2 μ' hy h2 hm hc hkd;refine ⟨y,μ',hy,?_,?_,hkd⟩
  ·show bO (dW w T (Ufresh true U) μ 2) μ' [(0,.fam fun q=>noO 0 (put N y (.arr (pZ A n i v)) q))] 2 W;rw [<- hL];exact h2
  ·simp only [qQ,R];exact .inr ⟨b2,c2,hm,rfl,hc⟩
 have updm:∀ gc,upd μ (fid 0 d) (w.heap.size,gc) (fid 0 d)=some (w.heap.size,gc):=fun gc=>by simp [upd]
 have updn:∀ gc id p,upd μ (fid 0 d) (w.heap.size,gc) id=some p->id < FB->id < 2:=by
  intro gc id p e hlt;have:id≠fid 0 d:=by have:=dO 0 d; omega
  simp only [upd,this,if_false] at e;exact hh0.nx _ _ e hlt
 -- a new row,at the end
 have grow_end:∀ (base:Option Addr) (c:Nat) (csv:List Value),i=n->c < n+1->n<=c->csv.length=n->(base=none->n=0)->(∀ ad,base=some ad->∀ j u,csv[j]?=some u->w.cell? (ad.add j)=some u)->(∀ j,j < n->csv[j]?=some (encStr (A.getD j []))) ->
   Calls Tryz.prog 46 #[.slice base n c,.int .i64 (i:Int),.slice (some ⟨vb,0,none⟩) 1 vc] w fun e w'=>∃ u,e=.returned u/\∃ y μ',qQ.post ⟨N,a,A,n,i,v,d⟩ y/\bO (dW w T (Ufresh qQ.fresh U) μ qQ.nx0) μ' (qQ.h1 ⟨N,a,A,n,i,v,d⟩ y) qQ.nx1 w'/\R (aN (dW w T (Ufresh qQ.fresh U) μ qQ.nx0) μ' (qQ.h1 ⟨N,a,A,n,i,v,d⟩ y) w') (qQ.res ⟨N,a,A,n,i,v,d⟩ y) [u]/\Kd w w':=by
  rintro base c csv rfl hc hnc hcl hbn hcs hcv;have main:=Any2.slices_Insert_string_end_grow Tryz.Az base i c vb 0 1 vc csv [encStr v] w (by decide) hnc hc (by omega) hcl rfl hbn hcs hcellv hone;refine Calls.mono (show Calls Tryz.prog 46 _ w _ from main) ?_;rintro e w' ⟨rfl,rfl⟩;have hgc:=grownCap_ge w (i+1) c 9;have hgm:grownCap w (i+1) c 9<=9223372036854775807:=by have:=grownCap_le_maxLen w (i+1) c 9 (by simp only [maxLen]; omega); simpa only [maxLen] using this
  obtain ⟨gc,hq⟩:∃ gc,gc=grownCap w (i+1) c 9:=⟨_,rfl⟩;rw [<- hq] at hgc hgm;obtain ⟨cs,hcsd⟩:∃ cs:List Value,cs=((csv++[encStr v]).toArray++Builtin.zeroCells (Value.string ⟨#[]⟩).cells (gc - (i+1))).toList:=⟨_,rfl⟩;have hcslen:cs.length=gc:=by
   rw [hcsd];simp only [gI,lX,fA,aV,aY,dA,size_zeroCells,hcl];show i+(0+1)+(gc - (i+1)) * 1=gc;omega
  have hcsg:∀ j,j < L.length->cs[j]?=some (encStr (L.getD j [])):=by
   intro j hj;have hj':j < i+1:=by omega
   rw [hcsd,iQ,aU (by simp; omega)];show (csv++[encStr v])[j]?=_;rw [hLg hj'];by_cases h1:j < i
   ·rw [if_pos h1,aU (by omega)];exact hcv j h1
   ·have:j=i:=by omega
    subst this;rw [if_neg h1,if_pos rfl,bG (by omega),hcl,eM];rfl
  refine ⟨.slice (some ⟨w.heap.size,0,none⟩) (i+1) gc,by rw [hq]; rfl,?_⟩;have hWd:w.drew.alloc (.cells ((csv++[encStr v]).toArray++Builtin.zeroCells (Value.string ⟨#[]⟩).cells (grownCap w (i+1) c (Tryz.nS.t 9) - (i+1))) (Tryz.nS.t 9))=w.drew.alloc (.cells cs.toArray 9 (0,0)):=by
   rw [hcsd,hq,Array.toArray_toList];rfl
  rw [hWd];refine goal _ d w.heap.size gc (upd μ (fid 0 d) (w.heap.size,gc)) (.inr rfl) ?_ (updm gc) (by omega) (Kd.kY ((Eng.Below.refl _ _).drew.alloc (aL _) _));have:=Hb (W:=w.drew.alloc (.cells cs.toArray 9 (0,0))) (gc:=gc) (L:=L) (cs:=cs) hh1 hd (by omega) (World.size_alloc w.drew _) (fun k hk=>by
   have:=Go.Eng.Below.heap_alloc w.drew (.cells cs.toArray 9 (0,0)) k hk;exact this) (heap_alloc_new w.drew _) rfl rfl rfl hcslen (by omega) hgm hcsg
  exact fin this (fun _=>rfl) (by decide) (updn gc)
 rcases r1 with ⟨hn0,a0,hv1⟩|⟨b,c,m1,hv1,hle⟩
 ·obtain rfl:=aC.1 hv1;subst hn0;refine (grow_end a0 0 [] (by omega) (by omega) (by omega) rfl (fun _=>rfl) (fun ad _ j u hj=>by simp at hj) (fun j hj=>absurd hj (bP j))).mono ?_;rintro e w' ⟨u,rfl,h⟩;exact h
 obtain rfl:=aC.1 hv1;have m1':μ (fid 0 a)=some (b,c):=m1;have hne:A≠[]:=by
  intro e;obtain ⟨o,ho⟩:=hh1.fam _ _ m1' (dO 0 a);rw [kH (by decide) rfl,hA0 e] at ho;cases ho
 have hpos:0 < A.length:=by
  cases A with
  | nil=>exact absurd rfl hne
  | cons=>simp
 obtain ⟨hg,cs,hb,hcl,hlc,hcm,hel⟩:=Py hh1 rfl (hA1 hne) hpos m1';have cellb:∀ k,w.cell? ⟨b,k,none⟩=cs[k]?:=fun k=>by simp [World.cell?,hb]
 have frz:∀ k,w.frozen? ⟨b,k,none⟩=false:=fun k=>by simp [World.frozen?,hb]
 have htk:∀ j,j < n->(cs.take n)[j]?=some (encStr (A.getD j [])):=fun j hj=>by rw [cH hj]; exact hel j (by omega)
 have htl:(cs.take n).length=n:=by simp; omega
 have htc:∀ j u,(cs.take n)[j]?=some u->w.cell? ⟨b,0+j,none⟩=some u:=fun j u hj=>by
  have hjn:j < n:=by have:=(aR.1 hj).1; omega
  rw [cellb,aW,<- hj,cH hjn]
 by_cases hroom:n+1<=c
 ·by_cases hin:i=n
  ·subst hin;have main:=Any2.slices_Insert_string_end_room Tryz.Az b 0 i c vb 0 1 vc [encStr v] w (by decide) hroom hcm rfl (fun j hj=>by rw [cellb]; simp; omega) (fun j _=>frz _) hcellv hone;refine Calls.mono (show Calls Tryz.prog 46 _ w _ from main) ?_;rintro e w' ⟨rfl,rfl⟩;obtain ⟨cs',k1,k2,k3⟩:=rD [encStr v] (0+i) w cs hb (by simp; omega);obtain ⟨f1,f2,f3,f4,f5⟩:=rE (b:=b) [encStr v] (0+i) w;refine goal _ a b c μ (.inl ⟨rfl,hne⟩) (He hh1 hg m1' (by omega) (by decide) hh1.nx f1 f2 k1 f3 f4 f5 (by omega) (by omega) hcm (fun j hj=>?_)) m1' hroom (Gp f1 f2 hb k1);have hj':j < i+1:=by omega
   rw [k3 j,hLg hj'];by_cases h1:j < i
   ·rw [if_neg (by omega),if_pos h1];exact hel j (by omega)
   ·have:j=i:=by omega
    subst this;rw [if_pos (by simp),if_neg h1,if_pos rfl,aW,eM];rfl
  ·have hlt:i < n:=by omega
   have hvbb:vb≠b:=by
    intro e;subst e;have:=hh0.inj (fid 0 a) 1 _ _ vb c vc (by rw [kH (by decide) rfl,hA1 hne]; exact dJ hpos) hg1 m1' mv';have:=dO 0 a;have:FB=1048576:=rfl;omega
   have main:=Any2.slices_Insert_string_shift Tryz.Az b 0 n c i vb 0 1 vc (cs.take n) [encStr v] w hlt (by decide) hroom hcm hvbb htl rfl htc (fun j hj=>by rw [cellb]; simp; omega) (fun j _=>frz _) hcellv
    (fun u hu=>by
     obtain ⟨j,hj,e⟩:=cU hu;have:=htk j (by omega);rw [aH hj,e] at this;rw [bK this];rfl) hone 9 9 cs1.length cs.length (by simp [World.shape?,hvb]) (by simp [World.shape?,hb]) (by omega) (by simp [World.frozen?,hvb]) (by simp [World.frozen?,hvb])
   refine Calls.mono (show Calls Tryz.prog 46 _ w _ from main) ?_;rintro e w' ⟨rfl,rfl⟩;have hdl:((cs.take n).drop i).length=n - i:=by simp; omega
   obtain ⟨cs2,k1,k2,k3⟩:=rD ((cs.take n).drop i) (0+(i+1)) w.drew cs hb (by omega);obtain ⟨f1,f2,f3,f4,f5⟩:=rE (b:=b) ((cs.take n).drop i) (0+(i+1)) w.drew;obtain ⟨cs3,j1,j2,j3⟩:=rD [encStr v] (0+i) _ cs2 k1 (by simp; omega);obtain ⟨g1,g2,g3,g4,g5⟩:=rE (b:=b) [encStr v] (0+i) (w.drew.setCells b (0+(i+1)) ((cs.take n).drop i));refine goal _ a b c μ (.inl ⟨rfl,hne⟩) (He hh1 hg m1' (by omega) (by decide) hh1.nx (g1.trans f1) (fun k hk=>(g2 k hk).trans (f2 k hk)) j1 (g3.trans f3) (g4.trans f4) (g5.trans f5) (by omega) (by omega) hcm (fun j hj=>?_)) m1' hroom (Gp (g1.trans f1) (fun k hk=>(g2 k hk).trans (f2 k hk)) hb j1);have hj':j < n+1:=by omega
   rw [j3 j,hLg hj'];by_cases h1:j < i
   ·rw [if_neg (by omega),k3 j,if_neg (by omega),if_pos h1];exact hel j (by omega)
   ·by_cases h2:j=i
    ·subst h2;rw [if_pos (by simp),if_neg h1,if_pos rfl,aW,eM];rfl
    ·rw [if_neg (by simp; omega),k3 j,if_pos (by omega),if_neg h1,if_neg h2,bQ,show i+(j - (0+(i+1)))=j - 1 by omega];exact htk (j - 1) (by omega)
 ·by_cases hin:i=n
  ·refine (grow_end (some ⟨b,0,none⟩) c (cs.take n) hin (by omega) hle htl (fun e=>by cases e) (fun ad e j u hj=>by
    cases e;rw [Fx];exact htc j u hj) htk).mono ?_
   rintro e w' ⟨u,rfl,h⟩;exact h
  ·have hlt:i < n:=by omega
   have main:=Any2.slices_Insert_string_grow Tryz.Az b 0 n c i vb 0 1 vc (cs.take n) [encStr v] w hlt (by decide) hle (by omega) (by omega) htl rfl htc hcellv (fun u hu=>by
     obtain ⟨j,hj,e⟩:=cU hu;have:=htk j (by omega);rw [aH hj,e] at this;rw [bK this];rfl) hone
   refine Calls.mono (show Calls Tryz.prog 46 _ w _ from main) ?_;rintro e w' ⟨rfl,rfl⟩;have hgc:=grownCap_ge w (n+1) c 9;have hgm:grownCap w (n+1) c 9<=9223372036854775807:=by have:=grownCap_le_maxLen w (n+1) c 9 (by simp only [maxLen]; omega); simpa only [maxLen] using this
   obtain ⟨gc,hq⟩:∃ gc,gc=grownCap w (n+1) c 9:=⟨_,rfl⟩;rw [<- hq] at hgc hgm;obtain ⟨X,hX⟩:∃ X:List Value,X=(((cs.take n).take i).toArray++Builtin.zeroCells (Value.string ⟨#[]⟩).cells (n+1 - i)++Builtin.zeroCells (Value.string ⟨#[]⟩).cells (gc - (n+1))).toList:=⟨_,rfl⟩;have hXl:X.length=gc:=by
    rw [hX];simp only [gI,lX,fA,size_zeroCells,cG];show min i (min n cs.length)+(n+1 - i) * 1+(gc - (n+1)) * 1=gc;omega
   have hXi:∀ j,j < i->X[j]?=some (encStr (A.getD j [])):=by
    intro j hj;rw [hX,iQ,iQ,cP,aU (by simp; omega)];show ((cs.take n).take i)[j]?=_;rw [cH hj];exact htk j (by omega)
   have hWd:w.alloc (.cells (((cs.take n).take i).toArray++Builtin.zeroCells (Value.string ⟨#[]⟩).cells (n+1 - i)++Builtin.zeroCells (Value.string ⟨#[]⟩).cells (grownCap w (n+1) c (Tryz.nS.t 9) - (n+1))) (Tryz.nS.t 9))=w.alloc (.cells X.toArray 9 (0,0)):=by
    rw [hX,hq,Array.toArray_toList];rfl
   rw [hWd];have hv:(.slice (some ⟨w.heap.size,0,none⟩) (n+1) (grownCap w (n+1) c (Tryz.nS.t 9)):Value)=.slice (some ⟨w.heap.size,0,none⟩) (n+1) gc:=by rw [hq]; rfl
   rw [hv];have hdl:((cs.take n).drop i).length=n - i:=by simp; omega
   obtain ⟨cs2,k1,k2,k3⟩:=rD [encStr v] i (w.alloc (.cells X.toArray 9 (0,0))).drew X (heap_alloc_new w _) (by simp; omega);obtain ⟨f1,f2,f3,f4,f5⟩:=rE (b:=w.heap.size) [encStr v] i (w.alloc (.cells X.toArray 9 (0,0))).drew;obtain ⟨cs3,j1,j2,j3⟩:=rD ((cs.take n).drop i) (i+1) ((w.alloc (.cells X.toArray 9 (0,0))).drew.setCells w.heap.size i [encStr v]).drew cs2 k1 (by omega);obtain ⟨g1,g2,g3,g4,g5⟩:=rE (b:=w.heap.size) ((cs.take n).drop i) (i+1) ((w.alloc (.cells X.toArray 9 (0,0))).drew.setCells w.heap.size i [encStr v]).drew;have hs1:(w.alloc (.cells X.toArray 9 (0,0))).heap.size=w.heap.size+1:=World.size_alloc _ _;refine goal _ d w.heap.size gc (upd μ (fid 0 d) (w.heap.size,gc)) (.inr rfl) ?_ (updm gc) (by omega) (Kd.rA (by have:=g1.trans (f1.trans hs1); omega) fun k hk=>.inl ((g2 k (by omega)).trans ((f2 k (by omega)).trans (Go.Eng.Below.heap_alloc w _ k hk))));refine fin (Hb (gc:=gc) (L:=L) (cs:=cs3) hh1 hd (by omega) (g1.trans (f1.trans hs1)) (fun k hk=>?_) j1 (g3.trans f3) (g4.trans f4) (g5.trans f5) (by omega) (by omega) hgm (fun j hj=>?_)) (fun _=>rfl) (by decide) (updn gc)
   ·exact (g2 k (by omega)).trans ((f2 k (by omega)).trans (Go.Eng.Below.heap_alloc w _ k hk))
   ·have hj':j < n+1:=by omega
    rw [j3 j,hLg hj'];by_cases h1:j < i
    ·rw [if_neg (by omega),k3 j,if_neg (by omega),if_pos h1];exact hXi j h1
    ·by_cases h2:j=i
     ·subst h2;rw [if_neg (by omega),k3 j,if_pos (by simp),if_neg h1,if_pos rfl,eM];rfl
     ·rw [if_pos (by omega),if_neg h1,if_neg h2,bQ,show i+(j - (i+1))=j - 1 by omega];exact htk (j - 1) (by omega)
end T5
end
section
open Go Go.Eng Go.Proofs T1 T2 T3 T4 T5
set_option maxRecDepth 100000
namespace T6
def Er (t i:B):SV:=.cons (.str t) (.cons (.str i) .nil)
def uI (N:Nat->NO) (r:Nat) (t i:B):Bool :=
 match atN N r t with
 | some v=>decide (i∈oV N v)
 | none=>false
theorem _root_.T1.Cl.at {N:Nat->NO} {c:Nat} (h:Cl N c):∀ {t:B} {r v:Nat},isNode N r->atN N r t=some v->isNode N v:=by
 intro t;induction t with
 | nil=>intro r v hr e; cases e; exact hr
 | cons b t ih =>
  intro r v hr e;simp only [atN] at e;split at e
  ·cases e
  ·rename_i u hu;exact ih (h.kid hu) e
theorem zY {k:Keep} {hp:List (Nat×aT)} {m h h' a n:Nat} {N:Nat->NO} {f:Nat->aT} (hf:get? hp h=some (.fam f)) (hi:Is h' (f a) (N a)) (hk:kept k h=false) (hl:(N a=.none/\n=0)\/∃ A,N a=.arr A/\A≠[]/\n<=A.length) {l:List B} (e:l=gO N a n) :
  sub k hp (m+4) (.flsl h a 1 n) (slE l):=by
 subst e;have hlen:=pP hl;show (match get? hp h with
  | some (.fam f)=>bif kept k h then False else 1=1/\n=(gO N a n).length/\(0 < n->∃ T len enc,f a=.arr T 1 len enc/\n<=len/\∀ i,i < n->oP k (sub k hp (m+3)) (enc i) (idE ((gO N a n).getD i [])))
  | _=>False)
 rw [hf];simp only [hk,cond_false];refine ⟨trivial,hlen.symm,fun h0=>?_⟩;rcases hl with ⟨_,h2⟩|⟨A,h1,h3,h2⟩
 ·omega
 ·rw [h1] at hi;obtain ⟨enc,he,hq⟩:=hi;refine ⟨9,A.length,enc,he,h2,fun i hi=>?_⟩;rw [A3 h1,hq];have:(A.take n).getD i []=A.getD i []:=by simp only [aE,cH hi]
  rw [this];exact .inl (fB _ _ _ _)
theorem Va {α:Type} {P:Option α->Prop} (h0:P none) (h1:∀ v,P (some v)):∀ o,P o
 | none=>h0
 | some v=>h1 v
def g40:List Nat:=[1,0,5,3,4]
def c40:bH :=
 .seq (.region g40 [(zo 3 (.box 32 (.s 1))),(zo 4 (.move cF))]) (.seq (.region g40 [(mv 6 0),(fa 7 0 3),(ld 8 7),(zo 9 (.call (.c (.fn 56)) [.s 6,.s 8])),(mv 5 9)]) (.seq (.drawn g40 (.pure 0 (mv 10 5) (.pure 1 (zo 11 (.ptrEq true (.s 10) (.c (.nilptr)))) (.pure 2 (mv 12 11) (.pure 3 (mg 13 12 true 5) (.pure 4 (zg 14 12 true (.nilCheck (.s 13))) (.pure 5 (fg 15 12 true 0 14) (.pure 7 (fg 17 12 true 1 3) (.pure 8 (lg 18 12 true 17) (.eff 6 (lg 16 12 true 15) [(lg 18 12 true 17)] (.eff 9 (zg 19 12 true (.call (.c (.fn 66)) [.s 16,.s 18])) [] (.pure 10 (zo 20 (.pick (.s 12) (.s 19) cF)) (.pure 11 (mv 4 20) .done)) .none) .none)))))))))) .ret))
theorem e40:cR Tryz.prog 40 g40 [] [16,19] []=some (c40,[.slot 4],21):=by kernel_rfl
def Yh:bU where
 X:=Nat×(Nat->NO)×Nat×B×B
 Y:=Bool
 args:=fun x=>.cons (.own 0 0) (.cons (.agg (Er x.2.2.2.1 x.2.2.2.2)) .nil)
 pre:=fun x=>Cl x.2.1 x.2.2.1/\isNode x.2.1 x.1/\x.2.2.2.1.length < 4611686018427387904/\∀ v,atN x.2.1 x.1 x.2.2.2.1=some v->(oV x.2.1 v).length<=1000000
 h0:=fun x=>tH 0 1 x.1 x.2.1
 nx0:=2
 post:=fun x y=>y=uI x.2.1 x.1 x.2.2.2.1 x.2.2.2.2
 res:=fun _ y=>.bool y
 h1:=fun x _=>tH 0 1 x.1 x.2.1
 nx1:=2
theorem Qz:Yh.Ok Tryz.prog 40:=by
 refine Eng.bU.okR e40 .nil (fun _=>[(56,.m atS),(66,.m aAa)]) (fun _ _=>aZ.m B6 (aZ.m Xr aZ.nil)) ?_;rintro ⟨r,N,c,t,i⟩ ⟨(hc:Cl N c),(hr:isNode N r),(ht:t.length < 4611686018427387904),(hi:∀ v,atN N r t=some v->(oV N v).length<=1000000)⟩;refine ⟨trivial,?_⟩;refine aB (r,N,c,t) (aB [0,1] ?_);repeat' (first|apply aA|exact trivial|exact rfl|exact zm N rfl|(with_reducible first|exact hc|exact hr|exact ht))
 refine Va (fun (ho:none=atN N r t)=>?_) (fun (v:Nat) (ho:some v=atN N r t)=>?_)
 ·have e:false=uI N r t i:=by unfold uI; rw [<- ho]
  repeat' (first|apply aA|exact trivial|exact rfl|exact zf|refine zt ?_|fail)
  refine aB false ?_;repeat' (first|apply aA|exact trivial|exact rfl|exact zr N rfl rfl|exact e)
 ·obtain ⟨a,n,m,sz,mk,hv⟩:=hc.at hr ho.symm;have e:uI N r t i=decide (i∈gO N a n):=by unfold uI; rw [<- ho,<- rQ hv]
  have hl:=hc.lst _ _ _ _ _ _ hv;have hlen:(gO N a n).length<=1000000:=by rw [<- rQ hv]; exact hi v ho.symm
  repeat' (first|apply aA|exact trivial|exact zh|refine zt ?_|fail)
  refine aB (rnO [(0,0),(1,1)] [(0,0),(1,1)] (noO 1 (.node a n m sz mk))) (aA (congrArg (fun o=>rnO [(0,0),(1,1)] [(0,0),(1,1)] (noO 1 o)) hv) ?_);repeat' (first|apply aA|exact trivial|exact rfl|exact zh|refine zt ?_|fail)
  refine aB (gO N a n,i) (aB [] ?_);repeat' (first|exact zY (h:=1) (N:=N) (a:=a) (n:=n) rfl ((Is.no 1 (N a)).rn rfl) rfl hl rfl|apply aA|exact trivial|exact rfl|exact hlen)
  refine fun (y:Bool) (hy:y=decide (i∈gO N a n))=>?_;have e2:cS true (.s 19) cF y false=uI N r t i:=by rw [dE,hy,e]; rfl
  repeat' (first|apply aA|exact trivial)
  refine aB (uI N r t i) ?_;repeat' (first|exact e2|apply aA|exact trivial|exact rfl|exact zr N rfl rfl|fail)
end T6
end
section
open Go Go.Eng Go.Proofs T1 T2 T3 T4 T5 T6
set_option maxRecDepth 100000
namespace T7
def fV (N:Nat->NO) (a:Nat):List B :=
 match N a with
 | .arr A=>A
 | _=>[]
structure PX where
 N:Nat->NO
 v:Nat
 a:Nat
 n:Nat
 m:Nat
 sz:Int
 mrk:B
 d:Nat
 t:B
 i:B
def aBg (x:PX) (y:Nat):Nat->NO:=put (put x.N y (.arr (pZ (fV x.N x.a) x.n (eO (gO x.N x.a x.n) x.i) x.i))) x.v (.node y (x.n+1) x.m x.sz x.mrk)
def g45:List Nat:=[0,3,1]
def c45:bH :=
 .seq (.drawn g45 (.pure 0 (mv 6 0) (.pure 1 (zo 7 (.nilCheck (.s 6))) (.pure 2 (fa 8 0 7) (.pure 4 (fa 10 1 1) (.pure 5 (ld 11 10) (.eff 3 (ld 9 8) [(ld 11 10)] (.eff 6 (zo 12 (.call (.c (.fn 43)) [.s 9,.s 11])) [] (.pure 7 (mv 5 12) (.pure 8 (zo 13 (.extract 0 (.s 5))) (.pure 9 (zo 14 (.extract 1 (.s 5))) (.pure 10 (mv 3 13) (.pure 11 (mv 4 14) .done))))) .none) .none))))))) (.drawn g45 (.pure 0 (mv 15 0) (.pure 1 (mv 16 0) (.pure 2 (zo 17 (.nilCheck (.s 16))) (.pure 3 (fa 18 0 17) (.pure 5 (mv 20 3) (.pure 6 (fa 21 1 1) (.pure 7 (ld 22 21) (.eff 4 (ld 19 18) [(ld 22 21)] (.eff 8 (zo 23 (.buildSl 9 1 1 (.cons (.str []) .nil) [(0,1,.s 22)])) [] (.eff 9 (zo 24 (.call (.c (.fn 46)) [.s 19,.s 20,.s 23])) [] (.pure 10 (zo 25 (.nilCheck (.s 15))) (.pure 11 (fa 26 0 25) (.eff 12 ⟨none,none,.store 1 (.s 26) (.s 24),[]⟩ [] .done .none))) .none) .none) (.eff 8 (zo 23 (.buildSl 9 1 1 (.cons (.str []) .nil) [(0,1,.s 22)])) [] (.eff 4 (ld 19 18) [(ld 22 21)] (.eff 9 (zo 24 (.call (.c (.fn 46)) [.s 19,.s 20,.s 23])) [] (.pure 10 (zo 25 (.nilCheck (.s 15))) (.pure 11 (fa 26 0 25) (.eff 12 ⟨none,none,.store 1 (.s 26) (.s 24),[]⟩ [] .done .none))) .none) .none) .none))))))))))
theorem e45:cR Tryz.prog 45 g45 [] [9,12,19,23,24] []=some (c45,[],27):=by kernel_rfl
def Wo:bU where
 X:=PX
 Y:=Nat
 args:=fun x=>.cons (.fown 0 x.v 0) (.cons (.own 1 0) .nil)
 pre:=fun x=>x.N x.v=.node x.a x.n x.m x.sz x.mrk/\((x.N x.a=.none/\x.n=0)\/∃ A,x.N x.a=.arr A/\A≠[]/\x.n<=A.length)/\Srt (gO x.N x.a x.n)/\x.n < 1000000/\x.N x.d=.none
 h0:=fun x=>[(0,.fam fun q=>noO 0 (x.N q)),(1,.cells 32 (Er x.t x.i))]
 nx0:=2
 post:=fun x y=>(y=x.a/\fV x.N x.a≠[])\/y=x.d
 res:=fun _ _=>.tup .nil
 h1:=fun x y=>[(0,.fam fun q=>noO 0 (aBg x y q))]
 nx1:=2
theorem Vc:Wo.Ok Tryz.prog 45:=by
 refine Eng.bU.okR e45 .nil (fun _=>[(43,.m Xi),(46,.m qQ),(2097152,.own)]) (fun _ _=>aZ.m P4 (aZ.m Ym (aZ.o aZ.nil))) ?_;rintro ⟨N,v,a,n,m,sz,mk,d,t,i⟩ ⟨(hv:N v=.node a n m sz mk),(hl:(N a=.none/\n=0)\/∃ A,N a=.arr A/\A≠[]/\n<=A.length),(hs:Srt (gO N a n)),(hn:n < 1000000),(hd:N d=.none)⟩;have hlen:(gO N a n).length<=1000000:=by rw [pP hl]; omega
 refine ⟨trivial,?_⟩;repeat' (first|apply aA|exact trivial)
 refine aB (noO 0 (.node a n m sz mk)) (aA (congrArg (noO 0) hv) ?_);repeat' (first|apply aA|exact trivial|exact rfl)
 refine aB (gO N a n,i) (aB [] ?_);repeat' (first|exact zY (h:=0) (N:=N) (a:=a) (n:=n) rfl (Is.no 0 (N a)) rfl hl rfl|apply aA|exact trivial|exact rfl|exact hlen|exact hs)
 refine fun (y:Nat×Bool) (hy:y=(eO (gO N a n) i,decide (i∈gO N a n)))=>?_;subst hy;have hA0:fV N a=[]->N a=.none:=by
  intro e;rcases hl with ⟨h,_⟩|⟨A,h,hA,_⟩
  ·exact h
  ·simp only [fV,h] at e; exact absurd e hA
 have hA1:fV N a≠[]->N a=.arr (fV N a):=by
  intro e;rcases hl with ⟨h,_⟩|⟨A,h,hA,_⟩
  ·simp only [fV,h,ne_eq,not_true] at e
  ·simp only [fV,h]
 have hA2:n<=(fV N a).length:=by
  rcases hl with ⟨_,h⟩|⟨A,h,hA,h2⟩
  ·omega
  ·simp only [fV,h]; exact h2
 have hA3:eO (gO N a n) i<=n:=by have:=wY (gO N a n) i; rw [pP hl] at this; exact this
 have hyn:∀ y,(y=a/\fV N a≠[])\/y=d->v≠y:=by
  rintro y (⟨rfl,h⟩|rfl) rfl
  ·rw [hA1 h] at hv; cases hv
  ·rw [hd] at hv; cases hv
 repeat' (first|apply aA|exact trivial)
 all_goals refine aB (noO 0 (.node a n m sz mk)) (aA (congrArg (noO 0) hv) ?_)
 all_goals repeat' (first|apply aA|exact trivial|exact rfl|fail)
 all_goals refine aB (IX.mk N a (fV N a) n (eO (gO N a n) i) i d) (aB [0,2] ?_)
 all_goals repeat' (first|apply aA|exact trivial|exact rfl|exact hA0|exact hA1|exact hA2|exact hA3|exact hn|exact hd|(refine fun (j:Nat) (hj:j < 1)=>?_; obtain rfl:j=0:=(by omega); exact Or.inl (fB _ _ _ _))|exact zm N rfl|fail)
 all_goals refine fun (y:Nat) (hy:(y=a/\fV N a≠[])\/y=d)=>?_
 all_goals have hyv:put N y (.arr (pZ (fV N a) n (eO (gO N a n) i) i)) v=.node a n m sz mk:=(bS (hyn y hy)).trans hv
 all_goals repeat' (first|apply aA|exact trivial|fail)
 all_goals refine aB (rnO [(0,0),(1,2)] [(0,0),(2,1)] (noO 0 (.node a n m sz mk))) (aA (congrArg (fun o=>rnO [(0,0),(1,2)] [(0,0),(2,1)] (noO 0 o)) hyv) ?_)
 all_goals repeat' (first|apply aA|exact trivial|fail)
 all_goals refine aB y ?_
 all_goals repeat' (first|exact hy|apply aA|exact trivial|exact sA (oF (by exact rfl)) (fun i=>mO (by exact rfl) (by exact rfl) _)|fail)
def nO (x:PX):Nat->NO:=put (put x.N x.a (.arr (wB (fV x.N x.a) x.n (eO (gO x.N x.a x.n) x.i)))) x.v (.node x.a (x.n - 1) x.m x.sz x.mrk)
def g42:List Nat:=[1,0,3]
def c42:bH :=
 .seq (.drawn g42 (.pure 0 (mv 6 0) (.pure 1 (zo 7 (.nilCheck (.s 6))) (.pure 2 (fa 8 0 7) (.pure 4 (fa 10 1 1) (.pure 5 (ld 11 10) (.eff 3 (ld 9 8) [(ld 11 10)] (.eff 6 (zo 12 (.call (.c (.fn 43)) [.s 9,.s 11])) [] (.pure 7 (mv 5 12) (.pure 8 (zo 13 (.extract 0 (.s 5))) (.pure 9 (zo 14 (.extract 1 (.s 5))) (.pure 10 (mv 3 13) (.pure 11 (mv 4 14) .done))))) .none) .none))))))) (.region g42 [(mv 15 0),(mv 16 0),(zo 17 (.nilCheck (.s 16))),(fa 18 0 17),(ld 19 18),(mv 20 3),(mv 21 3),(zo 22 (.bin (.add) (.s 21) (cj 1))),(zo 23 (.call (.c (.fn 44)) [.s 19,.s 20,.s 22])),(zo 24 (.nilCheck (.s 15))),(fa 25 0 24),⟨none,none,.store 1 (.s 25) (.s 23),[]⟩])
theorem e42:cR Tryz.prog 42 g42 [] [9,12] []=some (c42,[],26):=by kernel_rfl
def Qd:bU where
 X:=PX
 Y:=Unit
 args:=fun x=>.cons (.fown 0 x.v 0) (.cons (.own 1 0) .nil)
 pre:=fun x=>x.N x.v=.node x.a x.n x.m x.sz x.mrk/\((x.N x.a=.none/\x.n=0)\/∃ A,x.N x.a=.arr A/\A≠[]/\x.n<=A.length)/\Srt (gO x.N x.a x.n)/\x.n < 1000000/\x.i∈gO x.N x.a x.n
 h0:=fun x=>[(0,.fam fun q=>noO 0 (x.N q)),(1,.cells 32 (Er x.t x.i))]
 nx0:=2
 post:=fun _ _=>True
 res:=fun _ _=>.tup .nil
 h1:=fun x _=>[(0,.fam fun q=>noO 0 (nO x q))]
 nx1:=2
theorem Qe:Qd.Ok Tryz.prog 42:=by
 refine Eng.bU.okR e42 .nil (fun _=>[(43,.m Xi),(44,.m Xw)]) (fun _ _=>aZ.m P4 (aZ.m Xx aZ.nil)) ?_;rintro ⟨N,v,a,n,m,sz,mk,d,t,i⟩ ⟨(hv:N v=.node a n m sz mk),(hl:(N a=.none/\n=0)\/∃ A,N a=.arr A/\A≠[]/\n<=A.length),(hs:Srt (gO N a n)),(hn:n < 1000000),(hi:i∈gO N a n)⟩;have hlen:(gO N a n).length<=1000000:=by rw [pP hl]; omega
 have hp:eO (gO N a n) i < n:=by have:=((zW hs i).1 hi).1; rwa [pP hl] at this
 obtain ⟨A,hA,hA0,hA1⟩:∃ A,N a=.arr A/\A≠[]/\n<=A.length:=by
  rcases hl with ⟨_,h⟩|h
  ·omega
  ·exact h
 have hva:v≠a:=by rintro rfl; rw [hA] at hv; cases hv
 have e0:fV N a=A:=by simp only [fV,hA]
 have g1:-9223372036854775808<=(eO (gO N a n) i:Int)+1:=by omega
 have g2:(eO (gO N a n) i:Int)+1<=9223372036854775807:=by omega
 have hv2:put N a (.arr (wB A n (eO (gO N a n) i))) v=.node a n m sz mk:=(bS hva).trans hv;refine ⟨trivial,?_⟩;repeat' (first|apply aA|exact trivial)
 refine aB (noO 0 (.node a n m sz mk)) (aA (congrArg (noO 0) hv) ?_);repeat' (first|apply aA|exact trivial|exact rfl)
 refine aB (gO N a n,i) (aB [] ?_);repeat' (first|exact zY (h:=0) (N:=N) (a:=a) (n:=n) rfl (Is.no 0 (N a)) rfl hl rfl|apply aA|exact trivial|exact rfl|exact hlen|exact hs)
 refine fun (y:Nat×Bool) (hy:y=(eO (gO N a n) i,decide (i∈gO N a n)))=>?_;subst hy;repeat' (first|apply aA|exact trivial)
 refine aB (noO 0 (.node a n m sz mk)) (aA (congrArg (noO 0) hv) ?_);repeat' (first|apply aA|(with_reducible first|exact g1|exact g2))
 refine aB (N,a,A,n,eO (gO N a n) i) (aB [0] ?_);repeat' (first|apply aA|exact trivial|exact rfl|(with_reducible first|exact hA|exact hp|exact hA1)|exact zm N rfl|fail)
 refine fun (_:Unit) (_:True)=>?_;refine aB (rnO [(0,0)] [(0,0)] (noO 0 (.node a n m sz mk))) (aA (congrArg (fun o=>rnO [(0,0)] [(0,0)] (noO 0 o)) hv2) ?_);refine aB () ?_;have e1:n - 1=(n - 1:Nat):=rfl;repeat' (first|apply aA|exact trivial)
 rw [show nO ⟨N,v,a,n,m,sz,mk,d,t,i⟩=put (put N a (.arr (wB A n (eO (gO N a n) i)))) v (.node a (n - 1) m sz mk) by unfold nO; rw [e0]];repeat' (first|exact sA (oF (by exact rfl)) (fun i=>mO (by exact rfl) (by exact rfl) _)|fail)
end T7
end
