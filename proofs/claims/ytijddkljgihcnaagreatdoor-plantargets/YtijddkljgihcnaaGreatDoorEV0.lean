/- A part of the proof. -/
import Derived.Test.YtijddkljgihcnaaGreatDoorG2
import Derived.Test.YtijddkljgihcnaaGreatDoorL10
section
open Go Go.Eng Go.Proofs G1 G2
set_option maxRecDepth 100000
namespace G3
def rgE (r:Pts):SV:=.slice 2 r.n fun i=>ptL (r.p i)
def nxt (r:Pts) (i:Nat):Pt:=r.p ((i+1) % r.n)
def fI (f:Nat->Int):Nat->Int
 | 0=>0
 | n+1=>fI f n+f n
def tw2 (a b:Pt):Int:=a.1 * b.2 - b.1 * a.2
def twV (r:Pts):Int:=fI (fun i=>tw2 (r.p i) (nxt r i)) r.n
def OnR (r:Pts):Prop:=∀ i,i < r.n->onB (r.p i)=true
def pW (s:SV):Option Pts:=match asSlice s with
 | some (_,n,enc)=>some ⟨n,fun i=>(aP (aJ (enc i) 0),aP (aJ (enc i) 1))⟩
 | none=>none
def g253:List Nat:=[6,8,5,0,4,3,1,23,7]
def c253:aH :=
 .seq (.region g253 [(ld 5 1),(zo 6 (.lenSl (.s 5))),(zo 7 (.move (cj 0)))]) (.block 0 (.loop 0 [8,9,10,11,4,3,12,13,14,15,16,17,18,19,20,21,22,23,24,7] (.seq (.region g253 [(zo 8 (.bin (.lss) (.s 7) (.s 6)))]) (.seq (.cond (.s 8) .skip (.exit 0)) (.seq (.block 1 (.seq (.region g253 [(mv 9 7),(zo 10 (.idxSl 2 (.s 5) (.s 7))),(zo 11 (.load 2 true (.s 10))),(zo 4 (.alloc 53 zPt)),(mv 3 9),⟨none,none,.store 2 (.s 4) (.s 11),[]⟩]) (.seq (.drawn g253 (.pure 0 (mv 12 0) (.pure 1 (zo 13 (.load 2 true (.s 4))) (.pure 2 (ld 14 1) (.pure 3 (mv 15 3) (.pure 4 (zo 16 (.bin (.add) (.s 15) (cj 1))) (.pure 5 (ld 17 1) (.pure 6 (zo 18 (.lenSl (.s 17))) (.pure 7 (zo 19 (.bin (.rem) (.s 16) (.s 18))) (.pure 8 (zo 20 (.idxSl 2 (.s 14) (.s 19))) (.pure 9 (zo 21 (.load 2 true (.s 20))) (.eff 10 (zo 22 (.call (.s 12) [.s 13,.s 21])) [] (.pure 11 (zo 23 (.not (.s 22))) .done) .none)))))))))))) (.cond (.s 23) .ret .skip)))) (.region g253 [(zo 24 (.bin (.add) (.s 7) (cj 1))),(mv 7 24)]))))))
theorem e253:aI Tryz.prog 253 g253 [] [22] []=some (c253,[],25):=by kernel_rfl
def g238:List Nat:=[0,1,2]
def c238:aH :=
 .seq (.region g238 [(zo 1 (.box 209 (.s 0))),(zo 2 (.move (.c (.nilfn))))]) (.seq (.region g238 [(zo 3 (.mkfn 253 [.s 1])),(mv 2 3)]) .ret)
theorem e238:aI Tryz.prog 238 g238 [] [] []=some (c238,[.slot 2],4):=by kernel_rfl
def sides:Eng.Spec where
 X:=Pts
 args:=fun r=>.cons (rgE r) .nil
 pre:=fun _=>True
 res:=fun r=>.fn 253 (.cons (.cptr (.cons (rgE r) .nil)) .nil)
 inst:=fun
  | .cons a .nil=>pW a
  | _=>none
 fresh:=false
theorem Af:sides.Ok Tryz.prog 238:=by
 refine Eng.Spec.cY e238 .nil (fun _=>[]) (fun _ _=>aA.nil) ?_
 rintro r _
 refine ⟨trivial,?_⟩
 repeat' (first|apply And.intro|exact trivial|exact rfl|exact fun (j:Nat) (hj:j < _)=>Or.inl (aN _ _ _ _))
def g200:List Nat:=[0,7,8,9,5,4,3,2]
def c200:aH :=
 .seq (.region g200 [(zo 2 (.move (cj 0)))]) (.seq (.region g200 [(zo 3 (.alloc 3 (.cons (.int .i64 0) .nil))),⟨none,none,.store 1 (.s 3) (cj 0),[]⟩]) (.seq (.seq (.region g200 [(mv 6 0),(zo 7 (.call (.c (.fn 238)) [.s 6]))]) (.block 0 (.range 0 (.s 7) 253 (c253) 25 [8,9] (.seq (.region g200 [(zo 4 (.alloc 53 zPt)),⟨none,none,.store 2 (.s 4) (.s 8),[]⟩]) (.region g200 [(zo 5 (.alloc 53 zPt)),⟨none,none,.store 2 (.s 5) (.s 9),[]⟩])) (.block 1 (.region g200 [(ld 10 3),(fa 11 0 4),(ld 12 11),(fa 13 1 5),(ld 14 13),(zo 15 (.bin (.mul) (.s 12) (.s 14))),(fa 16 0 5),(ld 17 16),(fa 18 1 4),(ld 19 18),(zo 20 (.bin (.mul) (.s 17) (.s 19))),(zo 21 (.bin (.sub) (.s 15) (.s 20))),(zo 22 (.bin (.add) (.s 10) (.s 21))),⟨none,none,.store 1 (.s 3) (.s 22),[]⟩]))))) (.seq (.region g200 [(ld 23 3),(mv 2 23)]) .ret)))
def r200:List fY:=[.slot 2]
def k200:List (Nat×Nat×aH×Nat):=[(0,253,c253,25)]
theorem e200:aI Tryz.prog 200 g200 [] [] k200=some (c200,r200,24):=by kernel_rfl
theorem q200:eZ Tryz.prog k200:=eZ.cons (eZ.nil) .nil e253
theorem pR {r:Pts} (h:OnR r) {i:Nat} (hi:i < r.n):onB (nxt r i)=true:=h _ (Nat.mod_lt _ (by omega))
theorem Ku {a b:Pt} (ha:onB a=true) (hb:onB b=true):(0<=a.1 * b.2/\a.1 * b.2<=1073741824)/\(0<=b.1 * a.2/\b.1 * a.2<=1073741824):=by
 have h1:=fF.1 ha
 have h2:=fF.1 hb
 have k1:=nE (a:=a.1) (b:=b.2) (B:=32768) (by omega) (by omega) (by omega) (by omega)
 have k2:=nE (a:=b.1) (b:=a.2) (B:=32768) (by omega) (by omega) (by omega) (by omega)
 have k3:=Int.mul_nonneg h1.1 h2.2.2.1
 have k4:=Int.mul_nonneg h2.1 h1.2.2.1
 omega
theorem Kq {f:Nat->Int} {B:Int}:∀ {n:Nat},(∀ i,i < n->-B<=f i/\f i<=B)->-(n * B)<=fI f n/\fI f n<=n * B:=by
 intro n
 induction n with
 | zero=>intro _; simp [fI]
 | succ n ih =>
  intro h
  have h1:=ih fun i hi=>h i (by omega)
  have h2:=h n (by omega)
  have e:((n+1:Nat):Int) * B=n * B+B:=by rw [Int.natCast_succ,Int.add_mul,Int.one_mul]
  rw [e]
  simp only [fI]
  omega
theorem oN {i n:Nat} (_:0 < n):((i:Int)+1).tmod (n:Int)=(((i+1) % n:Nat):Int):=by
 rw [Int.tmod_eq_emod_of_nonneg (by omega)]
 rfl
def twice:Eng.Spec where
 X:=Pts
 args:=fun r=>.cons (rgE r) .nil
 pre:=fun r=>r.n<=50/\OnR r
 res:=fun r=>.int .i64 (twV r)
 inst:=fun
  | .cons a .nil=>pW a
  | _=>none
theorem Kv:twice.Ok Tryz.prog 200:=by
 refine Eng.Spec.cY e200 q200 (fun _=>[(238,.p sides)]) (fun _ _=>aA.p Af aA.nil) ?_
 rintro r ⟨hn,hr⟩
 replace hn:r.n<=50:=hn
 replace hr:OnR r:=hr
 refine ⟨trivial,?_⟩
 repeat' (first|apply And.intro|exact trivial|exact rfl|exact fun (j:Nat) (hj:j < _)=>Or.inl (aN _ _ _ _))
 refine ⟨⟨Nat,fun i=>i<=r.n,fun i=>[(7,.int .i64 (i:Int))],fun i=>[(0,.cells 3 (.cons (.int .i64 (fI (fun i=>tw2 (r.p i) (nxt r i)) i)) .nil))],fun i=>r.n - i⟩,0,Nat.zero_le _,?_,?_⟩
 ·repeat' (first|apply And.intro|exact trivial|exact rfl|exact fun (j:Nat) (hj:j < _)=>Or.inl (aN _ _ _ _))
 rintro (i:Nat) (hi:i<=r.n)
 repeat' (first|apply And.intro|exact trivial|exact rfl|exact fun (j:Nat) (hj:j < _)=>Or.inl (aN _ _ _ _))
 ·refine fun (h:decide ((i:Int) < (r.n:Int))=true)=>?_
  have hi1:(i:Int) < (r.n:Int):=of_decide_eq_true h
  have hil:i < r.n:=by omega
  have hi0:(0:Int)<=(i:Int):=by omega
  have b1:-9223372036854775808<=(i:Int)+1:=by omega
  have b2:(i:Int)+1<=9223372036854775807:=by omega
  have hnz:(r.n:Int)≠0:=by omega
  have hm:=oN (i:=i) (n:=r.n) (by omega)
  have hq:r.p (((i:Int)+1).tmod (r.n:Int)).toNat=nxt r i:=by rw [hm]; rfl
  have hk:=Ku (hr i hil) (pR hr hil)
  have hs:=Kq (f:=fun i=>tw2 (r.p i) (nxt r i)) (B:=1073741824) (n:=i) fun j hj=>by
   have:=Ku (hr j (by omega)) (pR hr (by omega:j < r.n))
   unfold tw2
   omega
  rw [<- hq] at hk
  have hm1:0<=((i:Int)+1).tmod (r.n:Int):=by rw [hm]; omega
  have hm2:((i:Int)+1).tmod (r.n:Int) < (r.n:Int):=by rw [hm]; have:=Nat.mod_lt (i+1) (show 0 < r.n by omega); omega
  have hs2:-53687091200<=fI (fun i=>tw2 (r.p i) (nxt r i)) i/\fI (fun i=>tw2 (r.p i) (nxt r i)) i<=53687091200:=by
   have:=Int.mul_le_mul_of_nonneg_right (show (i:Int)<=50 by omega) (show (0:Int)<=1073741824 by omega)
   omega
  have w1:-9223372036854775808<=(r.p i).1 * (r.p (((i:Int)+1).tmod (r.n:Int)).toNat).2:=by omega
  have w2:(r.p i).1 * (r.p (((i:Int)+1).tmod (r.n:Int)).toNat).2<=9223372036854775807:=by omega
  have w3:-9223372036854775808<=(r.p (((i:Int)+1).tmod (r.n:Int)).toNat).1 * (r.p i).2:=by omega
  have w4:(r.p (((i:Int)+1).tmod (r.n:Int)).toNat).1 * (r.p i).2<=9223372036854775807:=by omega
  have w5:-9223372036854775808<=(r.p i).1 * (r.p (((i:Int)+1).tmod (r.n:Int)).toNat).2 - (r.p (((i:Int)+1).tmod (r.n:Int)).toNat).1 * (r.p i).2:=by omega
  have w6:(r.p i).1 * (r.p (((i:Int)+1).tmod (r.n:Int)).toNat).2 - (r.p (((i:Int)+1).tmod (r.n:Int)).toNat).1 * (r.p i).2<=9223372036854775807:=by omega
  have w7:-9223372036854775808<=fI (fun i=>tw2 (r.p i) (nxt r i)) i+((r.p i).1 * (r.p (((i:Int)+1).tmod (r.n:Int)).toNat).2 - (r.p (((i:Int)+1).tmod (r.n:Int)).toNat).1 * (r.p i).2):=by omega
  have w8:fI (fun i=>tw2 (r.p i) (nxt r i)) i+((r.p i).1 * (r.p (((i:Int)+1).tmod (r.n:Int)).toNat).2 - (r.p (((i:Int)+1).tmod (r.n:Int)).toNat).1 * (r.p i).2)<=9223372036854775807:=by omega
  have e:fI (fun i=>tw2 (r.p i) (nxt r i)) i+((r.p i).1 * (r.p (((i:Int)+1).tmod (r.n:Int)).toNat).2 - (r.p (((i:Int)+1).tmod (r.n:Int)).toNat).1 * (r.p i).2)=fI (fun i=>tw2 (r.p i) (nxt r i)) (i+1):=by rw [hq]; rfl
  repeat' (first|with_reducible exact hi1|with_reducible exact hi0|with_reducible exact b1|with_reducible exact b2|with_reducible exact hnz|exact hm1|exact hm2|apply And.intro|exact trivial|exact rfl|exact fun (j:Nat) (hj:j < _)=>Or.inl (aN _ _ _ _)|exact fun (h:(!true)=true)=>Bool.noConfusion h|(refine fun (_:(!true)=false)=>?_))
  ·exact w1
  ·exact w2
  ·exact w3
  ·exact w4
  ·exact w5
  ·exact w6
  ·exact w7
  ·exact w8
  refine Exists.intro (i+1) (And.intro hil ?_)
  repeat' (first|exact e|apply And.intro|exact trivial|exact rfl|exact fun (j:Nat) (hj:j < _)=>Or.inl (aN _ _ _ _))
  show r.n - (i+1) < r.n - i
  omega
 ·refine fun (h:decide ((i:Int) < (r.n:Int))=false)=>?_
  have hi1:¬ (i:Int) < (r.n:Int):=of_decide_eq_false h
  have e:i=r.n:=by omega
  subst e
  repeat' (first|apply And.intro|exact trivial|exact rfl|exact fun (j:Nat) (hj:j < _)=>Or.inl (aN _ _ _ _))
end G3
end
section
namespace G4
def orB (f:Nat->Bool):Nat->Bool
 | 0=>false
 | n+1=>orB f n || f n
theorem aO {f:Nat->Bool}:∀ {n:Nat},orB f n=true ↔ ∃ i,i < n/\f i=true:=by
 intro n
 induction n with
 | zero=>simp [orB]
 | succ n ih =>
  simp only [orB,Bool.or_eq_true,ih]
  constructor
  ·rintro (⟨i,h1,h2⟩|h)
   ·exact ⟨i,by omega,h2⟩
   ·exact ⟨n,by omega,h⟩
  ·rintro ⟨i,h1,h2⟩
   by_cases e:i=n
   ·subst e; exact .inr h2
   ·exact .inl ⟨i,by omega,h2⟩
theorem aS {f:Nat->Bool} {n:Nat}:orB f n=false ↔ ∀ i,i < n->f i=false:=by
 constructor
 ·intro h i hi
  cases hf:f i with
  | false=>rfl
  | true=>rw [aO.2 ⟨i,hi,hf⟩] at h; cases h
 ·intro h
  cases hf:orB f n with
  | false=>rfl
  | true=>obtain ⟨i,h1,h2⟩:=aO.1 hf; rw [h i h1] at h2; cases h2
end G4
end
section
open Go Go.Eng Go.Proofs G1 G2 G3 G4
set_option maxRecDepth 100000
namespace G6
def bad0 (r:Pts) (i:Nat):Bool:=decide (lL (r.p i) (nxt r i) (r.p ((i+2) % r.n))=0)
def bad1 (r:Pts) (i k:Nat):Bool:=decide (0 < crV (r.p i) (nxt r i) (r.p k) (nxt r k))
def oS (r:Pts) (i:Nat):Nat:=min r.n (i+r.n - 1) - (i+2)
def bad (r:Pts) (i:Nat):Bool:=bad0 r i || orB (fun j=>bad1 r i (i+2+j)) (oS r i)
def qC (r:Pts):Bool:=!orB (bad r) r.n
def simple:Eng.Spec where
 X:=Pts
 args:=fun r=>.cons (rgE r) .nil
 pre:=fun r=>r.n<=50/\OnR r
 res:=fun r=>.bool (qC r)
 inst:=fun
  | .cons a .nil=>pW a
  | _=>none
def g201:List Nat:=[11,13,36,4,46,5,6,0,3,63,7,12,2]
def c201:aH :=
 .seq (.region g201 [(zo 2 (.move cF))]) (.seq (.region g201 [(mv 8 0),(zo 9 (.lenSl (.s 8))),(mv 3 9)]) (.seq (.seq (.region g201 [(mv 10 0),(zo 11 (.lenSl (.s 10))),(zo 12 (.move (cj 0)))]) (.block 0 (.loop 0 [13,14,4,15,16,17,18,19,20,21,22,23,24,25,5,6,26,27,28,29,30,31,32,33,34,35,36,37,38,39,40,41,42,43,44,45,46,49,50,51,52,53,54,55,56,57,58,59,60,61,62,63,2,47,48,7,64,12] (.seq (.region g201 [(zo 13 (.bin (.lss) (.s 12) (.s 11)))]) (.seq (.cond (.s 13) .skip (.exit 0)) (.seq (.block 1 (.seq (.region g201 [(mv 14 12),(mv 4 14)]) (.seq (.drawn g201 (.pure 0 (mv 15 0) (.pure 1 (mv 16 4) (.pure 2 (zo 17 (.idxSl 2 (.s 15) (.s 16))) (.pure 3 (zo 18 (.load 2 true (.s 17))) (.pure 4 (mv 19 0) (.pure 5 (mv 20 4) (.pure 6 (zo 21 (.bin (.add) (.s 20) (cj 1))) (.pure 7 (mv 22 3) (.pure 8 (zo 23 (.bin (.rem) (.s 21) (.s 22))) (.pure 9 (zo 24 (.idxSl 2 (.s 19) (.s 23))) (.pure 10 (zo 25 (.load 2 true (.s 24))) (.eff 11 (zo 5 (.alloc 53 zPt)) [(zo 25 (.load 2 true (.s 24))),(zo 18 (.load 2 true (.s 17)))] (.eff 12 (zo 6 (.alloc 53 zPt)) [(zo 25 (.load 2 true (.s 24))),(zo 18 (.load 2 true (.s 17)))] (.eff 13 ⟨none,none,.store 2 (.s 5) (.s 18),[]⟩ [(zo 25 (.load 2 true (.s 24)))] (.eff 14 ⟨none,none,.store 2 (.s 6) (.s 25),[]⟩ [] .done .none) .none) .none) (.eff 12 (zo 6 (.alloc 53 zPt)) [(zo 25 (.load 2 true (.s 24))),(zo 18 (.load 2 true (.s 17)))] (.eff 11 (zo 5 (.alloc 53 zPt)) [(zo 25 (.load 2 true (.s 24))),(zo 18 (.load 2 true (.s 17)))] (.eff 13 ⟨none,none,.store 2 (.s 5) (.s 18),[]⟩ [(zo 25 (.load 2 true (.s 24)))] (.eff 14 ⟨none,none,.store 2 (.s 6) (.s 25),[]⟩ [] .done .none) .none) .none) .none)))))))))))))) (.seq (.seq (.drawn g201 (.pure 0 (zo 26 (.load 2 true (.s 5))) (.pure 1 (zo 27 (.load 2 true (.s 6))) (.pure 2 (mv 28 0) (.pure 3 (mv 29 4) (.pure 4 (zo 30 (.bin (.add) (.s 29) (cj 2))) (.pure 5 (mv 31 3) (.pure 6 (zo 32 (.bin (.rem) (.s 30) (.s 31))) (.pure 7 (zo 33 (.idxSl 2 (.s 28) (.s 32))) (.pure 8 (zo 34 (.load 2 true (.s 33))) (.pure 9 (zo 35 (.call (.c (.fn 239)) [.s 26,.s 27,.s 34])) (.pure 10 (zo 36 (.bin (.eql) (.s 35) (cj 0))) .done)))))))))))) (.cond (.s 36) (.seq (.region g201 [(zo 2 (.move cF))]) .ret) .skip)) (.seq (.region g201 [(mv 37 4),(zo 38 (.bin (.add) (.s 37) (cj 2))),(mv 7 38)]) (.block 2 (.loop 1 [39,40,41,42,43,44,45,46,49,50,51,52,53,54,55,56,57,58,59,60,61,62,63,2,47,48,7] (.seq (.seq (.region g201 [(mv 39 7),(mv 40 3),(mv 41 4),(mv 42 3),(zo 43 (.bin (.add) (.s 41) (.s 42))),(zo 44 (.bin (.sub) (.s 43) (cj 1))),(zo 45 (.mm false (.s 40) (.s 44))),(zo 46 (.bin (.lss) (.s 39) (.s 45)))]) (.cond (.s 46) .skip (.exit 2))) (.seq (.block 3 (.seq (.drawn g201 (.pure 0 (zo 49 (.load 2 true (.s 5))) (.pure 1 (zo 50 (.load 2 true (.s 6))) (.pure 2 (mv 51 0) (.pure 3 (mv 52 7) (.pure 4 (zo 53 (.idxSl 2 (.s 51) (.s 52))) (.pure 5 (zo 54 (.load 2 true (.s 53))) (.pure 6 (mv 55 0) (.pure 7 (mv 56 7) (.pure 8 (zo 57 (.bin (.add) (.s 56) (cj 1))) (.pure 9 (mv 58 3) (.pure 10 (zo 59 (.bin (.rem) (.s 57) (.s 58))) (.pure 11 (zo 60 (.idxSl 2 (.s 55) (.s 59))) (.pure 12 (zo 61 (.load 2 true (.s 60))) (.pure 13 (zo 62 (.call (.c (.fn 240)) [.s 49,.s 50,.s 54,.s 61])) (.pure 14 (zo 63 (.bin (.gtr) (.s 62) (cj 0))) .done)))))))))))))))) (.cond (.s 63) (.seq (.region g201 [(zo 2 (.move cF))]) .ret) .skip))) (.region g201 [(mv 47 7),(zo 48 (.bin (.add) (.s 47) (cj 1))),(mv 7 48)])))))))))) (.region g201 [(zo 64 (.bin (.add) (.s 12) (cj 1))),(mv 12 64)]))))))) (.seq (.region g201 [(zo 2 (.move cT))]) .ret)))
theorem e201:aI Tryz.prog 201 g201 [] [] []=some (c201,[.slot 2],65):=by kernel_rfl
theorem Ks {i n:Nat} (_:0 < n):((i:Int)+2).tmod (n:Int)=(((i+2) % n:Nat):Int):=by
 rw [Int.tmod_eq_emod_of_nonneg (by omega)]
 rfl
set_option maxHeartbeats 4000000 in
theorem Gb:simple.Ok Tryz.prog 201:=by
 refine Eng.Spec.cY e201 .nil (fun _=>[(239,.p Turn),(240,.p Cross)]) (fun _ _=>aA.p Lf (aA.p Gp aA.nil)) ?_
 rintro r ⟨hn,hr⟩
 replace hn:r.n<=50:=hn
 replace hr:OnR r:=hr
 refine ⟨trivial,?_⟩
 repeat' (first|apply And.intro|exact trivial|exact rfl|exact fun (j:Nat) (hj:j < _)=>Or.inl (aN _ _ _ _))
 refine ⟨⟨Nat,fun i=>i<=r.n/\orB (bad r) i=false,fun i=>[(12,.int .i64 (i:Int))],fun _=>[],fun i=>r.n - i⟩,0,⟨Nat.zero_le _,rfl⟩,?_,?_⟩
 ·repeat' (first|apply And.intro|exact trivial|exact rfl|exact fun (j:Nat) (hj:j < _)=>Or.inl (aN _ _ _ _))
 rintro (i:Nat) ⟨(hi:i<=r.n),(hf:orB (bad r) i=false)⟩
 repeat' (first|apply And.intro|exact trivial|exact rfl|exact fun (j:Nat) (hj:j < _)=>Or.inl (aN _ _ _ _))
 ·refine fun (h:decide ((i:Int) < (r.n:Int))=true)=>?_
  have hi1:(i:Int) < (r.n:Int):=of_decide_eq_true h
  have hil:i < r.n:=by omega
  have hi0:(0:Int)<=(i:Int):=by omega
  have b1:-9223372036854775808<=(i:Int)+1:=by omega
  have b2:(i:Int)+1<=9223372036854775807:=by omega
  have b3:-9223372036854775808<=(i:Int)+2:=by omega
  have b4:(i:Int)+2<=9223372036854775807:=by omega
  have b5:-9223372036854775808<=(i:Int)+(r.n:Int):=by omega
  have b6:(i:Int)+(r.n:Int)<=9223372036854775807:=by omega
  have b7:-9223372036854775808<=(i:Int)+(r.n:Int) - 1:=by omega
  have b8:(i:Int)+(r.n:Int) - 1<=9223372036854775807:=by omega
  have hnz:(r.n:Int)≠0:=by omega
  have hm:=oN (i:=i) (n:=r.n) (by omega)
  have hq:r.p (((i:Int)+1).tmod (r.n:Int)).toNat=nxt r i:=by rw [hm]; rfl
  have hm1:0<=((i:Int)+1).tmod (r.n:Int):=by rw [hm]; omega
  have hm2:((i:Int)+1).tmod (r.n:Int) < (r.n:Int):=by rw [hm]; have:=Nat.mod_lt (i+1) (show 0 < r.n by omega); omega
  have hmm:=Ks (i:=i) (n:=r.n) (by omega)
  have hqq:r.p (((i:Int)+2).tmod (r.n:Int)).toNat=r.p ((i+2) % r.n):=by rw [hmm]; rfl
  have hm3:0<=((i:Int)+2).tmod (r.n:Int):=by rw [hmm]; omega
  have hm4:((i:Int)+2).tmod (r.n:Int) < (r.n:Int):=by rw [hmm]; have:=Nat.mod_lt (i+2) (show 0 < r.n by omega); omega
  have h1:=hr i hil
  have h2:onB (r.p (((i:Int)+1).tmod (r.n:Int)).toNat)=true:=by rw [hq]; exact pR hr hil
  have e0:bad0 r i=decide (lL (r.p i) (r.p (((i:Int)+1).tmod (r.n:Int)).toNat) (r.p (((i:Int)+2).tmod (r.n:Int)).toNat)=0):=by rw [hq,hqq]; rfl
  repeat' (first|with_reducible exact hi1|with_reducible exact hi0|with_reducible exact b1|with_reducible exact b2|with_reducible exact b3|with_reducible exact b4|with_reducible exact hnz|exact hm1|exact hm2|exact hm3|exact hm4|apply And.intro|exact trivial|exact rfl|exact fun (j:Nat) (hj:j < _)=>Or.inl (aN _ _ _ _))
  ·refine fun (hc:decide (lL (r.p i) (r.p (((i:Int)+1).tmod (r.n:Int)).toNat) (r.p (((i:Int)+2).tmod (r.n:Int)).toNat)=0)=true)=>?_
   have ef:false=qC r:=by
    unfold qC
    have hb:bad r i=true:=by unfold bad; rw [e0,hc]; rfl
    rw [aO.2 ⟨i,hil,hb⟩]
    rfl
   repeat' (first|exact ef|apply And.intro|exact trivial|exact rfl|exact fun (j:Nat) (hj:j < _)=>Or.inl (aN _ _ _ _))
  ·refine fun (hc:decide (lL (r.p i) (r.p (((i:Int)+1).tmod (r.n:Int)).toNat) (r.p (((i:Int)+2).tmod (r.n:Int)).toNat)=0)=false)=>?_
   have hst:(i:Int)+2=(i:Int)+2+((0:Nat):Int):=by omega
   repeat' (first|with_reducible exact b3|with_reducible exact b4|apply And.intro|exact trivial|exact rfl|exact fun (j:Nat) (hj:j < _)=>Or.inl (aN _ _ _ _))
   refine ⟨⟨Nat,fun j=>(j<=r.n/\j<=oS r i)/\orB (fun j=>bad1 r i (i+2+j)) j=false,fun j=>[(7,.int .i64 ((i:Int)+2+(j:Int)))],fun _=>[],fun j=>r.n - j⟩,0,⟨⟨Nat.zero_le _,Nat.zero_le _⟩,rfl⟩,?_,?_⟩
   ·repeat' (first|exact hst|apply And.intro|exact trivial|exact rfl|exact fun (j:Nat) (hj:j < _)=>Or.inl (aN _ _ _ _))
   rintro (j:Nat) ⟨⟨(hj:j<=r.n),(hjk:j<=oS r i)⟩,(hfj:orB (fun j=>bad1 r i (i+2+j)) j=false)⟩
   repeat' (first|with_reducible exact b5|with_reducible exact b6|with_reducible exact b7|with_reducible exact b8|apply And.intro|exact trivial|exact rfl|exact fun (j:Nat) (hj:j < _)=>Or.inl (aN _ _ _ _))
   ·refine fun (h:decide ((i:Int)+2+(j:Int) < min (r.n:Int) ((i:Int)+(r.n:Int) - 1))=true)=>?_
    have hlt:(i:Int)+2+(j:Int) < min (r.n:Int) ((i:Int)+(r.n:Int) - 1):=of_decide_eq_true h
    have hk1:0<=(i:Int)+2+(j:Int):=by omega
    have hk2:(i:Int)+2+(j:Int) < (r.n:Int):=by omega
    have hkt:((i:Int)+2+(j:Int)).toNat=i+2+j:=by omega
    have hkn:i+2+j < r.n:=by omega
    have hjk':j < oS r i:=by unfold oS; omega
    have d1:-9223372036854775808<=(i:Int)+2+(j:Int)+1:=by omega
    have d2:(i:Int)+2+(j:Int)+1<=9223372036854775807:=by omega
    have km:((i:Int)+2+(j:Int)+1).tmod (r.n:Int)=(((i+2+j+1) % r.n:Nat):Int):=by
     have:=oN (i:=i+2+j) (n:=r.n) (by omega)
     rw [<- this]
     congr 1
    have kq:r.p (((i:Int)+2+(j:Int)+1).tmod (r.n:Int)).toNat=nxt r (i+2+j):=by rw [km]; rfl
    have km1:0<=((i:Int)+2+(j:Int)+1).tmod (r.n:Int):=by rw [km]; omega
    have km2:((i:Int)+2+(j:Int)+1).tmod (r.n:Int) < (r.n:Int):=by rw [km]; have:=Nat.mod_lt (i+2+j+1) (show 0 < r.n by omega); omega
    have h3:onB (r.p ((i:Int)+2+(j:Int)).toNat)=true:=by rw [hkt]; exact hr _ hkn
    have h4:onB (r.p (((i:Int)+2+(j:Int)+1).tmod (r.n:Int)).toNat)=true:=by rw [kq]; exact pR hr hkn
    have e1:bad1 r i (i+2+j)=decide (0 < crV (r.p i) (r.p (((i:Int)+1).tmod (r.n:Int)).toNat) (r.p ((i:Int)+2+(j:Int)).toNat) (r.p (((i:Int)+2+(j:Int)+1).tmod (r.n:Int)).toNat)):=by rw [hq,kq,hkt]; rfl
    repeat' (first|with_reducible exact hk1|with_reducible exact hk2|with_reducible exact d1|with_reducible exact d2|with_reducible exact hnz|exact km1|exact km2|exact h1|exact h2|exact h3|exact h4|apply And.intro|exact trivial|exact rfl|exact fun (j:Nat) (hj:j < _)=>Or.inl (aN _ _ _ _))
    ·refine fun (hc:decide (0 < crV (r.p i) (r.p (((i:Int)+1).tmod (r.n:Int)).toNat) (r.p ((i:Int)+2+(j:Int)).toNat) (r.p (((i:Int)+2+(j:Int)+1).tmod (r.n:Int)).toNat))=true)=>?_
     have ef:false=qC r:=by
      unfold qC
      have hb:bad r i=true:=by
       unfold bad
       rw [(aO (f:=fun j=>bad1 r i (i+2+j))).2 ⟨j,hjk',e1.trans hc⟩,Bool.or_true]
      rw [aO.2 ⟨i,hil,hb⟩]
      rfl
     repeat' (first|exact ef|apply And.intro|exact trivial|exact rfl|exact fun (j:Nat) (hj:j < _)=>Or.inl (aN _ _ _ _))
    ·refine fun (hc:decide (0 < crV (r.p i) (r.p (((i:Int)+1).tmod (r.n:Int)).toNat) (r.p ((i:Int)+2+(j:Int)).toNat) (r.p (((i:Int)+2+(j:Int)+1).tmod (r.n:Int)).toNat))=false)=>?_
     have hfj1:orB (fun j=>bad1 r i (i+2+j)) (j+1)=false:=by
      simp only [orB]
      rw [hfj,e1,hc]
      rfl
     have est:(i:Int)+2+(j:Int)+1=(i:Int)+2+((j+1:Nat):Int):=by omega
     repeat' (first|with_reducible exact d1|with_reducible exact d2|apply And.intro|exact trivial|exact rfl|exact fun (j:Nat) (hj:j < _)=>Or.inl (aN _ _ _ _))
     refine Exists.intro (j+1) ?_
     refine And.intro (And.intro (And.intro (by omega) hjk') hfj1) ?_
     repeat' (first|exact est|apply And.intro|exact trivial|exact rfl|exact fun (j:Nat) (hj:j < _)=>Or.inl (aN _ _ _ _))
     show r.n - (j+1) < r.n - j
     omega
   ·refine fun (h:decide ((i:Int)+2+(j:Int) < min (r.n:Int) ((i:Int)+(r.n:Int) - 1))=false)=>?_
    have hlt:¬ (i:Int)+2+(j:Int) < min (r.n:Int) ((i:Int)+(r.n:Int) - 1):=of_decide_eq_false h
    have ej:j=oS r i:=by
     have:=hjk
     unfold oS at this ⊢
     omega
    have hfi:orB (bad r) (i+1)=false:=by
     simp only [orB]
     rw [hf]
     unfold bad
     rw [e0,hc,<- ej,hfj]
     rfl
    repeat' (first|with_reducible exact b1|with_reducible exact b2|apply And.intro|exact trivial|exact rfl|exact fun (j:Nat) (hj:j < _)=>Or.inl (aN _ _ _ _))
    refine Exists.intro (i+1) ?_
    refine And.intro (And.intro hil hfi) ?_
    repeat' (first|apply And.intro|exact trivial|exact rfl|exact fun (j:Nat) (hj:j < _)=>Or.inl (aN _ _ _ _))
    show r.n - (i+1) < r.n - i
    omega
  ·refine fun (hc:decide (lL (r.p i) (r.p (((i:Int)+1).tmod (r.n:Int)).toNat) (r.p (((i:Int)+2).tmod (r.n:Int)).toNat)=0)=true)=>?_
   have ef:false=qC r:=by
    unfold qC
    have hb:bad r i=true:=by unfold bad; rw [e0,hc]; rfl
    rw [aO.2 ⟨i,hil,hb⟩]
    rfl
   repeat' (first|exact ef|apply And.intro|exact trivial|exact rfl|exact fun (j:Nat) (hj:j < _)=>Or.inl (aN _ _ _ _))
  ·refine fun (hc:decide (lL (r.p i) (r.p (((i:Int)+1).tmod (r.n:Int)).toNat) (r.p (((i:Int)+2).tmod (r.n:Int)).toNat)=0)=false)=>?_
   have hst:(i:Int)+2=(i:Int)+2+((0:Nat):Int):=by omega
   repeat' (first|with_reducible exact b3|with_reducible exact b4|apply And.intro|exact trivial|exact rfl|exact fun (j:Nat) (hj:j < _)=>Or.inl (aN _ _ _ _))
   refine ⟨⟨Nat,fun j=>(j<=r.n/\j<=oS r i)/\orB (fun j=>bad1 r i (i+2+j)) j=false,fun j=>[(7,.int .i64 ((i:Int)+2+(j:Int)))],fun _=>[],fun j=>r.n - j⟩,0,⟨⟨Nat.zero_le _,Nat.zero_le _⟩,rfl⟩,?_,?_⟩
   ·repeat' (first|exact hst|apply And.intro|exact trivial|exact rfl|exact fun (j:Nat) (hj:j < _)=>Or.inl (aN _ _ _ _))
   rintro (j:Nat) ⟨⟨(hj:j<=r.n),(hjk:j<=oS r i)⟩,(hfj:orB (fun j=>bad1 r i (i+2+j)) j=false)⟩
   repeat' (first|with_reducible exact b5|with_reducible exact b6|with_reducible exact b7|with_reducible exact b8|apply And.intro|exact trivial|exact rfl|exact fun (j:Nat) (hj:j < _)=>Or.inl (aN _ _ _ _))
   ·refine fun (h:decide ((i:Int)+2+(j:Int) < min (r.n:Int) ((i:Int)+(r.n:Int) - 1))=true)=>?_
    have hlt:(i:Int)+2+(j:Int) < min (r.n:Int) ((i:Int)+(r.n:Int) - 1):=of_decide_eq_true h
    have hk1:0<=(i:Int)+2+(j:Int):=by omega
    have hk2:(i:Int)+2+(j:Int) < (r.n:Int):=by omega
    have hkt:((i:Int)+2+(j:Int)).toNat=i+2+j:=by omega
    have hkn:i+2+j < r.n:=by omega
    have hjk':j < oS r i:=by unfold oS; omega
    have d1:-9223372036854775808<=(i:Int)+2+(j:Int)+1:=by omega
    have d2:(i:Int)+2+(j:Int)+1<=9223372036854775807:=by omega
    have km:((i:Int)+2+(j:Int)+1).tmod (r.n:Int)=(((i+2+j+1) % r.n:Nat):Int):=by
     have:=oN (i:=i+2+j) (n:=r.n) (by omega)
     rw [<- this]
     congr 1
    have kq:r.p (((i:Int)+2+(j:Int)+1).tmod (r.n:Int)).toNat=nxt r (i+2+j):=by rw [km]; rfl
    have km1:0<=((i:Int)+2+(j:Int)+1).tmod (r.n:Int):=by rw [km]; omega
    have km2:((i:Int)+2+(j:Int)+1).tmod (r.n:Int) < (r.n:Int):=by rw [km]; have:=Nat.mod_lt (i+2+j+1) (show 0 < r.n by omega); omega
    have h3:onB (r.p ((i:Int)+2+(j:Int)).toNat)=true:=by rw [hkt]; exact hr _ hkn
    have h4:onB (r.p (((i:Int)+2+(j:Int)+1).tmod (r.n:Int)).toNat)=true:=by rw [kq]; exact pR hr hkn
    have e1:bad1 r i (i+2+j)=decide (0 < crV (r.p i) (r.p (((i:Int)+1).tmod (r.n:Int)).toNat) (r.p ((i:Int)+2+(j:Int)).toNat) (r.p (((i:Int)+2+(j:Int)+1).tmod (r.n:Int)).toNat)):=by rw [hq,kq,hkt]; rfl
    repeat' (first|with_reducible exact hk1|with_reducible exact hk2|with_reducible exact d1|with_reducible exact d2|with_reducible exact hnz|exact km1|exact km2|exact h1|exact h2|exact h3|exact h4|apply And.intro|exact trivial|exact rfl|exact fun (j:Nat) (hj:j < _)=>Or.inl (aN _ _ _ _))
    ·refine fun (hc:decide (0 < crV (r.p i) (r.p (((i:Int)+1).tmod (r.n:Int)).toNat) (r.p ((i:Int)+2+(j:Int)).toNat) (r.p (((i:Int)+2+(j:Int)+1).tmod (r.n:Int)).toNat))=true)=>?_
     have ef:false=qC r:=by
      unfold qC
      have hb:bad r i=true:=by
       unfold bad
       rw [(aO (f:=fun j=>bad1 r i (i+2+j))).2 ⟨j,hjk',e1.trans hc⟩,Bool.or_true]
      rw [aO.2 ⟨i,hil,hb⟩]
      rfl
     repeat' (first|exact ef|apply And.intro|exact trivial|exact rfl|exact fun (j:Nat) (hj:j < _)=>Or.inl (aN _ _ _ _))
    ·refine fun (hc:decide (0 < crV (r.p i) (r.p (((i:Int)+1).tmod (r.n:Int)).toNat) (r.p ((i:Int)+2+(j:Int)).toNat) (r.p (((i:Int)+2+(j:Int)+1).tmod (r.n:Int)).toNat))=false)=>?_
     have hfj1:orB (fun j=>bad1 r i (i+2+j)) (j+1)=false:=by
      simp only [orB]
      rw [hfj,e1,hc]
      rfl
     have est:(i:Int)+2+(j:Int)+1=(i:Int)+2+((j+1:Nat):Int):=by omega
     repeat' (first|with_reducible exact d1|with_reducible exact d2|apply And.intro|exact trivial|exact rfl|exact fun (j:Nat) (hj:j < _)=>Or.inl (aN _ _ _ _))
     refine Exists.intro (j+1) ?_
     refine And.intro (And.intro (And.intro (by omega) hjk') hfj1) ?_
     repeat' (first|exact est|apply And.intro|exact trivial|exact rfl|exact fun (j:Nat) (hj:j < _)=>Or.inl (aN _ _ _ _))
     show r.n - (j+1) < r.n - j
     omega
   ·refine fun (h:decide ((i:Int)+2+(j:Int) < min (r.n:Int) ((i:Int)+(r.n:Int) - 1))=false)=>?_
    have hlt:¬ (i:Int)+2+(j:Int) < min (r.n:Int) ((i:Int)+(r.n:Int) - 1):=of_decide_eq_false h
    have ej:j=oS r i:=by
     have:=hjk
     unfold oS at this ⊢
     omega
    have hfi:orB (bad r) (i+1)=false:=by
     simp only [orB]
     rw [hf]
     unfold bad
     rw [e0,hc,<- ej,hfj]
     rfl
    repeat' (first|with_reducible exact b1|with_reducible exact b2|apply And.intro|exact trivial|exact rfl|exact fun (j:Nat) (hj:j < _)=>Or.inl (aN _ _ _ _))
    refine Exists.intro (i+1) ?_
    refine And.intro (And.intro hil hfi) ?_
    repeat' (first|apply And.intro|exact trivial|exact rfl|exact fun (j:Nat) (hj:j < _)=>Or.inl (aN _ _ _ _))
    show r.n - (i+1) < r.n - i
    omega
 ·refine fun (h:decide ((i:Int) < (r.n:Int))=false)=>?_
  have hi1:¬ (i:Int) < (r.n:Int):=of_decide_eq_false h
  have e:i=r.n:=by omega
  have ef:true=qC r:=by
   unfold qC
   rw [<- e,hf]
   rfl
  repeat' (first|exact ef|apply And.intro|exact trivial|exact rfl|exact fun (j:Nat) (hj:j < _)=>Or.inl (aN _ _ _ _))
end G6
end
section
open Go Go.Eng Go.Proofs G1 G2 G3 G4 G6
set_option maxRecDepth 100000
namespace G7
def aZ (f:Nat->Bool):Nat->Int
 | 0=>-1
 | n+1=>if 0<=aZ f n then aZ f n else if f n=true then (n:Int) else -1
theorem cA {f:Nat->Bool}:∀ {n:Nat},orB f n=false->aZ f n=-1:=by
 intro n
 induction n with
 | zero=>intro _; rfl
 | succ n ih =>
  intro h
  simp only [orB,Bool.or_eq_false_iff] at h
  have h1:=ih h.1
  simp only [aZ]
  rw [h1,if_neg (by omega),if_neg (by rw [h.2]; decide)]
theorem cI {f:Nat->Bool} {i:Nat} (h:orB f i=false) (hi:f i=true):∀ {n:Nat},i < n->aZ f n=(i:Int):=by
 intro n
 induction n with
 | zero=>intro h; omega
 | succ n ih =>
  intro hn
  simp only [aZ]
  by_cases e:i=n
  ·subst e
   rw [cA h,if_neg (by omega),if_pos hi]
  ·have h1:=ih (by omega)
   rw [h1,if_pos (by omega)]
theorem kV {f:Nat->Bool} {n:Nat}:decide (0<=aZ f n)=orB f n:=by
 cases h:orB f n with
 | false=>rw [cA h]; rfl
 | true =>
  rw [decide_eq_true_eq]
  induction n with
  | zero=>cases h
  | succ n ih =>
   simp only [aZ]
   split
   ·assumption
   ·rename_i hn
    simp only [orB,Bool.or_eq_true] at h
    rcases h with h|h
    ·exact absurd (ih h) hn
    ·rw [if_pos h]; omega
def pS (r:Pts) (i:Nat):Bool:=!onB (r.p i)
def Il:Eng.Spec where
 X:=Pts
 args:=fun r=>.cons (rgE r) (.cons (.fn 199 .nil) .nil)
 pre:=fun r=>r.n<=50
 res:=fun r=>.int .i64 (aZ (pS r) r.n)
 inst:=fun
  | .cons a (.cons _ .nil)=>pW a
  | _=>none
def g237:List Nat:=[7,9,1,0,16,5,8,4]
def c237:aH :=
 .seq (.region g237 [(zo 4 (.move (cj 0)))]) (.seq (.seq (.region g237 [(mv 6 0),(zo 7 (.lenSl (.s 6))),(zo 8 (.move (cj 0)))]) (.block 0 (.loop 0 [9,10,5,11,12,13,14,15,16,17,4,18,8] (.seq (.region g237 [(zo 9 (.bin (.lss) (.s 8) (.s 7)))]) (.seq (.cond (.s 9) .skip (.exit 0)) (.seq (.block 1 (.seq (.region g237 [(mv 10 8),(mv 5 10)]) (.seq (.region g237 [(mv 11 1),(mv 12 0),(mv 13 5),(zo 14 (.idxSl 2 (.s 12) (.s 13))),(zo 15 (.load 2 true (.s 14))),(zo 16 (.call (.s 11) [.s 15]))]) (.cond (.s 16) (.seq (.region g237 [(mv 17 5),(mv 4 17)]) .ret) .skip)))) (.region g237 [(zo 18 (.bin (.add) (.s 8) (cj 1))),(mv 8 18)]))))))) (.seq (.region g237 [(zo 4 (.move (cj (-1))))]) .ret))
theorem e237:aI Tryz.prog 237 g237 [] [] []=some (c237,[.slot 4],19):=by kernel_rfl
theorem E8:Il.Ok Tryz.prog 237:=by
 refine Eng.Spec.cY e237 .nil (fun _=>[(199,.p Rs)]) (fun _ _=>aA.p Jj aA.nil) ?_
 rintro r hn
 replace hn:r.n<=50:=hn
 refine ⟨trivial,?_⟩
 repeat' (first|apply And.intro|exact trivial|exact rfl|exact fun (j:Nat) (hj:j < _)=>Or.inl (aN _ _ _ _))
 refine ⟨⟨Nat,fun i=>i<=r.n/\orB (pS r) i=false,fun i=>[(8,.int .i64 (i:Int))],fun _=>[],fun i=>r.n - i⟩,0,⟨Nat.zero_le _,rfl⟩,?_,?_⟩
 ·repeat' (first|apply And.intro|exact trivial|exact rfl|exact fun (j:Nat) (hj:j < _)=>Or.inl (aN _ _ _ _))
 rintro (i:Nat) ⟨(hi:i<=r.n),(hf:orB (pS r) i=false)⟩
 repeat' (first|apply And.intro|exact trivial|exact rfl|exact fun (j:Nat) (hj:j < _)=>Or.inl (aN _ _ _ _))
 ·refine fun (h:decide ((i:Int) < (r.n:Int))=true)=>?_
  have hi1:(i:Int) < (r.n:Int):=of_decide_eq_true h
  have hil:i < r.n:=by omega
  have hi0:(0:Int)<=(i:Int):=by omega
  have b1:-9223372036854775808<=(i:Int)+1:=by omega
  have b2:(i:Int)+1<=9223372036854775807:=by omega
  repeat' (first|with_reducible exact hi1|with_reducible exact hi0|apply And.intro|exact trivial|exact rfl|exact fun (j:Nat) (hj:j < _)=>Or.inl (aN _ _ _ _))
  ·refine fun (hc:(!onB (r.p i))=true)=>?_
   have e:(i:Int)=aZ (pS r) r.n:=(cI hf hc hil).symm
   repeat' (first|exact e|apply And.intro|exact trivial|exact rfl|exact fun (j:Nat) (hj:j < _)=>Or.inl (aN _ _ _ _))
  ·refine fun (hc:(!onB (r.p i))=false)=>?_
   have hf1:orB (pS r) (i+1)=false:=by
    simp only [orB]
    rw [hf]
    exact hc
   repeat' (first|with_reducible exact b1|with_reducible exact b2|apply And.intro|exact trivial|exact rfl|exact fun (j:Nat) (hj:j < _)=>Or.inl (aN _ _ _ _))
   refine Exists.intro (i+1) ?_
   refine And.intro (And.intro hil hf1) ?_
   repeat' (first|apply And.intro|exact trivial|exact rfl|exact fun (j:Nat) (hj:j < _)=>Or.inl (aN _ _ _ _))
   show r.n - (i+1) < r.n - i
   omega
 ·refine fun (h:decide ((i:Int) < (r.n:Int))=false)=>?_
  have hi1:¬ (i:Int) < (r.n:Int):=of_decide_eq_false h
  have e:i=r.n:=by omega
  have ef:-1=aZ (pS r) r.n:=by rw [<- e,cA hf]
  repeat' (first|exact ef|apply And.intro|exact trivial|exact rfl|exact fun (j:Nat) (hj:j < _)=>Or.inl (aN _ _ _ _))
def Ij:Eng.Spec where
 X:=Pts
 args:=fun r=>.cons (rgE r) (.cons (.fn 199 .nil) .nil)
 pre:=fun r=>r.n<=50
 res:=fun r=>.bool (orB (pS r) r.n)
 inst:=fun
  | .cons a (.cons _ .nil)=>pW a
  | _=>none
def g198:List Nat:=[0,1,4]
def c198:aH :=
 .seq (.region g198 [(zo 4 (.move cF))]) (.seq (.region g198 [(mv 5 0),(mv 6 1),(zo 7 (.call (.c (.fn 237)) [.s 5,.s 6])),(zo 8 (.bin (.geq) (.s 7) (cj 0))),(mv 4 8)]) .ret)
theorem e198:aI Tryz.prog 198 g198 [] [] []=some (c198,[.slot 4],9):=by kernel_rfl
theorem E7:Ij.Ok Tryz.prog 198:=by
 refine Eng.Spec.cY e198 .nil (fun _=>[(237,.p Il)]) (fun _ _=>aA.p E8 aA.nil) ?_
 rintro r hn
 replace hn:r.n<=50:=hn
 have e:=kV (f:=pS r) (n:=r.n)
 refine ⟨trivial,?_⟩
 repeat' (first|exact hn|exact e|apply And.intro|exact trivial|exact rfl|exact fun (j:Nat) (hj:j < _)=>Or.inl (aN _ _ _ _))
def qF (r:Pts):Bool:=(((decide (3<=(r.n:Int)) && decide ((r.n:Int)<=40)) && !orB (pS r) r.n) && decide (0 < twV r)) && qC r
def Valid:Eng.Spec where
 X:=Pts
 args:=fun r=>.cons (rgE r) .nil
 pre:=fun r=>(r.n:Int)<=9223372036854775806
 res:=fun r=>.bool (qF r)
 inst:=fun
  | .cons a .nil=>pW a
  | _=>none
def g141:List Nat:=[0,3,2]
def c141:aH :=
 .seq (.region g141 [(zo 2 (.move cF))]) (.seq (.region g141 [(mv 4 0),(mv 3 4)]) (.seq (.region g141 [(mv 5 3),(zo 6 (.lenSl (.s 5))),(zo 7 (.bin (.geq) (.s 6) (cj 3))),(mv 8 7),(mg 9 8 true 3),(zg 10 8 true (.lenSl (.s 9))),(zg 11 8 true (.bin (.leq) (.s 10) (cj 40))),(zo 12 (.pick (.s 8) (.s 11) cF)),(mv 13 12),(mg 14 13 true 3),(zg 15 13 true (.call (.c (.fn 198)) [.s 14,.c (.fn 199)])),(zg 16 13 true (.not (.s 15))),(zo 17 (.pick (.s 13) (.s 16) cF)),(mv 18 17),(mg 19 18 true 3),(zg 20 18 true (.call (.c (.fn 200)) [.s 19])),(zg 21 18 true (.bin (.gtr) (.s 20) (cj 0))),(zo 22 (.pick (.s 18) (.s 21) cF)),(mv 23 22),(mg 24 23 true 3),(zg 25 23 true (.call (.c (.fn 201)) [.s 24])),(zo 26 (.pick (.s 23) (.s 25) cF)),(mv 2 26)]) .ret))
theorem e141:aI Tryz.prog 141 g141 [] [] []=some (c141,[.slot 2],27):=by kernel_rfl
theorem Cm {r:Pts} (h:orB (pS r) r.n=false):OnR r:=fun i hi=>by
 have:=aS.1 h i hi
 unfold pS at this
 simpa using this
theorem nN:Valid.Ok Tryz.prog 141:=by
 refine Eng.Spec.cY e141 .nil (fun _=>[(198,.p Ij),(200,.p twice),(201,.p simple)]) (fun _ _=>aA.p E7 (aA.p Kv (aA.p Gb aA.nil))) ?_
 rintro r hn
 replace hn:(r.n:Int)<=9223372036854775806:=hn
 refine ⟨trivial,?_⟩
 repeat' (first|apply And.intro|exact trivial|exact rfl|exact fun (j:Nat) (hj:j < _)=>Or.inl (aN _ _ _ _))
 ·refine fun (h:aE (decide (3<=(r.n:Int))) _ _ (decide ((r.n:Int)<=40)) _=true)=>?_
  rw [aF] at h
  simp only [Bool.and_eq_true,decide_eq_true_eq] at h
  have h50:r.n<=50:=by omega
  repeat' (first|exact h50|apply And.intro|exact trivial|exact rfl|exact fun (j:Nat) (hj:j < _)=>Or.inl (aN _ _ _ _))
 ·refine fun (h:aE (aE (decide (3<=(r.n:Int))) _ _ (decide ((r.n:Int)<=40)) _) _ _ (!orB (pS r) r.n) _=true)=>?_
  rw [aF,aF] at h
  simp only [Bool.and_eq_true,decide_eq_true_eq] at h
  have h50:r.n<=50:=by omega
  have hon:OnR r:=Cm (uZ h.2)
  repeat' (first|exact h50|exact hon|apply And.intro|exact trivial|exact rfl|exact fun (j:Nat) (hj:j < _)=>Or.inl (aN _ _ _ _))
 ·refine fun (h:aE (aE (aE (decide (3<=(r.n:Int))) _ _ (decide ((r.n:Int)<=40)) _) _ _ (!orB (pS r) r.n) _) _ _ (decide (0 < twV r)) _=true)=>?_
  rw [aF,aF,aF] at h
  simp only [Bool.and_eq_true,decide_eq_true_eq] at h
  have h50:r.n<=50:=by omega
  have hon:OnR r:=Cm (uZ h.1.2)
  repeat' (first|exact h50|exact hon|apply And.intro|exact trivial|exact rfl|exact fun (j:Nat) (hj:j < _)=>Or.inl (aN _ _ _ _))
theorem Ky {r:Pts} (h:qF r=true):(r.n<=50/\OnR r)/\(3<=r.n/\r.n<=40)/\0 < twV r/\qC r=true:=by
 unfold qF at h
 simp only [Bool.and_eq_true,decide_eq_true_eq] at h
 exact ⟨⟨by omega,Cm (uZ h.1.1.2)⟩,by omega,h.1.2,h.2⟩
end G7
end
section
open Go Go.Eng Go.Proofs G1 G3
namespace EV0
abbrev B:=List UInt8
structure Sq (T:Type) where
 n:Nat
 f:Nat->T
def Sq.list {T:Type} (s:Sq T):List T:=(List.range s.n).map s.f
structure Hn where
 n:Int
 l:B
 num:Int
 den:Int
structure Nm where
 lang:B
 script:Int
 text:B
structure En where
 id:B
 num:Hn
 pt:Pt
structure Ev where
 kind:Int
 day:Int
 a:Int
 b:Int
 off:Int
 id:B
 oth:B
 txt:B
 ids:Sq B
 names:Sq Nm
 num:Hn
 pt:Pt
 path:Pts
 list:Sq En
def hnC (h:Hn) (t:SV):SV:=.cons (.int .i64 h.n) (.cons (.str h.l) (.cons (.int .i64 h.num) (.cons (.int .i64 h.den) t)))
def hnL (h:Hn):SV:=hnC h .nil
def nmL (x:Nm):SV:=.cons (.str x.lang) (.cons (.int .i64 x.script) (.cons (.str x.text) .nil))
def enL (x:En):SV:=.cons (.str x.id) (hnC x.num (ptL x.pt))
def stL (s:B):SV:=.cons (.str s) .nil
def stE (s:Sq B):SV:=.slice 1 s.n fun i=>stL (s.f i)
def nmE (s:Sq Nm):SV:=.slice 3 s.n fun i=>nmL (s.f i)
def enE (s:Sq En):SV:=.slice 7 s.n fun i=>enL (s.f i)
def hnE (s:Sq Hn):SV:=.slice 4 s.n fun i=>hnL (s.f i)
def evL (e:Ev):SV:=.cons (.int .i64 e.kind) (.cons (.int .i64 e.day) (.cons (.int .i64 e.a) (.cons (.int .i64 e.b) (.cons (.int .i64 e.off)
 (.cons (.str e.id) (.cons (.str e.oth) (.cons (.str e.txt) (.cons (stE e.ids) (.cons (nmE e.names) (hnC e.num (.cons (.int .i64 e.pt.1) (.cons (.int .i64 e.pt.2) (.cons (rgE e.path) (.cons (enE e.list) .nil))))))))))))))
def evE (e:Ev):SV:=.agg (evL e)
def bH:SV->B
 | .str s=>s
 | _=>[]
def sqD {T:Type} (g:SV->T) (s:SV):Option (Sq T):=match asSlice s with
 | some (_,n,enc)=>some ⟨n,fun i=>g (enc i)⟩
 | none=>none
def stD (s:SV):Option (Sq B):=sqD (fun c=>bH (aJ c 0)) s
def hnA (c:SV) (k:Nat):Hn:=⟨aP (aJ c k),bH (aJ c (k+1)),aP (aJ c (k+2)),aP (aJ c (k+3))⟩
def nmD (s:SV):Option (Sq Nm):=sqD (fun c=>⟨bH (aJ c 0),aP (aJ c 1),bH (aJ c 2)⟩) s
def enD (s:SV):Option (Sq En):=sqD (fun c=>⟨bH (aJ c 0),hnA c 1,(aP (aJ c 5),aP (aJ c 6))⟩) s
def W2 (s:SV):Option (Sq Hn):=sqD (fun c=>hnA c 0) s
def hnD:SV->Option Hn
 | .agg c=>some (hnA c 0)
 | _=>none
def evD:SV->Option Ev
 | .agg c=>match stD (aJ c 8),nmD (aJ c 9),pW (aJ c 16),enD (aJ c 17) with
  | some i,some n,some p,some l=>some ⟨aP (aJ c 0),aP (aJ c 1),aP (aJ c 2),aP (aJ c 3),aP (aJ c 4),bH (aJ c 5),bH (aJ c 6),bH (aJ c 7),i,n,hnA c 10,(aP (aJ c 14),aP (aJ c 15)),p,l⟩
  | _,_,_,_=>none
 | _=>none
theorem bX (k:Keep) (hp:List (Nat×aG)) (m:Nat) (x:B):sub k hp (m+3) (stL x) (stL x):=⟨rfl,trivial⟩
theorem Kn (k:Keep) (hp:List (Nat×aG)) (m:Nat) (x:Nm):sub k hp (m+5) (nmL x) (nmL x):=⟨rfl,⟨rfl,rfl⟩,rfl,trivial⟩
theorem jC (k:Keep) (hp:List (Nat×aG)) (m:Nat) (x:Hn):sub k hp (m+6) (hnL x) (hnL x):=⟨⟨rfl,rfl⟩,rfl,⟨rfl,rfl⟩,⟨rfl,rfl⟩,trivial⟩
theorem W9 (k:Keep) (hp:List (Nat×aG)) (m:Nat) (x:En):sub k hp (m+9) (enL x) (enL x):=⟨rfl,⟨rfl,rfl⟩,rfl,⟨rfl,rfl⟩,⟨rfl,rfl⟩,⟨rfl,rfl⟩,⟨rfl,rfl⟩,trivial⟩
def one {T:Type} (f:SV->Option T):SV->Option T
 | .cons a .nil=>f a
 | _=>none
def two {S T:Type} (f:SV->Option S) (g:SV->Option T):SV->Option (S×T)
 | .cons a (.cons b .nil)=>match f a,g b with
  | some x,some y=>some (x,y)
  | _,_=>none
 | _=>none
def oK:SV->Option B
 | .str s=>some s
 | _=>none
def tY:SV->Option Int
 | .int _ n=>some n
 | _=>none
def N4:SV->Option Bool
 | .bool b=>some b
 | _=>none
def okT (s:B):Prop:=s.length<=1000000
def okS {T:Type} (s:Sq T) (p:T->Prop):Prop:=s.n<=1000000/\∀ i,i < s.n->p (s.f i)
def okN (x:Nm):Prop:=okT x.lang/\okT x.text
def okH (x:Hn):Prop:=okT x.l
def okE (x:En):Prop:=okT x.id/\okH x.num
structure okV (e:Ev):Prop where
 id:okT e.id
 oth:okT e.oth
 txt:okT e.txt
 ids:okS e.ids okT
 names:okS e.names okN
 num:okH e.num
 path:e.path.n<=1000000
 list:e.list.n<=900000/\∀ i,i < e.list.n->okE (e.list.f i)
end EV0
end
