/- A part of the proof. -/
import Derived.Test.YtlfdokecdilkcaaGreatDoorG2
import Derived.Test.YtlfdokecdilkcaaGreatDoorL10
section
open Go Go.Eng Go.Proofs G1 G2
set_option maxRecDepth 100000
namespace G3
def rgE (r:Pts):SV:=.slice 2 r.n fun i=>ptL (r.p i)
def nxt (r:Pts) (i:Nat):Pt:=r.p ((i+1) % r.n)
def mR (f:Nat->Int):Nat->Int
 | 0=>0
 | n+1=>mR f n+f n
def tw2 (a b:Pt):Int:=a.1 * b.2 - b.1 * a.2
def twV (r:Pts):Int:=mR (fun i=>tw2 (r.p i) (nxt r i)) r.n
def OnR (r:Pts):Prop:=∀ i,i < r.n->onB (r.p i)=true
def tT (s:SV):Option Pts:=match asSlice s with
 | some (_,n,enc)=>some ⟨n,fun i=>(eZ (bI (enc i) 0),eZ (bI (enc i) 1))⟩
 | none=>none
def g193:List Nat:=[6,8,5,0,4,3,1,23,7]
def c193:aD :=
 .seq (.region g193 [(zo 5 (.load 1 false (.s 1))),(zo 6 (.lenSl (.s 5))),(zo 7 (.move (.c (.int .i64 0))))]) (.block 0 (.loop 0 [8,9,10,11,4,3,12,13,14,15,16,17,18,19,20,21,22,23,24,7] (.seq (.region g193 [(zo 8 (.bin (.lss) (.s 7) (.s 6)))]) (.seq (.cond (.s 8) .skip (.exit 0)) (.seq (.block 1 (.seq (.region g193 [(zo 9 (.move (.s 7))),(zo 10 (.idxSl 2 (.s 5) (.s 7))),(zo 11 (.load 2 true (.s 10))),(zo 4 (.alloc 27 zPt)),(zo 3 (.move (.s 9))),⟨none,none,.store 2 (.s 4) (.s 11),[]⟩]) (.seq (.drawn g193 (.pure 0 (zo 12 (.move (.s 0))) (.pure 1 (zo 13 (.load 2 true (.s 4))) (.pure 2 (zo 14 (.load 1 false (.s 1))) (.pure 3 (zo 15 (.move (.s 3))) (.pure 4 (zo 16 (.bin (.add) (.s 15) (.c (.int .i64 1)))) (.pure 5 (zo 17 (.load 1 false (.s 1))) (.pure 6 (zo 18 (.lenSl (.s 17))) (.pure 7 (zo 19 (.bin (.rem) (.s 16) (.s 18))) (.pure 8 (zo 20 (.idxSl 2 (.s 14) (.s 19))) (.pure 9 (zo 21 (.load 2 true (.s 20))) (.eff 10 (zo 22 (.call (.s 12) [.s 13,.s 21])) [] (.pure 11 (zo 23 (.not (.s 22))) .done) .none)))))))))))) (.cond (.s 23) .ret .skip)))) (.region g193 [(zo 24 (.bin (.add) (.s 7) (.c (.int .i64 1)))),(zo 7 (.move (.s 24)))]))))))
def r193:List aR:=[]
def k193:List (Nat×Nat×aD×Nat):=[]
theorem e193:aK Tryz.prog 193 g193 [] [22] k193=some (c193,r193,25):=by kernel_rfl
theorem q193:aF Tryz.prog k193:=aF.nil
def g160:List Nat:=[0,1,2]
def c160:aD :=
 .seq (.region g160 [(zo 1 (.box 132 (.s 0))),(zo 2 (.move (.c (.nilfn))))]) (.seq (.region g160 [(zo 3 (.mkfn 193 [.s 1])),(zo 2 (.move (.s 3)))]) .ret)
def r160:List aR:=[.slot 2]
def k160:List (Nat×Nat×aD×Nat):=[]
theorem e160:aK Tryz.prog 160 g160 [] [] k160=some (c160,r160,4):=by kernel_rfl
theorem q160:aF Tryz.prog k160:=aF.nil
def sides:Eng.Spec where
 X:=Pts
 args:=fun r=>.cons (rgE r) .nil
 pre:=fun _=>True
 res:=fun r=>.fn 193 (.cons (.cptr (.cons (rgE r) .nil)) .nil)
 inst:=fun
  | .cons a .nil=>tT a
  | _=>none
 fresh:=false
theorem Kq:sides.Ok Tryz.prog 160:=by
 refine Eng.Spec.dG e160 q160 (fun _=>[]) (fun _ _=>aA.nil) ?_
 rintro r _
 refine ⟨trivial,?_⟩
 repeat' (first|apply And.intro|exact trivial|exact rfl|exact fun (j:Nat) (hj:j < _)=>Or.inl (aL _ _ _ _))
def g126:List Nat:=[0,7,8,9,5,4,3,2]
def c126:aD :=
 .seq (.region g126 [(zo 2 (.move (.c (.int .i64 0))))]) (.seq (.region g126 [(zo 3 (.alloc 3 (.cons (.int .i64 0) .nil))),⟨none,none,.store 1 (.s 3) (.c (.int .i64 0)),[]⟩]) (.seq (.seq (.region g126 [(zo 6 (.move (.s 0))),(zo 7 (.call (.c (.fn 160)) [.s 6]))]) (.block 0 (.range 0 (.s 7) 193 (c193) 25 [8,9] (.seq (.region g126 [(zo 4 (.alloc 27 zPt)),⟨none,none,.store 2 (.s 4) (.s 8),[]⟩]) (.region g126 [(zo 5 (.alloc 27 zPt)),⟨none,none,.store 2 (.s 5) (.s 9),[]⟩])) (.block 1 (.region g126 [(zo 10 (.load 1 false (.s 3))),(zo 11 (.fldA 0 (.s 4))),(zo 12 (.load 1 false (.s 11))),(zo 13 (.fldA 1 (.s 5))),(zo 14 (.load 1 false (.s 13))),(zo 15 (.bin (.mul) (.s 12) (.s 14))),(zo 16 (.fldA 0 (.s 5))),(zo 17 (.load 1 false (.s 16))),(zo 18 (.fldA 1 (.s 4))),(zo 19 (.load 1 false (.s 18))),(zo 20 (.bin (.mul) (.s 17) (.s 19))),(zo 21 (.bin (.sub) (.s 15) (.s 20))),(zo 22 (.bin (.add) (.s 10) (.s 21))),⟨none,none,.store 1 (.s 3) (.s 22),[]⟩]))))) (.seq (.region g126 [(zo 23 (.load 1 false (.s 3))),(zo 2 (.move (.s 23)))]) .ret)))
def r126:List aR:=[.slot 2]
def k126:List (Nat×Nat×aD×Nat):=[(0,193,c193,25)]
theorem e126:aK Tryz.prog 126 g126 [] [] k126=some (c126,r126,24):=by kernel_rfl
theorem q126:aF Tryz.prog k126:=aF.cons (aF.nil) q193 e193
theorem tM {r:Pts} (h:OnR r) {i:Nat} (hi:i < r.n):onB (nxt r i)=true:=h _ (Nat.mod_lt _ (by omega))
theorem K9 {a b:Pt} (ha:onB a=true) (hb:onB b=true):(0<=a.1 * b.2/\a.1 * b.2<=1073741824)/\(0<=b.1 * a.2/\b.1 * a.2<=1073741824):=by
 have h1:=iE.1 ha
 have h2:=iE.1 hb
 have k1:=nR (a:=a.1) (b:=b.2) (B:=32768) (by omega) (by omega) (by omega) (by omega)
 have k2:=nR (a:=b.1) (b:=a.2) (B:=32768) (by omega) (by omega) (by omega) (by omega)
 have k3:=Int.mul_nonneg h1.1 h2.2.2.1
 have k4:=Int.mul_nonneg h2.1 h1.2.2.1
 omega
theorem S1 {f:Nat->Int} {B:Int}:∀ {n:Nat},(∀ i,i < n->-B<=f i/\f i<=B)->-(n * B)<=mR f n/\mR f n<=n * B:=by
 intro n
 induction n with
 | zero=>intro _; simp [mR]
 | succ n ih =>
  intro h
  have h1:=ih fun i hi=>h i (by omega)
  have h2:=h n (by omega)
  have e:((n+1:Nat):Int) * B=n * B+B:=by rw [Int.natCast_succ,Int.add_mul,Int.one_mul]
  rw [e]
  simp only [mR]
  omega
theorem rR {i n:Nat} (_:0 < n):((i:Int)+1).tmod (n:Int)=(((i+1) % n:Nat):Int):=by
 rw [Int.tmod_eq_emod_of_nonneg (by omega)]
 rfl
def twice:Eng.Spec where
 X:=Pts
 args:=fun r=>.cons (rgE r) .nil
 pre:=fun r=>r.n<=50/\OnR r
 res:=fun r=>.int .i64 (twV r)
 inst:=fun
  | .cons a .nil=>tT a
  | _=>none
theorem La:twice.Ok Tryz.prog 126:=by
 refine Eng.Spec.dG e126 q126 (fun _=>[(160,.p sides)]) (fun _ _=>aA.p Kq aA.nil) ?_
 rintro r ⟨hn,hr⟩
 replace hn:r.n<=50:=hn
 replace hr:OnR r:=hr
 refine ⟨trivial,?_⟩
 repeat' (first|apply And.intro|exact trivial|exact rfl|exact fun (j:Nat) (hj:j < _)=>Or.inl (aL _ _ _ _))
 refine ⟨⟨Nat,fun i=>i<=r.n,fun i=>[(7,.int .i64 (i:Int))],fun i=>[(0,.cells 3 (.cons (.int .i64 (mR (fun i=>tw2 (r.p i) (nxt r i)) i)) .nil))],fun i=>r.n - i⟩,0,Nat.zero_le _,?_,?_⟩
 ·repeat' (first|apply And.intro|exact trivial|exact rfl|exact fun (j:Nat) (hj:j < _)=>Or.inl (aL _ _ _ _))
 rintro (i:Nat) (hi:i<=r.n)
 repeat' (first|apply And.intro|exact trivial|exact rfl|exact fun (j:Nat) (hj:j < _)=>Or.inl (aL _ _ _ _))
 ·refine fun (h:decide ((i:Int) < (r.n:Int))=true)=>?_
  have hi1:(i:Int) < (r.n:Int):=of_decide_eq_true h
  have hil:i < r.n:=by omega
  have hi0:(0:Int)<=(i:Int):=by omega
  have b1:-9223372036854775808<=(i:Int)+1:=by omega
  have b2:(i:Int)+1<=9223372036854775807:=by omega
  have hnz:(r.n:Int)≠0:=by omega
  have hm:=rR (i:=i) (n:=r.n) (by omega)
  have hq:r.p (((i:Int)+1).tmod (r.n:Int)).toNat=nxt r i:=by rw [hm]; rfl
  have hk:=K9 (hr i hil) (tM hr hil)
  have hs:=S1 (f:=fun i=>tw2 (r.p i) (nxt r i)) (B:=1073741824) (n:=i) fun j hj=>by
   have:=K9 (hr j (by omega)) (tM hr (by omega:j < r.n))
   unfold tw2
   omega
  rw [<- hq] at hk
  have hm1:0<=((i:Int)+1).tmod (r.n:Int):=by rw [hm]; omega
  have hm2:((i:Int)+1).tmod (r.n:Int) < (r.n:Int):=by rw [hm]; have:=Nat.mod_lt (i+1) (show 0 < r.n by omega); omega
  have hs2:-53687091200<=mR (fun i=>tw2 (r.p i) (nxt r i)) i/\mR (fun i=>tw2 (r.p i) (nxt r i)) i<=53687091200:=by
   have:=Int.mul_le_mul_of_nonneg_right (show (i:Int)<=50 by omega) (show (0:Int)<=1073741824 by omega)
   omega
  have w1:-9223372036854775808<=(r.p i).1 * (r.p (((i:Int)+1).tmod (r.n:Int)).toNat).2:=by omega
  have w2:(r.p i).1 * (r.p (((i:Int)+1).tmod (r.n:Int)).toNat).2<=9223372036854775807:=by omega
  have w3:-9223372036854775808<=(r.p (((i:Int)+1).tmod (r.n:Int)).toNat).1 * (r.p i).2:=by omega
  have w4:(r.p (((i:Int)+1).tmod (r.n:Int)).toNat).1 * (r.p i).2<=9223372036854775807:=by omega
  have w5:-9223372036854775808<=(r.p i).1 * (r.p (((i:Int)+1).tmod (r.n:Int)).toNat).2 - (r.p (((i:Int)+1).tmod (r.n:Int)).toNat).1 * (r.p i).2:=by omega
  have w6:(r.p i).1 * (r.p (((i:Int)+1).tmod (r.n:Int)).toNat).2 - (r.p (((i:Int)+1).tmod (r.n:Int)).toNat).1 * (r.p i).2<=9223372036854775807:=by omega
  have w7:-9223372036854775808<=mR (fun i=>tw2 (r.p i) (nxt r i)) i+((r.p i).1 * (r.p (((i:Int)+1).tmod (r.n:Int)).toNat).2 - (r.p (((i:Int)+1).tmod (r.n:Int)).toNat).1 * (r.p i).2):=by omega
  have w8:mR (fun i=>tw2 (r.p i) (nxt r i)) i+((r.p i).1 * (r.p (((i:Int)+1).tmod (r.n:Int)).toNat).2 - (r.p (((i:Int)+1).tmod (r.n:Int)).toNat).1 * (r.p i).2)<=9223372036854775807:=by omega
  have e:mR (fun i=>tw2 (r.p i) (nxt r i)) i+((r.p i).1 * (r.p (((i:Int)+1).tmod (r.n:Int)).toNat).2 - (r.p (((i:Int)+1).tmod (r.n:Int)).toNat).1 * (r.p i).2)=mR (fun i=>tw2 (r.p i) (nxt r i)) (i+1):=by rw [hq]; rfl
  repeat' (first|with_reducible exact hi1|with_reducible exact hi0|with_reducible exact b1|with_reducible exact b2|with_reducible exact hnz|exact hm1|exact hm2|apply And.intro|exact trivial|exact rfl|exact fun (j:Nat) (hj:j < _)=>Or.inl (aL _ _ _ _)|exact fun (h:(!true)=true)=>Bool.noConfusion h|(refine fun (_:(!true)=false)=>?_))
  ·exact w1
  ·exact w2
  ·exact w3
  ·exact w4
  ·exact w5
  ·exact w6
  ·exact w7
  ·exact w8
  refine Exists.intro (i+1) (And.intro hil ?_)
  repeat' (first|exact e|apply And.intro|exact trivial|exact rfl|exact fun (j:Nat) (hj:j < _)=>Or.inl (aL _ _ _ _))
  show r.n - (i+1) < r.n - i
  omega
 ·refine fun (h:decide ((i:Int) < (r.n:Int))=false)=>?_
  have hi1:¬ (i:Int) < (r.n:Int):=of_decide_eq_false h
  have e:i=r.n:=by omega
  subst e
  repeat' (first|apply And.intro|exact trivial|exact rfl|exact fun (j:Nat) (hj:j < _)=>Or.inl (aL _ _ _ _))
end G3
end
section
namespace G4
def orB (f:Nat->Bool):Nat->Bool
 | 0=>false
 | n+1=>orB f n || f n
theorem bK {f:Nat->Bool}:∀ {n:Nat},orB f n=true ↔ ∃ i,i < n/\f i=true:=by
 intro n
 induction n with
 | zero=>simp [orB]
 | succ n ih =>
  simp only [orB,Bool.or_eq_true,ih]
  constructor
  ·rintro (⟨i,h1,h2⟩|h)
   ·exact ⟨i,by omega,h2⟩
   ·exact ⟨n,by omega,h⟩
  ·rintro ⟨i,h1,h2⟩
   by_cases e:i=n
   ·subst e; exact .inr h2
   ·exact .inl ⟨i,by omega,h2⟩
theorem bE {f:Nat->Bool} {n:Nat}:orB f n=false ↔ ∀ i,i < n->f i=false:=by
 constructor
 ·intro h i hi
  cases hf:f i with
  | false=>rfl
  | true=>rw [bK.2 ⟨i,hi,hf⟩] at h; cases h
 ·intro h
  cases hf:orB f n with
  | false=>rfl
  | true=>obtain ⟨i,h1,h2⟩:=bK.1 hf; rw [h i h1] at h2; cases h2
end G4
end
section
open Go Go.Eng Go.Proofs G1 G2 G3 G4
set_option maxRecDepth 100000
namespace G6
def bad0 (r:Pts) (i:Nat):Bool:=decide (kK (r.p i) (nxt r i) (r.p ((i+2) % r.n))=0)
def bad1 (r:Pts) (i k:Nat):Bool:=decide (0 < crV (r.p i) (nxt r i) (r.p k) (nxt r k))
def mM (r:Pts) (i:Nat):Nat:=min r.n (i+r.n - 1) - (i+2)
def bad (r:Pts) (i:Nat):Bool:=bad0 r i || orB (fun j=>bad1 r i (i+2+j)) (mM r i)
def lL (r:Pts):Bool:=!orB (bad r) r.n
def simple:Eng.Spec where
 X:=Pts
 args:=fun r=>.cons (rgE r) .nil
 pre:=fun r=>r.n<=50/\OnR r
 res:=fun r=>.bool (lL r)
 inst:=fun
  | .cons a .nil=>tT a
  | _=>none
def g127:List Nat:=[11,13,36,4,46,5,6,0,3,63,7,12,2]
def c127:aD :=
 .seq (.region g127 [(zo 2 (.move (.c (.bool false))))]) (.seq (.region g127 [(zo 8 (.move (.s 0))),(zo 9 (.lenSl (.s 8))),(zo 3 (.move (.s 9)))]) (.seq (.seq (.region g127 [(zo 10 (.move (.s 0))),(zo 11 (.lenSl (.s 10))),(zo 12 (.move (.c (.int .i64 0))))]) (.block 0 (.loop 0 [13,14,4,15,16,17,18,19,20,21,22,23,24,25,5,6,26,27,28,29,30,31,32,33,34,35,36,37,38,39,40,41,42,43,44,45,46,49,50,51,52,53,54,55,56,57,58,59,60,61,62,63,2,47,48,7,64,12] (.seq (.region g127 [(zo 13 (.bin (.lss) (.s 12) (.s 11)))]) (.seq (.cond (.s 13) .skip (.exit 0)) (.seq (.block 1 (.seq (.region g127 [(zo 14 (.move (.s 12))),(zo 4 (.move (.s 14)))]) (.seq (.drawn g127 (.pure 0 (zo 15 (.move (.s 0))) (.pure 1 (zo 16 (.move (.s 4))) (.pure 2 (zo 17 (.idxSl 2 (.s 15) (.s 16))) (.pure 3 (zo 18 (.load 2 true (.s 17))) (.pure 4 (zo 19 (.move (.s 0))) (.pure 5 (zo 20 (.move (.s 4))) (.pure 6 (zo 21 (.bin (.add) (.s 20) (.c (.int .i64 1)))) (.pure 7 (zo 22 (.move (.s 3))) (.pure 8 (zo 23 (.bin (.rem) (.s 21) (.s 22))) (.pure 9 (zo 24 (.idxSl 2 (.s 19) (.s 23))) (.pure 10 (zo 25 (.load 2 true (.s 24))) (.eff 11 (zo 5 (.alloc 27 zPt)) [(zo 25 (.load 2 true (.s 24))),(zo 18 (.load 2 true (.s 17)))] (.eff 12 (zo 6 (.alloc 27 zPt)) [(zo 25 (.load 2 true (.s 24))),(zo 18 (.load 2 true (.s 17)))] (.eff 13 ⟨none,none,.store 2 (.s 5) (.s 18),[]⟩ [(zo 25 (.load 2 true (.s 24)))] (.eff 14 ⟨none,none,.store 2 (.s 6) (.s 25),[]⟩ [] .done .none) .none) .none) (.eff 12 (zo 6 (.alloc 27 zPt)) [(zo 25 (.load 2 true (.s 24))),(zo 18 (.load 2 true (.s 17)))] (.eff 11 (zo 5 (.alloc 27 zPt)) [(zo 25 (.load 2 true (.s 24))),(zo 18 (.load 2 true (.s 17)))] (.eff 13 ⟨none,none,.store 2 (.s 5) (.s 18),[]⟩ [(zo 25 (.load 2 true (.s 24)))] (.eff 14 ⟨none,none,.store 2 (.s 6) (.s 25),[]⟩ [] .done .none) .none) .none) .none)))))))))))))) (.seq (.seq (.drawn g127 (.pure 0 (zo 26 (.load 2 true (.s 5))) (.pure 1 (zo 27 (.load 2 true (.s 6))) (.pure 2 (zo 28 (.move (.s 0))) (.pure 3 (zo 29 (.move (.s 4))) (.pure 4 (zo 30 (.bin (.add) (.s 29) (.c (.int .i64 2)))) (.pure 5 (zo 31 (.move (.s 3))) (.pure 6 (zo 32 (.bin (.rem) (.s 30) (.s 31))) (.pure 7 (zo 33 (.idxSl 2 (.s 28) (.s 32))) (.pure 8 (zo 34 (.load 2 true (.s 33))) (.pure 9 (zo 35 (.call (.c (.fn 161)) [.s 26,.s 27,.s 34])) (.pure 10 (zo 36 (.bin (.eql) (.s 35) (.c (.int .i64 0)))) .done)))))))))))) (.cond (.s 36) (.seq (.region g127 [(zo 2 (.move (.c (.bool false))))]) .ret) .skip)) (.seq (.region g127 [(zo 37 (.move (.s 4))),(zo 38 (.bin (.add) (.s 37) (.c (.int .i64 2)))),(zo 7 (.move (.s 38)))]) (.block 2 (.loop 1 [39,40,41,42,43,44,45,46,49,50,51,52,53,54,55,56,57,58,59,60,61,62,63,2,47,48,7] (.seq (.seq (.region g127 [(zo 39 (.move (.s 7))),(zo 40 (.move (.s 3))),(zo 41 (.move (.s 4))),(zo 42 (.move (.s 3))),(zo 43 (.bin (.add) (.s 41) (.s 42))),(zo 44 (.bin (.sub) (.s 43) (.c (.int .i64 1)))),(zo 45 (.mm false (.s 40) (.s 44))),(zo 46 (.bin (.lss) (.s 39) (.s 45)))]) (.cond (.s 46) .skip (.exit 2))) (.seq (.block 3 (.seq (.drawn g127 (.pure 0 (zo 49 (.load 2 true (.s 5))) (.pure 1 (zo 50 (.load 2 true (.s 6))) (.pure 2 (zo 51 (.move (.s 0))) (.pure 3 (zo 52 (.move (.s 7))) (.pure 4 (zo 53 (.idxSl 2 (.s 51) (.s 52))) (.pure 5 (zo 54 (.load 2 true (.s 53))) (.pure 6 (zo 55 (.move (.s 0))) (.pure 7 (zo 56 (.move (.s 7))) (.pure 8 (zo 57 (.bin (.add) (.s 56) (.c (.int .i64 1)))) (.pure 9 (zo 58 (.move (.s 3))) (.pure 10 (zo 59 (.bin (.rem) (.s 57) (.s 58))) (.pure 11 (zo 60 (.idxSl 2 (.s 55) (.s 59))) (.pure 12 (zo 61 (.load 2 true (.s 60))) (.pure 13 (zo 62 (.call (.c (.fn 162)) [.s 49,.s 50,.s 54,.s 61])) (.pure 14 (zo 63 (.bin (.gtr) (.s 62) (.c (.int .i64 0)))) .done)))))))))))))))) (.cond (.s 63) (.seq (.region g127 [(zo 2 (.move (.c (.bool false))))]) .ret) .skip))) (.region g127 [(zo 47 (.move (.s 7))),(zo 48 (.bin (.add) (.s 47) (.c (.int .i64 1)))),(zo 7 (.move (.s 48)))])))))))))) (.region g127 [(zo 64 (.bin (.add) (.s 12) (.c (.int .i64 1)))),(zo 12 (.move (.s 64)))]))))))) (.seq (.region g127 [(zo 2 (.move (.c (.bool true))))]) .ret)))
def r127:List aR:=[.slot 2]
def k127:List (Nat×Nat×aD×Nat):=[]
theorem e127:aK Tryz.prog 127 g127 [] [] k127=some (c127,r127,65):=by kernel_rfl
theorem q127:aF Tryz.prog k127:=aF.nil
theorem K6 {i n:Nat} (_:0 < n):((i:Int)+2).tmod (n:Int)=(((i+2) % n:Nat):Int):=by
 rw [Int.tmod_eq_emod_of_nonneg (by omega)]
 rfl
set_option maxHeartbeats 4000000 in
theorem G0:simple.Ok Tryz.prog 127:=by
 refine Eng.Spec.dG e127 q127 (fun _=>[(161,.p Turn),(162,.p Cross)]) (fun _ _=>aA.p Lu (aA.p Hr aA.nil)) ?_
 rintro r ⟨hn,hr⟩
 replace hn:r.n<=50:=hn
 replace hr:OnR r:=hr
 refine ⟨trivial,?_⟩
 repeat' (first|apply And.intro|exact trivial|exact rfl|exact fun (j:Nat) (hj:j < _)=>Or.inl (aL _ _ _ _))
 refine ⟨⟨Nat,fun i=>i<=r.n/\orB (bad r) i=false,fun i=>[(12,.int .i64 (i:Int))],fun _=>[],fun i=>r.n - i⟩,0,⟨Nat.zero_le _,rfl⟩,?_,?_⟩
 ·repeat' (first|apply And.intro|exact trivial|exact rfl|exact fun (j:Nat) (hj:j < _)=>Or.inl (aL _ _ _ _))
 rintro (i:Nat) ⟨(hi:i<=r.n),(hf:orB (bad r) i=false)⟩
 repeat' (first|apply And.intro|exact trivial|exact rfl|exact fun (j:Nat) (hj:j < _)=>Or.inl (aL _ _ _ _))
 ·refine fun (h:decide ((i:Int) < (r.n:Int))=true)=>?_
  have hi1:(i:Int) < (r.n:Int):=of_decide_eq_true h
  have hil:i < r.n:=by omega
  have hi0:(0:Int)<=(i:Int):=by omega
  have b1:-9223372036854775808<=(i:Int)+1:=by omega
  have b2:(i:Int)+1<=9223372036854775807:=by omega
  have b3:-9223372036854775808<=(i:Int)+2:=by omega
  have b4:(i:Int)+2<=9223372036854775807:=by omega
  have b5:-9223372036854775808<=(i:Int)+(r.n:Int):=by omega
  have b6:(i:Int)+(r.n:Int)<=9223372036854775807:=by omega
  have b7:-9223372036854775808<=(i:Int)+(r.n:Int) - 1:=by omega
  have b8:(i:Int)+(r.n:Int) - 1<=9223372036854775807:=by omega
  have hnz:(r.n:Int)≠0:=by omega
  have hm:=rR (i:=i) (n:=r.n) (by omega)
  have hq:r.p (((i:Int)+1).tmod (r.n:Int)).toNat=nxt r i:=by rw [hm]; rfl
  have hm1:0<=((i:Int)+1).tmod (r.n:Int):=by rw [hm]; omega
  have hm2:((i:Int)+1).tmod (r.n:Int) < (r.n:Int):=by rw [hm]; have:=Nat.mod_lt (i+1) (show 0 < r.n by omega); omega
  have hmm:=K6 (i:=i) (n:=r.n) (by omega)
  have hqq:r.p (((i:Int)+2).tmod (r.n:Int)).toNat=r.p ((i+2) % r.n):=by rw [hmm]; rfl
  have hm3:0<=((i:Int)+2).tmod (r.n:Int):=by rw [hmm]; omega
  have hm4:((i:Int)+2).tmod (r.n:Int) < (r.n:Int):=by rw [hmm]; have:=Nat.mod_lt (i+2) (show 0 < r.n by omega); omega
  have h1:=hr i hil
  have h2:onB (r.p (((i:Int)+1).tmod (r.n:Int)).toNat)=true:=by rw [hq]; exact tM hr hil
  have e0:bad0 r i=decide (kK (r.p i) (r.p (((i:Int)+1).tmod (r.n:Int)).toNat) (r.p (((i:Int)+2).tmod (r.n:Int)).toNat)=0):=by rw [hq,hqq]; rfl
  repeat' (first|with_reducible exact hi1|with_reducible exact hi0|with_reducible exact b1|with_reducible exact b2|with_reducible exact b3|with_reducible exact b4|with_reducible exact hnz|exact hm1|exact hm2|exact hm3|exact hm4|apply And.intro|exact trivial|exact rfl|exact fun (j:Nat) (hj:j < _)=>Or.inl (aL _ _ _ _))
  ·refine fun (hc:decide (kK (r.p i) (r.p (((i:Int)+1).tmod (r.n:Int)).toNat) (r.p (((i:Int)+2).tmod (r.n:Int)).toNat)=0)=true)=>?_
   have ef:false=lL r:=by
    unfold lL
    have hb:bad r i=true:=by unfold bad; rw [e0,hc]; rfl
    rw [bK.2 ⟨i,hil,hb⟩]
    rfl
   repeat' (first|exact ef|apply And.intro|exact trivial|exact rfl|exact fun (j:Nat) (hj:j < _)=>Or.inl (aL _ _ _ _))
  ·refine fun (hc:decide (kK (r.p i) (r.p (((i:Int)+1).tmod (r.n:Int)).toNat) (r.p (((i:Int)+2).tmod (r.n:Int)).toNat)=0)=false)=>?_
   have hst:(i:Int)+2=(i:Int)+2+((0:Nat):Int):=by omega
   repeat' (first|with_reducible exact b3|with_reducible exact b4|apply And.intro|exact trivial|exact rfl|exact fun (j:Nat) (hj:j < _)=>Or.inl (aL _ _ _ _))
   refine ⟨⟨Nat,fun j=>(j<=r.n/\j<=mM r i)/\orB (fun j=>bad1 r i (i+2+j)) j=false,fun j=>[(7,.int .i64 ((i:Int)+2+(j:Int)))],fun _=>[],fun j=>r.n - j⟩,0,⟨⟨Nat.zero_le _,Nat.zero_le _⟩,rfl⟩,?_,?_⟩
   ·repeat' (first|exact hst|apply And.intro|exact trivial|exact rfl|exact fun (j:Nat) (hj:j < _)=>Or.inl (aL _ _ _ _))
   rintro (j:Nat) ⟨⟨(hj:j<=r.n),(hjk:j<=mM r i)⟩,(hfj:orB (fun j=>bad1 r i (i+2+j)) j=false)⟩
   repeat' (first|with_reducible exact b5|with_reducible exact b6|with_reducible exact b7|with_reducible exact b8|apply And.intro|exact trivial|exact rfl|exact fun (j:Nat) (hj:j < _)=>Or.inl (aL _ _ _ _))
   ·refine fun (h:decide ((i:Int)+2+(j:Int) < min (r.n:Int) ((i:Int)+(r.n:Int) - 1))=true)=>?_
    have hlt:(i:Int)+2+(j:Int) < min (r.n:Int) ((i:Int)+(r.n:Int) - 1):=of_decide_eq_true h
    have hk1:0<=(i:Int)+2+(j:Int):=by omega
    have hk2:(i:Int)+2+(j:Int) < (r.n:Int):=by omega
    have hkt:((i:Int)+2+(j:Int)).toNat=i+2+j:=by omega
    have hkn:i+2+j < r.n:=by omega
    have hjk':j < mM r i:=by unfold mM; omega
    have d1:-9223372036854775808<=(i:Int)+2+(j:Int)+1:=by omega
    have d2:(i:Int)+2+(j:Int)+1<=9223372036854775807:=by omega
    have km:((i:Int)+2+(j:Int)+1).tmod (r.n:Int)=(((i+2+j+1) % r.n:Nat):Int):=by
     have:=rR (i:=i+2+j) (n:=r.n) (by omega)
     rw [<- this]
     congr 1
    have kq:r.p (((i:Int)+2+(j:Int)+1).tmod (r.n:Int)).toNat=nxt r (i+2+j):=by rw [km]; rfl
    have km1:0<=((i:Int)+2+(j:Int)+1).tmod (r.n:Int):=by rw [km]; omega
    have km2:((i:Int)+2+(j:Int)+1).tmod (r.n:Int) < (r.n:Int):=by rw [km]; have:=Nat.mod_lt (i+2+j+1) (show 0 < r.n by omega); omega
    have h3:onB (r.p ((i:Int)+2+(j:Int)).toNat)=true:=by rw [hkt]; exact hr _ hkn
    have h4:onB (r.p (((i:Int)+2+(j:Int)+1).tmod (r.n:Int)).toNat)=true:=by rw [kq]; exact tM hr hkn
    have e1:bad1 r i (i+2+j)=decide (0 < crV (r.p i) (r.p (((i:Int)+1).tmod (r.n:Int)).toNat) (r.p ((i:Int)+2+(j:Int)).toNat) (r.p (((i:Int)+2+(j:Int)+1).tmod (r.n:Int)).toNat)):=by rw [hq,kq,hkt]; rfl
    repeat' (first|with_reducible exact hk1|with_reducible exact hk2|with_reducible exact d1|with_reducible exact d2|with_reducible exact hnz|exact km1|exact km2|exact h1|exact h2|exact h3|exact h4|apply And.intro|exact trivial|exact rfl|exact fun (j:Nat) (hj:j < _)=>Or.inl (aL _ _ _ _))
    ·refine fun (hc:decide (0 < crV (r.p i) (r.p (((i:Int)+1).tmod (r.n:Int)).toNat) (r.p ((i:Int)+2+(j:Int)).toNat) (r.p (((i:Int)+2+(j:Int)+1).tmod (r.n:Int)).toNat))=true)=>?_
     have ef:false=lL r:=by
      unfold lL
      have hb:bad r i=true:=by
       unfold bad
       rw [(bK (f:=fun j=>bad1 r i (i+2+j))).2 ⟨j,hjk',e1.trans hc⟩,Bool.or_true]
      rw [bK.2 ⟨i,hil,hb⟩]
      rfl
     repeat' (first|exact ef|apply And.intro|exact trivial|exact rfl|exact fun (j:Nat) (hj:j < _)=>Or.inl (aL _ _ _ _))
    ·refine fun (hc:decide (0 < crV (r.p i) (r.p (((i:Int)+1).tmod (r.n:Int)).toNat) (r.p ((i:Int)+2+(j:Int)).toNat) (r.p (((i:Int)+2+(j:Int)+1).tmod (r.n:Int)).toNat))=false)=>?_
     have hfj1:orB (fun j=>bad1 r i (i+2+j)) (j+1)=false:=by
      simp only [orB]
      rw [hfj,e1,hc]
      rfl
     have est:(i:Int)+2+(j:Int)+1=(i:Int)+2+((j+1:Nat):Int):=by omega
     repeat' (first|with_reducible exact d1|with_reducible exact d2|apply And.intro|exact trivial|exact rfl|exact fun (j:Nat) (hj:j < _)=>Or.inl (aL _ _ _ _))
     refine Exists.intro (j+1) ?_
     refine And.intro (And.intro (And.intro (by omega) hjk') hfj1) ?_
     repeat' (first|exact est|apply And.intro|exact trivial|exact rfl|exact fun (j:Nat) (hj:j < _)=>Or.inl (aL _ _ _ _))
     show r.n - (j+1) < r.n - j
     omega
   ·refine fun (h:decide ((i:Int)+2+(j:Int) < min (r.n:Int) ((i:Int)+(r.n:Int) - 1))=false)=>?_
    have hlt:¬ (i:Int)+2+(j:Int) < min (r.n:Int) ((i:Int)+(r.n:Int) - 1):=of_decide_eq_false h
    have ej:j=mM r i:=by
     have:=hjk
     unfold mM at this ⊢
     omega
    have hfi:orB (bad r) (i+1)=false:=by
     simp only [orB]
     rw [hf]
     unfold bad
     rw [e0,hc,<- ej,hfj]
     rfl
    repeat' (first|with_reducible exact b1|with_reducible exact b2|apply And.intro|exact trivial|exact rfl|exact fun (j:Nat) (hj:j < _)=>Or.inl (aL _ _ _ _))
    refine Exists.intro (i+1) ?_
    refine And.intro (And.intro hil hfi) ?_
    repeat' (first|apply And.intro|exact trivial|exact rfl|exact fun (j:Nat) (hj:j < _)=>Or.inl (aL _ _ _ _))
    show r.n - (i+1) < r.n - i
    omega
  ·refine fun (hc:decide (kK (r.p i) (r.p (((i:Int)+1).tmod (r.n:Int)).toNat) (r.p (((i:Int)+2).tmod (r.n:Int)).toNat)=0)=true)=>?_
   have ef:false=lL r:=by
    unfold lL
    have hb:bad r i=true:=by unfold bad; rw [e0,hc]; rfl
    rw [bK.2 ⟨i,hil,hb⟩]
    rfl
   repeat' (first|exact ef|apply And.intro|exact trivial|exact rfl|exact fun (j:Nat) (hj:j < _)=>Or.inl (aL _ _ _ _))
  ·refine fun (hc:decide (kK (r.p i) (r.p (((i:Int)+1).tmod (r.n:Int)).toNat) (r.p (((i:Int)+2).tmod (r.n:Int)).toNat)=0)=false)=>?_
   have hst:(i:Int)+2=(i:Int)+2+((0:Nat):Int):=by omega
   repeat' (first|with_reducible exact b3|with_reducible exact b4|apply And.intro|exact trivial|exact rfl|exact fun (j:Nat) (hj:j < _)=>Or.inl (aL _ _ _ _))
   refine ⟨⟨Nat,fun j=>(j<=r.n/\j<=mM r i)/\orB (fun j=>bad1 r i (i+2+j)) j=false,fun j=>[(7,.int .i64 ((i:Int)+2+(j:Int)))],fun _=>[],fun j=>r.n - j⟩,0,⟨⟨Nat.zero_le _,Nat.zero_le _⟩,rfl⟩,?_,?_⟩
   ·repeat' (first|exact hst|apply And.intro|exact trivial|exact rfl|exact fun (j:Nat) (hj:j < _)=>Or.inl (aL _ _ _ _))
   rintro (j:Nat) ⟨⟨(hj:j<=r.n),(hjk:j<=mM r i)⟩,(hfj:orB (fun j=>bad1 r i (i+2+j)) j=false)⟩
   repeat' (first|with_reducible exact b5|with_reducible exact b6|with_reducible exact b7|with_reducible exact b8|apply And.intro|exact trivial|exact rfl|exact fun (j:Nat) (hj:j < _)=>Or.inl (aL _ _ _ _))
   ·refine fun (h:decide ((i:Int)+2+(j:Int) < min (r.n:Int) ((i:Int)+(r.n:Int) - 1))=true)=>?_
    have hlt:(i:Int)+2+(j:Int) < min (r.n:Int) ((i:Int)+(r.n:Int) - 1):=of_decide_eq_true h
    have hk1:0<=(i:Int)+2+(j:Int):=by omega
    have hk2:(i:Int)+2+(j:Int) < (r.n:Int):=by omega
    have hkt:((i:Int)+2+(j:Int)).toNat=i+2+j:=by omega
    have hkn:i+2+j < r.n:=by omega
    have hjk':j < mM r i:=by unfold mM; omega
    have d1:-9223372036854775808<=(i:Int)+2+(j:Int)+1:=by omega
    have d2:(i:Int)+2+(j:Int)+1<=9223372036854775807:=by omega
    have km:((i:Int)+2+(j:Int)+1).tmod (r.n:Int)=(((i+2+j+1) % r.n:Nat):Int):=by
     have:=rR (i:=i+2+j) (n:=r.n) (by omega)
     rw [<- this]
     congr 1
    have kq:r.p (((i:Int)+2+(j:Int)+1).tmod (r.n:Int)).toNat=nxt r (i+2+j):=by rw [km]; rfl
    have km1:0<=((i:Int)+2+(j:Int)+1).tmod (r.n:Int):=by rw [km]; omega
    have km2:((i:Int)+2+(j:Int)+1).tmod (r.n:Int) < (r.n:Int):=by rw [km]; have:=Nat.mod_lt (i+2+j+1) (show 0 < r.n by omega); omega
    have h3:onB (r.p ((i:Int)+2+(j:Int)).toNat)=true:=by rw [hkt]; exact hr _ hkn
    have h4:onB (r.p (((i:Int)+2+(j:Int)+1).tmod (r.n:Int)).toNat)=true:=by rw [kq]; exact tM hr hkn
    have e1:bad1 r i (i+2+j)=decide (0 < crV (r.p i) (r.p (((i:Int)+1).tmod (r.n:Int)).toNat) (r.p ((i:Int)+2+(j:Int)).toNat) (r.p (((i:Int)+2+(j:Int)+1).tmod (r.n:Int)).toNat)):=by rw [hq,kq,hkt]; rfl
    repeat' (first|with_reducible exact hk1|with_reducible exact hk2|with_reducible exact d1|with_reducible exact d2|with_reducible exact hnz|exact km1|exact km2|exact h1|exact h2|exact h3|exact h4|apply And.intro|exact trivial|exact rfl|exact fun (j:Nat) (hj:j < _)=>Or.inl (aL _ _ _ _))
    ·refine fun (hc:decide (0 < crV (r.p i) (r.p (((i:Int)+1).tmod (r.n:Int)).toNat) (r.p ((i:Int)+2+(j:Int)).toNat) (r.p (((i:Int)+2+(j:Int)+1).tmod (r.n:Int)).toNat))=true)=>?_
     have ef:false=lL r:=by
      unfold lL
      have hb:bad r i=true:=by
       unfold bad
       rw [(bK (f:=fun j=>bad1 r i (i+2+j))).2 ⟨j,hjk',e1.trans hc⟩,Bool.or_true]
      rw [bK.2 ⟨i,hil,hb⟩]
      rfl
     repeat' (first|exact ef|apply And.intro|exact trivial|exact rfl|exact fun (j:Nat) (hj:j < _)=>Or.inl (aL _ _ _ _))
    ·refine fun (hc:decide (0 < crV (r.p i) (r.p (((i:Int)+1).tmod (r.n:Int)).toNat) (r.p ((i:Int)+2+(j:Int)).toNat) (r.p (((i:Int)+2+(j:Int)+1).tmod (r.n:Int)).toNat))=false)=>?_
     have hfj1:orB (fun j=>bad1 r i (i+2+j)) (j+1)=false:=by
      simp only [orB]
      rw [hfj,e1,hc]
      rfl
     have est:(i:Int)+2+(j:Int)+1=(i:Int)+2+((j+1:Nat):Int):=by omega
     repeat' (first|with_reducible exact d1|with_reducible exact d2|apply And.intro|exact trivial|exact rfl|exact fun (j:Nat) (hj:j < _)=>Or.inl (aL _ _ _ _))
     refine Exists.intro (j+1) ?_
     refine And.intro (And.intro (And.intro (by omega) hjk') hfj1) ?_
     repeat' (first|exact est|apply And.intro|exact trivial|exact rfl|exact fun (j:Nat) (hj:j < _)=>Or.inl (aL _ _ _ _))
     show r.n - (j+1) < r.n - j
     omega
   ·refine fun (h:decide ((i:Int)+2+(j:Int) < min (r.n:Int) ((i:Int)+(r.n:Int) - 1))=false)=>?_
    have hlt:¬ (i:Int)+2+(j:Int) < min (r.n:Int) ((i:Int)+(r.n:Int) - 1):=of_decide_eq_false h
    have ej:j=mM r i:=by
     have:=hjk
     unfold mM at this ⊢
     omega
    have hfi:orB (bad r) (i+1)=false:=by
     simp only [orB]
     rw [hf]
     unfold bad
     rw [e0,hc,<- ej,hfj]
     rfl
    repeat' (first|with_reducible exact b1|with_reducible exact b2|apply And.intro|exact trivial|exact rfl|exact fun (j:Nat) (hj:j < _)=>Or.inl (aL _ _ _ _))
    refine Exists.intro (i+1) ?_
    refine And.intro (And.intro hil hfi) ?_
    repeat' (first|apply And.intro|exact trivial|exact rfl|exact fun (j:Nat) (hj:j < _)=>Or.inl (aL _ _ _ _))
    show r.n - (i+1) < r.n - i
    omega
 ·refine fun (h:decide ((i:Int) < (r.n:Int))=false)=>?_
  have hi1:¬ (i:Int) < (r.n:Int):=of_decide_eq_false h
  have e:i=r.n:=by omega
  have ef:true=lL r:=by
   unfold lL
   rw [<- e,hf]
   rfl
  repeat' (first|exact ef|apply And.intro|exact trivial|exact rfl|exact fun (j:Nat) (hj:j < _)=>Or.inl (aL _ _ _ _))
end G6
end
section
open Go Go.Eng Go.Proofs G1 G2 G3 G4 G6
set_option maxRecDepth 100000
namespace G7
def bS (f:Nat->Bool):Nat->Int
 | 0=>-1
 | n+1=>if 0<=bS f n then bS f n else if f n=true then (n:Int) else -1
theorem dA {f:Nat->Bool}:∀ {n:Nat},orB f n=false->bS f n=-1:=by
 intro n
 induction n with
 | zero=>intro _; rfl
 | succ n ih =>
  intro h
  simp only [orB,Bool.or_eq_false_iff] at h
  have h1:=ih h.1
  simp only [bS]
  rw [h1,if_neg (by omega),if_neg (by rw [h.2]; decide)]
theorem gJ {f:Nat->Bool} {i:Nat} (h:orB f i=false) (hi:f i=true):∀ {n:Nat},i < n->bS f n=(i:Int):=by
 intro n
 induction n with
 | zero=>intro h; omega
 | succ n ih =>
  intro hn
  simp only [bS]
  by_cases e:i=n
  ·subst e
   rw [dA h,if_neg (by omega),if_pos hi]
  ·have h1:=ih (by omega)
   rw [h1,if_pos (by omega)]
theorem kA {f:Nat->Bool} {n:Nat}:decide (0<=bS f n)=orB f n:=by
 cases h:orB f n with
 | false=>rw [dA h]; rfl
 | true =>
  rw [decide_eq_true_eq]
  induction n with
  | zero=>cases h
  | succ n ih =>
   simp only [bS]
   split
   ·assumption
   ·rename_i hn
    simp only [orB,Bool.or_eq_true] at h
    rcases h with h|h
    ·exact absurd (ih h) hn
    ·rw [if_pos h]; omega
theorem I1 {f:Nat->Bool}:∀ {n:Nat},-1<=bS f n/\bS f n<=n:=by
 intro n
 induction n with
 | zero=>simp [bS]
 | succ n ih =>
  simp only [bS]
  split
  ·omega
  ·split <;> omega
def lV (r:Pts) (i:Nat):Bool:=!onB (r.p i)
def Jf:Eng.Spec where
 X:=Pts
 args:=fun r=>.cons (rgE r) (.cons (.fn 125 .nil) .nil)
 pre:=fun r=>r.n<=50
 res:=fun r=>.int .i64 (bS (lV r) r.n)
 inst:=fun
  | .cons a (.cons _ .nil)=>tT a
  | _=>none
def g159:List Nat:=[7,9,1,0,16,5,8,4]
def c159:aD :=
 .seq (.region g159 [(zo 4 (.move (.c (.int .i64 0))))]) (.seq (.seq (.region g159 [(zo 6 (.move (.s 0))),(zo 7 (.lenSl (.s 6))),(zo 8 (.move (.c (.int .i64 0))))]) (.block 0 (.loop 0 [9,10,5,11,12,13,14,15,16,17,4,18,8] (.seq (.region g159 [(zo 9 (.bin (.lss) (.s 8) (.s 7)))]) (.seq (.cond (.s 9) .skip (.exit 0)) (.seq (.block 1 (.seq (.region g159 [(zo 10 (.move (.s 8))),(zo 5 (.move (.s 10)))]) (.seq (.region g159 [(zo 11 (.move (.s 1))),(zo 12 (.move (.s 0))),(zo 13 (.move (.s 5))),(zo 14 (.idxSl 2 (.s 12) (.s 13))),(zo 15 (.load 2 true (.s 14))),(zo 16 (.call (.s 11) [.s 15]))]) (.cond (.s 16) (.seq (.region g159 [(zo 17 (.move (.s 5))),(zo 4 (.move (.s 17)))]) .ret) .skip)))) (.region g159 [(zo 18 (.bin (.add) (.s 8) (.c (.int .i64 1)))),(zo 8 (.move (.s 18)))]))))))) (.seq (.region g159 [(zo 4 (.move (.c (.int .i64 (-1)))))]) .ret))
def r159:List aR:=[.slot 4]
def k159:List (Nat×Nat×aD×Nat):=[]
theorem e159:aK Tryz.prog 159 g159 [] [] k159=some (c159,r159,19):=by kernel_rfl
theorem q159:aF Tryz.prog k159:=aF.nil
theorem Gc:Jf.Ok Tryz.prog 159:=by
 refine Eng.Spec.dG e159 q159 (fun _=>[(125,.p Vd)]) (fun _ _=>aA.p R4 aA.nil) ?_
 rintro r hn
 replace hn:r.n<=50:=hn
 refine ⟨trivial,?_⟩
 repeat' (first|apply And.intro|exact trivial|exact rfl|exact fun (j:Nat) (hj:j < _)=>Or.inl (aL _ _ _ _))
 refine ⟨⟨Nat,fun i=>i<=r.n/\orB (lV r) i=false,fun i=>[(8,.int .i64 (i:Int))],fun _=>[],fun i=>r.n - i⟩,0,⟨Nat.zero_le _,rfl⟩,?_,?_⟩
 ·repeat' (first|apply And.intro|exact trivial|exact rfl|exact fun (j:Nat) (hj:j < _)=>Or.inl (aL _ _ _ _))
 rintro (i:Nat) ⟨(hi:i<=r.n),(hf:orB (lV r) i=false)⟩
 repeat' (first|apply And.intro|exact trivial|exact rfl|exact fun (j:Nat) (hj:j < _)=>Or.inl (aL _ _ _ _))
 ·refine fun (h:decide ((i:Int) < (r.n:Int))=true)=>?_
  have hi1:(i:Int) < (r.n:Int):=of_decide_eq_true h
  have hil:i < r.n:=by omega
  have hi0:(0:Int)<=(i:Int):=by omega
  have b1:-9223372036854775808<=(i:Int)+1:=by omega
  have b2:(i:Int)+1<=9223372036854775807:=by omega
  repeat' (first|with_reducible exact hi1|with_reducible exact hi0|apply And.intro|exact trivial|exact rfl|exact fun (j:Nat) (hj:j < _)=>Or.inl (aL _ _ _ _))
  ·refine fun (hc:(!onB (r.p i))=true)=>?_
   have e:(i:Int)=bS (lV r) r.n:=(gJ hf hc hil).symm
   repeat' (first|exact e|apply And.intro|exact trivial|exact rfl|exact fun (j:Nat) (hj:j < _)=>Or.inl (aL _ _ _ _))
  ·refine fun (hc:(!onB (r.p i))=false)=>?_
   have hf1:orB (lV r) (i+1)=false:=by
    simp only [orB]
    rw [hf]
    exact hc
   repeat' (first|with_reducible exact b1|with_reducible exact b2|apply And.intro|exact trivial|exact rfl|exact fun (j:Nat) (hj:j < _)=>Or.inl (aL _ _ _ _))
   refine Exists.intro (i+1) ?_
   refine And.intro (And.intro hil hf1) ?_
   repeat' (first|apply And.intro|exact trivial|exact rfl|exact fun (j:Nat) (hj:j < _)=>Or.inl (aL _ _ _ _))
   show r.n - (i+1) < r.n - i
   omega
 ·refine fun (h:decide ((i:Int) < (r.n:Int))=false)=>?_
  have hi1:¬ (i:Int) < (r.n:Int):=of_decide_eq_false h
  have e:i=r.n:=by omega
  have ef:-1=bS (lV r) r.n:=by rw [<- e,dA hf]
  repeat' (first|exact ef|apply And.intro|exact trivial|exact rfl|exact fun (j:Nat) (hj:j < _)=>Or.inl (aL _ _ _ _))
def Jc:Eng.Spec where
 X:=Pts
 args:=fun r=>.cons (rgE r) (.cons (.fn 125 .nil) .nil)
 pre:=fun r=>r.n<=50
 res:=fun r=>.bool (orB (lV r) r.n)
 inst:=fun
  | .cons a (.cons _ .nil)=>tT a
  | _=>none
def g124:List Nat:=[0,1,4]
def c124:aD :=
 .seq (.region g124 [(zo 4 (.move (.c (.bool false))))]) (.seq (.region g124 [(zo 5 (.move (.s 0))),(zo 6 (.move (.s 1))),(zo 7 (.call (.c (.fn 159)) [.s 5,.s 6])),(zo 8 (.bin (.geq) (.s 7) (.c (.int .i64 0)))),(zo 4 (.move (.s 8)))]) .ret)
def r124:List aR:=[.slot 4]
def k124:List (Nat×Nat×aD×Nat):=[]
theorem e124:aK Tryz.prog 124 g124 [] [] k124=some (c124,r124,9):=by kernel_rfl
theorem q124:aF Tryz.prog k124:=aF.nil
theorem Gb:Jc.Ok Tryz.prog 124:=by
 refine Eng.Spec.dG e124 q124 (fun _=>[(159,.p Jf)]) (fun _ _=>aA.p Gc aA.nil) ?_
 rintro r hn
 replace hn:r.n<=50:=hn
 have e:=kA (f:=lV r) (n:=r.n)
 refine ⟨trivial,?_⟩
 repeat' (first|exact hn|exact e|apply And.intro|exact trivial|exact rfl|exact fun (j:Nat) (hj:j < _)=>Or.inl (aL _ _ _ _))
def Ba (r:Pts):Bool:=(((decide (3<=(r.n:Int)) && decide ((r.n:Int)<=40)) && !orB (lV r) r.n) && decide (0 < twV r)) && lL r
def Valid:Eng.Spec where
 X:=Pts
 args:=fun r=>.cons (rgE r) .nil
 pre:=fun r=>(r.n:Int)<=9223372036854775806
 res:=fun r=>.bool (Ba r)
 inst:=fun
  | .cons a .nil=>tT a
  | _=>none
def g86:List Nat:=[0,3,2]
def c86:aD :=
 .seq (.region g86 [(zo 2 (.move (.c (.bool false))))]) (.seq (.region g86 [(zo 4 (.move (.s 0))),(zo 3 (.move (.s 4)))]) (.seq (.region g86 [(zo 5 (.move (.s 3))),(zo 6 (.lenSl (.s 5))),(zo 7 (.bin (.geq) (.s 6) (.c (.int .i64 3)))),(zo 8 (.move (.s 7))),(zg 9 8 true (.move (.s 3))),(zg 10 8 true (.lenSl (.s 9))),(zg 11 8 true (.bin (.leq) (.s 10) (.c (.int .i64 40)))),(zo 12 (.pick (.s 8) (.s 11) (.c (.bool false)))),(zo 13 (.move (.s 12))),(zg 14 13 true (.move (.s 3))),(zg 15 13 true (.call (.c (.fn 124)) [.s 14,.c (.fn 125)])),(zg 16 13 true (.not (.s 15))),(zo 17 (.pick (.s 13) (.s 16) (.c (.bool false)))),(zo 18 (.move (.s 17))),(zg 19 18 true (.move (.s 3))),(zg 20 18 true (.call (.c (.fn 126)) [.s 19])),(zg 21 18 true (.bin (.gtr) (.s 20) (.c (.int .i64 0)))),(zo 22 (.pick (.s 18) (.s 21) (.c (.bool false)))),(zo 23 (.move (.s 22))),(zg 24 23 true (.move (.s 3))),(zg 25 23 true (.call (.c (.fn 127)) [.s 24])),(zo 26 (.pick (.s 23) (.s 25) (.c (.bool false)))),(zo 2 (.move (.s 26)))]) .ret))
def r86:List aR:=[.slot 2]
def k86:List (Nat×Nat×aD×Nat):=[]
theorem e86:aK Tryz.prog 86 g86 [] [] k86=some (c86,r86,27):=by kernel_rfl
theorem q86:aF Tryz.prog k86:=aF.nil
theorem Da {r:Pts} (h:orB (lV r) r.n=false):OnR r:=fun i hi=>by
 have:=bE.1 h i hi
 unfold lV at this
 simpa using this
theorem yU:Valid.Ok Tryz.prog 86:=by
 refine Eng.Spec.dG e86 q86 (fun _=>[(124,.p Jc),(126,.p twice),(127,.p simple)]) (fun _ _=>aA.p Gb (aA.p La (aA.p G0 aA.nil))) ?_
 rintro r hn
 replace hn:(r.n:Int)<=9223372036854775806:=hn
 refine ⟨trivial,?_⟩
 repeat' (first|apply And.intro|exact trivial|exact rfl|exact fun (j:Nat) (hj:j < _)=>Or.inl (aL _ _ _ _))
 ·refine fun (h:aG (decide (3<=(r.n:Int))) _ _ (decide ((r.n:Int)<=40)) _=true)=>?_
  rw [aJ] at h
  simp only [Bool.and_eq_true,decide_eq_true_eq] at h
  have h50:r.n<=50:=by omega
  repeat' (first|exact h50|apply And.intro|exact trivial|exact rfl|exact fun (j:Nat) (hj:j < _)=>Or.inl (aL _ _ _ _))
 ·refine fun (h:aG (aG (decide (3<=(r.n:Int))) _ _ (decide ((r.n:Int)<=40)) _) _ _ (!orB (lV r) r.n) _=true)=>?_
  rw [aJ,aJ] at h
  simp only [Bool.and_eq_true,decide_eq_true_eq] at h
  have h50:r.n<=50:=by omega
  have hon:OnR r:=Da (E2 h.2)
  repeat' (first|exact h50|exact hon|apply And.intro|exact trivial|exact rfl|exact fun (j:Nat) (hj:j < _)=>Or.inl (aL _ _ _ _))
 ·refine fun (h:aG (aG (aG (decide (3<=(r.n:Int))) _ _ (decide ((r.n:Int)<=40)) _) _ _ (!orB (lV r) r.n) _) _ _ (decide (0 < twV r)) _=true)=>?_
  rw [aJ,aJ,aJ] at h
  simp only [Bool.and_eq_true,decide_eq_true_eq] at h
  have h50:r.n<=50:=by omega
  have hon:OnR r:=Da (E2 h.1.2)
  repeat' (first|exact h50|exact hon|apply And.intro|exact trivial|exact rfl|exact fun (j:Nat) (hj:j < _)=>Or.inl (aL _ _ _ _))
theorem qK {r:Pts} (h:Ba r=true):(r.n<=50/\OnR r)/\(3<=r.n/\r.n<=40)/\0 < twV r/\lL r=true:=by
 unfold Ba at h
 simp only [Bool.and_eq_true,decide_eq_true_eq] at h
 exact ⟨⟨by omega,Da (E2 h.1.1.2)⟩,by omega,h.1.2,h.2⟩
end G7
end
section
open Go Go.Eng Go.Proofs G1 G3
namespace EV0
abbrev B:=List UInt8
structure Sq (T:Type) where
 n:Nat
 f:Nat->T
def Sq.list {T:Type} (s:Sq T):List T:=(List.range s.n).map s.f
structure Hn where
 n:Int
 l:B
 num:Int
 den:Int
structure Nm where
 lang:B
 script:Int
 text:B
structure En where
 id:B
 num:Hn
 pt:Pt
structure Ev where
 kind:Int
 day:Int
 a:Int
 b:Int
 off:Int
 id:B
 oth:B
 txt:B
 ids:Sq B
 names:Sq Nm
 num:Hn
 pt:Pt
 path:Pts
 list:Sq En
def hnC (h:Hn) (t:SV):SV:=.cons (.int .i64 h.n) (.cons (.str h.l) (.cons (.int .i64 h.num) (.cons (.int .i64 h.den) t)))
def hnL (h:Hn):SV:=hnC h .nil
def nmL (x:Nm):SV:=.cons (.str x.lang) (.cons (.int .i64 x.script) (.cons (.str x.text) .nil))
def enL (x:En):SV:=.cons (.str x.id) (hnC x.num (ptL x.pt))
def stL (s:B):SV:=.cons (.str s) .nil
def stE (s:Sq B):SV:=.slice 1 s.n fun i=>stL (s.f i)
def nmE (s:Sq Nm):SV:=.slice 3 s.n fun i=>nmL (s.f i)
def enE (s:Sq En):SV:=.slice 7 s.n fun i=>enL (s.f i)
def hnE (s:Sq Hn):SV:=.slice 4 s.n fun i=>hnL (s.f i)
def evL (e:Ev):SV:=.cons (.int .i64 e.kind) (.cons (.int .i64 e.day) (.cons (.int .i64 e.a) (.cons (.int .i64 e.b) (.cons (.int .i64 e.off)
 (.cons (.str e.id) (.cons (.str e.oth) (.cons (.str e.txt) (.cons (stE e.ids) (.cons (nmE e.names) (hnC e.num (.cons (.int .i64 e.pt.1) (.cons (.int .i64 e.pt.2) (.cons (rgE e.path) (.cons (enE e.list) .nil))))))))))))))
def evE (e:Ev):SV:=.agg (evL e)
def gV:SV->B
 | .str s=>s
 | _=>[]
def sqD {T:Type} (g:SV->T) (s:SV):Option (Sq T):=match asSlice s with
 | some (_,n,enc)=>some ⟨n,fun i=>g (enc i)⟩
 | none=>none
def stD (s:SV):Option (Sq B):=sqD (fun c=>gV (bI c 0)) s
def hnA (c:SV) (k:Nat):Hn:=⟨eZ (bI c k),gV (bI c (k+1)),eZ (bI c (k+2)),eZ (bI c (k+3))⟩
def nmD (s:SV):Option (Sq Nm):=sqD (fun c=>⟨gV (bI c 0),eZ (bI c 1),gV (bI c 2)⟩) s
def enD (s:SV):Option (Sq En):=sqD (fun c=>⟨gV (bI c 0),hnA c 1,(eZ (bI c 5),eZ (bI c 6))⟩) s
def Wj (s:SV):Option (Sq Hn):=sqD (fun c=>hnA c 0) s
def hnD:SV->Option Hn
 | .agg c=>some (hnA c 0)
 | _=>none
def evD:SV->Option Ev
 | .agg c=>match stD (bI c 8),nmD (bI c 9),tT (bI c 16),enD (bI c 17) with
  | some i,some n,some p,some l=>some ⟨eZ (bI c 0),eZ (bI c 1),eZ (bI c 2),eZ (bI c 3),eZ (bI c 4),gV (bI c 5),gV (bI c 6),gV (bI c 7),i,n,hnA c 10,(eZ (bI c 14),eZ (bI c 15)),p,l⟩
  | _,_,_,_=>none
 | _=>none
theorem fD (k:Keep) (hp:List (Nat×aE)) (m:Nat) (x:B):sub k hp (m+3) (stL x) (stL x):=⟨rfl,trivial⟩
theorem yO (k:Keep) (hp:List (Nat×aE)) (m:Nat) (x:Nm):sub k hp (m+5) (nmL x) (nmL x):=⟨rfl,⟨rfl,rfl⟩,rfl,trivial⟩
theorem jX (k:Keep) (hp:List (Nat×aE)) (m:Nat) (x:Hn):sub k hp (m+6) (hnL x) (hnL x):=⟨⟨rfl,rfl⟩,rfl,⟨rfl,rfl⟩,⟨rfl,rfl⟩,trivial⟩
theorem yM (k:Keep) (hp:List (Nat×aE)) (m:Nat) (x:En):sub k hp (m+9) (enL x) (enL x):=⟨rfl,⟨rfl,rfl⟩,rfl,⟨rfl,rfl⟩,⟨rfl,rfl⟩,⟨rfl,rfl⟩,⟨rfl,rfl⟩,trivial⟩
def one {T:Type} (f:SV->Option T):SV->Option T
 | .cons a .nil=>f a
 | _=>none
def two {S T:Type} (f:SV->Option S) (g:SV->Option T):SV->Option (S×T)
 | .cons a (.cons b .nil)=>match f a,g b with
  | some x,some y=>some (x,y)
  | _,_=>none
 | _=>none
def yK:SV->Option B
 | .str s=>some s
 | _=>none
def M4:SV->Option Int
 | .int _ n=>some n
 | _=>none
def Ow:SV->Option Bool
 | .bool b=>some b
 | _=>none
def okT (s:B):Prop:=s.length<=1000000
def okS {T:Type} (s:Sq T) (p:T->Prop):Prop:=s.n<=1000000/\∀ i,i < s.n->p (s.f i)
def okN (x:Nm):Prop:=okT x.lang/\okT x.text
def okH (x:Hn):Prop:=okT x.l
def okE (x:En):Prop:=okT x.id/\okH x.num
structure okV (e:Ev):Prop where
 id:okT e.id
 oth:okT e.oth
 txt:okT e.txt
 ids:okS e.ids okT
 names:okS e.names okN
 num:okH e.num
 path:e.path.n<=1000000
 list:e.list.n<=900000/\∀ i,i < e.list.n->okE (e.list.f i)
end EV0
end
