/- A part of the proof. -/
import Derived.Test.YtlfdokecdilkcaaGreatDoorSP
import Derived.Lib.AtoiTie
import Derived.Lib.ItoaMem
import Derived.Lib.Join
import Derived.Test.YtlfdokecdilkcaaGreatDoorF18
import Derived.Test.YtlfdokecdilkcaaGreatDoorF13
import Derived.Test.YtlfdokecdilkcaaGreatDoorRT3
import Derived.Test.YtlfdokecdilkcaaGreatDoorF25
section
namespace RT1
open Go
abbrev B:=List UInt8
theorem sJ (u:Nat) (h:¬ u < 10):Lib.decDigits u=Lib.decDigits (u / 10)++[UInt8.ofNat (48+u % 10)]:=by
 rw [Lib.decDigits,dif_neg h]
theorem wM {d:Nat} (h:d < 10):(UInt8.ofNat (48+d)).toNat=48+d:=by
 rw [UInt8.toNat_ofNat']
 omega
theorem wL (u:Nat):∀ b∈Lib.decDigits u,48<=b.toNat/\b.toNat<=57:=by
 induction u using Nat.strongRecOn with
 | _ u ih =>
  intro b hb
  by_cases h:u < 10
  ·rw [Lib.decDigits_one h,List.mem_singleton] at hb
   rw [hb,wM h]; omega
  ·rw [sJ u h,List.mem_append,List.mem_singleton] at hb
   rcases hb with hb|hb
   ·exact ih (u / 10) (by omega) b hb
   ·rw [hb,wM (Nat.mod_lt _ (by omega))]; omega
theorem Bw (u:Nat):Lib.decDigits u≠[]:=by
 by_cases h:u < 10
 ·rw [Lib.decDigits_one h]; simp
 ·rw [sJ u h]; simp
theorem sI (l:B) (b:UInt8):∀ acc,Lib.decFrom acc (l++[b])=(Lib.decFrom acc l).bind fun n=>(Lib.digitVal b).map fun d=>n * 10+d:=by
 induction l with
 | nil =>
  intro acc
  simp only [List.nil_append,Lib.decFrom,Option.bind_some]
  cases Lib.digitVal b <;> rfl
 | cons c r ih =>
  intro acc
  simp only [List.cons_append,Lib.decFrom]
  cases Lib.digitVal c with
  | none=>rfl
  | some d=>exact ih _
theorem oF {d:Nat} (h:d < 10):Lib.digitVal (UInt8.ofNat (48+d))=some d:=by
 unfold Lib.digitVal
 rw [wM h,if_pos (by omega)]
 congr 1
 omega
theorem zA (u:Nat):Lib.decFrom 0 (Lib.decDigits u)=some u:=by
 induction u using Nat.strongRecOn with
 | _ u ih =>
  by_cases h:u < 10
  ·rw [Lib.decDigits_one h]
   simp only [Lib.decFrom,oF h,Nat.zero_mul,Nat.zero_add]
  ·rw [sJ u h,sI,ih (u / 10) (by omega),oF (Nat.mod_lt _ (by omega))]
   simp only [Option.bind_some,Option.map_some]
   congr 1
   omega
theorem Bv (u:Nat):Lib.decNat (Lib.decDigits u)=some u:=by
 unfold Lib.decNat
 rw [if_neg (by rw [List.isEmpty_iff]; exact Bw u)]
 exact zA u
theorem Mf {u:Nat} (h:u < 10 ^ 17):(Lib.decDigits u).length<=18:=by
 rw [Lib.decDigits_length]
 apply Classical.byContradiction
 intro hn
 have:∀ (k v:Nat),k < Lib.nDigits v->10 ^ k<=v\/k=0:=by
  intro k
  induction k with
  | zero=>intro v _; exact .inr rfl
  | succ k ih =>
   intro v hv
   left
   by_cases h10:v < 10
   ·rw [Lib.nDigits_small h10] at hv; omega
   ·rw [Lib.nDigits_big h10] at hv
    rw [Nat.pow_succ]
    rcases ih (v / 10) (by omega) with h|rfl
    ·omega
    ·omega
 rcases this 17 u (by omega) with h'|h'
 ·omega
 ·omega
theorem oS (u:Nat):Lib.itoa (u:Int)=Lib.decDigits u:=Lib.itoa_nonneg u
theorem H7 {u:Nat} (h:u < 10 ^ 17):Lib.atoiAll (Lib.decDigits u)=.ok (u:Int):=by
 rw [Lib.atoiAll_short _ (Mf h)]
 have hm:=wL u
 have hd:=Bv u
 cases e:Lib.decDigits u with
 | nil=>exact absurd e (Bw u)
 | cons c r =>
  rw [e] at hm hd
  have:=hm c (by simp)
  unfold Lib.atoi
  have h45:(c == 45)=false:=by
   rw [beq_eq_false_iff_ne]; rintro rfl; exact absurd this (by decide)
  have h43:(c == 43)=false:=by
   rw [beq_eq_false_iff_ne]; rintro rfl; exact absurd this (by decide)
  simp only [h45,h43,hd]
  rfl
theorem Dq {c:UInt8}:∀ {a a' b b':B},c ∉ a->c ∉ a'->a++c::b=a'++c::b'->a=a'/\b=b':=by
 intro a
 induction a with
 | nil =>
  intro a' b b' _ h' e
  cases a' with
  | nil=>simp at e; exact ⟨rfl,e⟩
  | cons x a' =>
   simp only [List.nil_append,List.cons_append,List.cons.injEq] at e
   exact absurd (by rw [e.1]; simp) h'
 | cons x a ih =>
  intro a' b b' h h' e
  cases a' with
  | nil =>
   simp only [List.nil_append,List.cons_append,List.cons.injEq] at e
   exact absurd (by rw [<- e.1]; simp) h
  | cons y a' =>
   simp only [List.cons_append,List.cons.injEq] at e
   simp only [List.mem_cons,not_or] at h h'
   obtain ⟨r1,r2⟩:=ih h.2 h'.2 e.2
   exact ⟨by rw [e.1,r1],r2⟩
theorem oE {c:UInt8} {a b:B} (h:c ∉ a):Lib.cut (a++c::b) [c]=(a,b,true):=by
 rcases SP.idx1 c (a++c::b) with ⟨_,h2⟩|⟨a',b',h1,h2,h3⟩
 ·exact absurd (by simp) h2
 ·obtain ⟨rfl,rfl⟩:=Dq h h2 h1
  unfold Lib.cut
  rw [h3,if_pos (Int.natCast_nonneg _)]
  simp
theorem sH {c:UInt8} {a:B} (h:c ∉ a):Lib.cut a [c]=(a,[],false):=by
 rcases SP.idx1 c a with ⟨h1,_⟩|⟨a',b',h1,_,_⟩
 ·unfold Lib.cut
  rw [h1]
  rfl
 ·exact absurd (by rw [h1]; simp) h
theorem eJ {n:Int} (h:0<=n) {c:UInt8} (hc:c.toNat < 48\/57 < c.toNat):c ∉ Lib.itoa n:=by
 obtain ⟨u,rfl⟩:=Int.eq_ofNat_of_zero_le h
 rw [oS]
 intro hm
 have:=wL u c hm
 omega
theorem Er {n:Int} (h:0<=n):Lib.itoa n≠[]:=by
 obtain ⟨u,rfl⟩:=Int.eq_ofNat_of_zero_le h
 rw [oS]
 exact Bw u
end RT1
end
section
open Go Go.Eng Go.Proofs EV0 F16 F11
namespace RT2
inductive Wd:B->B->Prop
 | plain {w:B} (h1:w≠[]) (h2:(32:UInt8) ∉ w) (h3:(34:UInt8) ∉ w):Wd w w
 | quote {u:B} (h:(34:UInt8) ∉ u):Wd (kI u) u
theorem Pn {w u:B} (h:Wd w u):w≠[]:=by
 cases h with
 | plain h1 _ _=>exact h1
 | quote _=>unfold kI; simp
theorem Kf (u:B):kI u=34::(u++[34]):=by unfold kI; simp
theorem zT {b:UInt8} {l:B}:isQ (b::l)=decide (b=34):=by
 unfold isQ
 have e:(b::l).getD 0 0=b:=rfl
 rw [e,Bool.eq_iff_iff,decide_eq_true_iff,decide_eq_true_iff]
 constructor
 ·intro h
  refine UInt8.toNat_inj.1 ?_
  show b.toNat=34
  omega
 ·rintro rfl; rfl
theorem qJ (w:B) (r:List B):Lib.joinTail [32] (w::r)=32::Lib.join (w::r) [32]:=by
 rw [Lib.join_cons]
 unfold Lib.joinTail
 simp
theorem tail_nil:Lib.joinTail [32] []=[]:=rfl
theorem Dv (t:B):Lib.trimPrefix (32::t) [32]=t:=by
 unfold Lib.trimPrefix Lib.hasPrefix
 simp
theorem Dw:Lib.trimPrefix [] [32]=[]:=by
 unfold Lib.trimPrefix Lib.hasPrefix
 simp
theorem Hf {w u:B} (h:Wd w u) (r:List B):wrd (w++Lib.joinTail [32] r)=u/\rst (w++Lib.joinTail [32] r)=Lib.join r [32]:=by
 cases h with
 | plain h1 h2 h3 =>
  cases w with
  | nil=>exact absurd rfl h1
  | cons b l =>
   have hb:b≠34:=by rintro rfl; exact h3 (by simp)
   have hq:isQ (b::l++Lib.joinTail [32] r)=false:=by
    rw [List.cons_append,zT]; exact decide_eq_false hb
   unfold wrd rst tq stp
   rw [hq]
   simp only [Bool.false_eq_true,if_false]
   cases r with
   | nil =>
    rw [tail_nil,List.append_nil,RT1.sH h2]
    exact ⟨rfl,rfl⟩
   | cons x r =>
    rw [qJ,RT1.oE h2]
    exact ⟨rfl,rfl⟩
 | quote hu =>
  have hq:isQ (kI u++Lib.joinTail [32] r)=true:=by
   rw [Kf,List.cons_append,zT]; rfl
  have ed:(kI u++Lib.joinTail [32] r).drop 1=u++34::Lib.joinTail [32] r:=by
   rw [Kf]; simp
  unfold wrd rst tq stp
  rw [hq]
  simp only [if_true]
  rw [ed,RT1.oE hu]
  refine ⟨rfl,?_⟩
  show Lib.trimPrefix (Lib.joinTail [32] r) [32]=_
  cases r with
  | nil=>rw [tail_nil,Dw]; rfl
  | cons x r=>rw [qJ,Dv]
inductive Wds:List B->List B->Prop
 | nil:Wds [] []
 | cons {w u:B} {ws us:List B} (h:Wd w u) (t:Wds ws us):Wds (w::ws) (u::us)
theorem Wds.append {a b c d:List B} (h:Wds a b) (k:Wds c d):Wds (a++c) (b++d):=by
 induction h with
 | nil=>exact k
 | cons h _ ih=>exact .cons h ih
theorem Wds.one {w u:B} (h:Wd w u):Wds [w] [u]:=.cons h .nil
theorem Wds.len {a b:List B} (h:Wds a b):a.length=b.length:=by
 induction h with
 | nil=>rfl
 | cons _ _ ih=>simp [ih]
theorem oT {ws us:List B} (h:Wds ws us):ws.length<=(Lib.join ws [32]).length:=by
 induction h with
 | nil=>exact Nat.zero_le _
 | @cons w u ws us h t ih =>
  have:=List.length_pos_iff.2 (Pn h)
  rw [Lib.join_cons,List.length_append,List.length_cons]
  cases ws with
  | nil=>simp; omega
  | cons x r =>
   rw [qJ]
   have e:(32::Lib.join (x::r) [32]).length=(Lib.join (x::r) [32]).length+1:=rfl
   omega
theorem J2 {ws us:List B} (h:Wds ws us):∀ {m:Nat},ws.length < m->pcs m (Lib.join ws [32])=us:=by
 induction h with
 | nil =>
  intro m hm
  cases m with
  | zero=>omega
  | succ m=>rw [lW]; rfl
 | @cons w u ws us h t ih =>
  intro m hm
  cases m with
  | zero=>omega
  | succ m =>
   have hne:Lib.join (w::ws) [32]≠[]:=by
    rw [Lib.join_cons]
    intro e
    exact Pn h (List.append_eq_nil_iff.1 e).1
   obtain ⟨e1,e2⟩:=Hf h ws
   rw [lW,if_neg hne,Lib.join_cons,e1,e2,ih (by simpa using hm)]
theorem Oa {ws us:List B} (h:Wds ws us):pwV (Lib.join ws [32])=us:=J2 h (Nat.lt_succ_of_le (oT h))
end RT2
end
section
open Go Go.Eng Go.Proofs G1 G2 G3 G4 G6 G7 EV0 N1 N2 F1 F2 F3 F4 F5 F6 F7 F8 F9 F10 F11 F12 F13 F16 F17 F18 RT2 RT3
namespace RT4
theorem sW {s:B} (h:L10.dF s=true):s≠[]/\(32:UInt8) ∉ s/\(34:UInt8) ∉ s:=by
 have hn:=eO h
 rw [L10.Nh] at h
 unfold L10.idB at h
 rw [Bool.and_eq_true] at h
 have ha:=List.all_eq_true.1 h.2
 exact ⟨hn,fun hm=>absurd (ha 32 hm) (by decide),fun hm=>absurd (ha 34 hm) (by decide)⟩
theorem qZ {s:B} (h:L10.dF s=true):Wd s s:=.plain (sW h).1 (sW h).2.1 (sW h).2.2
theorem jL {n:Int} (h:0<=n):Wd (Lib.itoa n) (Lib.itoa n):=.plain (RT1.Er h) (RT1.eJ h (.inl (by decide))) (RT1.eJ h (.inl (by decide)))
theorem yP {p:Pt} (h:onB p=true):Wd (dD p) (dD p):=by
 have hb:=iE.1 h
 have h1:0<=p.1:=by omega
 have h2:0<=p.2:=by omega
 have m:∀ c:UInt8,c.toNat < 44->c ∉ dD p:=by
  intro c hc hm
  unfold dD at hm
  rw [List.mem_append,List.mem_append,List.mem_singleton] at hm
  rcases hm with (hm|rfl)|hm
  ·exact RT1.eJ h1 (.inl (by omega)) hm
  ·exact absurd hc (by decide)
  ·exact RT1.eJ h2 (.inl (by omega)) hm
 refine .plain ?_ (m 32 (by decide)) (m 34 (by decide))
 unfold dD
 intro e
 rw [List.append_eq_nil_iff] at e
 exact RT1.Er h2 e.2
theorem Oz {s:B} {m:Int} (h:Fl s m=true):s≠[]/\(32:UInt8) ∉ s/\(34:UInt8) ∉ s:=by
 unfold Fl at h
 simp only [Bool.and_eq_true,Bool.not_eq_true',decide_eq_false_iff_not] at h
 have ha:=h.2
 rw [List.any_eq_false] at ha
 exact ⟨h.1.1,fun hm=>absurd (ha 32 hm) (by decide),fun hm=>absurd (ha 34 hm) (by decide)⟩
theorem V8 {s:B} (h:Lf s=true):s≠[]/\(32:UInt8) ∉ s/\(34:UInt8) ∉ s:=by
 unfold Lf at h
 simp only [Bool.and_eq_true,Bool.not_eq_true',decide_eq_false_iff_not] at h
 have ha:=h.2
 rw [List.any_eq_false] at ha
 exact ⟨h.1.1,fun hm=>absurd (ha 32 hm) (by decide),fun hm=>absurd (ha 34 hm) (by decide)⟩
theorem Uf {s:B} (h:Ck s=true):(34:UInt8) ∉ s:=by
 unfold Ck at h
 rw [Bool.and_eq_true,Bool.not_eq_true'] at h
 have ha:=bE.1 h.2
 intro hm
 rcases SP.Og 32 s 34 hm with e|⟨w,hw,hb⟩
 ·exact absurd e (by decide)
 ·obtain ⟨i,hi,e⟩:=List.mem_iff_getElem.1 hw
  have hi':i < (wsV s).n:=by
   show i < (Lib.split s [32]).length
   rw [SP.uA]; exact hi
  have:=ha i hi'
  have ef:(wsV s).f i=w:=by
   show (Lib.split s [32]).getD i []=w
   rw [SP.uA,List.getD_eq_getElem?_getD,List.getElem?_eq_getElem hi,e]
   rfl
  rw [ef] at this
  unfold oX at this
  rw [Bool.not_eq_false'] at this
  exact (Oz this).2.2 hb
theorem xI {l:B} (h:Cs l=true):∀ b∈l,97<=b.toNat/\b.toNat<=122:=by
 unfold Cs at h
 simp only [Bool.or_eq_true,Bool.and_eq_true,decide_eq_true_eq] at h
 rcases h with rfl|⟨⟨h1,h2⟩,h3⟩
 ·intro b hb; cases hb
 ·match l,h1 with
  | [c],_ =>
   intro b hb
   rw [List.mem_singleton] at hb
   subst hb
   have e:b0 [b]=(b.toNat:Int):=rfl
   rw [e] at h2 h3
   omega
theorem V6 {h:Hn} (hv:cE h=true):(34:UInt8) ∉ dI h:=by
 have hb:=uF hv
 unfold cE at hv
 simp only [Bool.and_eq_true,decide_eq_true_eq] at hv
 have hp:=J5 hv.2
 have h0:=RT1.eJ (n:=h.n) (by omega) (c:=34) (.inl (by decide))
 have h1:=RT1.eJ (n:=h.num) (by omega) (c:=34) (.inl (by decide))
 have h2:=RT1.eJ (n:=h.den) (by omega) (c:=34) (.inl (by decide))
 have h3:(34:UInt8) ∉ h.l:=fun hm=>absurd (xI hb.2 34 hm) (by decide)
 unfold dI
 split
 ·simp only [List.mem_append,List.mem_singleton]
  rintro ((h|h)|(((h|h)|h)|h))
  ·exact h0 h
  ·exact h3 h
  ·exact absurd h (by decide)
  ·exact h1 h
  ·exact absurd h (by decide)
  ·exact h2 h
 ·rw [List.mem_append]
  rintro (h|h)
  ·exact h0 h
  ·exact h3 h
theorem Dz {h:Hn} (hv:cE h=true):Wd (kV h) (dI h):=by
 unfold kV
 rw [if_pos hv]
 exact .quote (V6 hv)
theorem cN {n:Int} (h0:0<=n) (h1:n<=1000000000):aM (Lib.itoa n)=n:=by
 obtain ⟨u,rfl⟩:=Int.eq_ofNat_of_zero_le h0
 rw [RT1.oS]
 unfold aM
 rw [RT1.H7 (by omega)]
theorem qC {p:Pt} (h:onB p=true):ptP (dD p)=p:=by
 have hb:=iE.1 h
 have e:dD p=Lib.itoa p.1++44::Lib.itoa p.2:=by unfold dD; simp
 unfold ptP
 rw [e,RT1.oE (RT1.eJ (by omega) (.inl (by decide)))]
 show (aM (Lib.itoa p.1),aM (Lib.itoa p.2))=p
 rw [cN (by omega) (by omega),cN (by omega) (by omega)]
theorem Ol {d l:B} (hd:∀ b∈d,48<=b.toNat/\b.toNat<=57) (hl:∀ b∈l,97<=b.toNat/\b.toNat<=122):Lib.trimRightS (d++l) az=d:=by
 have ha:∀ b:UInt8,az.contains b=(decide (97<=b.toNat) && decide (b.toNat<=122)):=by
  intro b
  have e:(List.range 256).all (fun n=>az.contains (UInt8.ofNat n) == (decide (97<=(UInt8.ofNat n).toNat) && decide ((UInt8.ofNat n).toNat<=122)))=true:=by kernel_rfl
  have:=List.all_eq_true.1 e b.toNat (List.mem_range.2 b.toNat_lt)
  rw [UInt8.ofNat_toNat] at this
  exact eq_of_beq this
 unfold Lib.trimRightS
 rw [List.reverse_append,List.dropWhile_append]
 have e1:l.reverse.dropWhile (az.contains ·)=[]:=by
  have hr:∀ b∈l.reverse,97<=b.toNat/\b.toNat<=122:=fun b hb=>hl b (List.mem_reverse.1 hb)
  generalize l.reverse=r at hr
  induction r with
  | nil=>rfl
  | cons b r ih =>
   have h1:=hr b (by simp)
   rw [List.dropWhile_cons_of_pos (by rw [ha,Bool.and_eq_true,decide_eq_true_eq,decide_eq_true_eq]; exact h1)]
   exact ih fun x hx=>hr x (by simp [hx])
 rw [e1]
 simp only [List.isEmpty_nil,if_true]
 have e2:d.reverse.dropWhile (az.contains ·)=d.reverse:=by
  cases hr:d.reverse with
  | nil=>rfl
  | cons b r =>
   have:=hd b (by rw [<- List.mem_reverse,hr]; simp)
   rw [List.dropWhile_cons_of_neg]
   rw [ha]
   simp
   omega
 rw [e2,List.reverse_reverse]
theorem Ji {n:Int} (h:0<=n):∀ b∈Lib.itoa n,48<=b.toNat/\b.toNat<=57:=by
 obtain ⟨u,rfl⟩:=Int.eq_ofNat_of_zero_le h
 rw [RT1.oS]
 exact RT1.wL u
theorem Nz {a b:Int} (h:0<=plV a b) (hb:b<=0):a=0/\b=0:=by
 have e:=kA (f:=plB a b) (n:=28)
 unfold plV at h
 rw [show decide (0<=bS (plB a b) 28)=true from decide_eq_true h] at e
 obtain ⟨k,hk,hc⟩:=bK.1 e.symm
 unfold plB at hc
 simp only [Bool.and_true,Bool.and_eq_true,decide_eq_true_eq] at hc
 obtain ⟨rfl,rfl⟩:=hc
 have:∀ i:Nat,i < 28->N1.prt (2 * i+1)<=0->N1.prt (2 * i)=0/\N1.prt (2 * i+1)=0:=by decide
 exact this k hk hb
theorem P6 {h:Hn} (hv:cE h=true):cd (dI h)=h:=by
 have hb:=uF hv
 have hv':=hv
 unfold cE at hv
 simp only [Bool.and_eq_true,decide_eq_true_eq] at hv
 have hp:=J5 hv.2
 have n0:0<=h.n:=by omega
 have hm:(32:UInt8) ∉ Lib.itoa h.n++h.l:=by
  rw [List.mem_append]
  rintro (hm|hm)
  ·exact RT1.eJ n0 (.inl (by decide)) hm
  ·exact absurd (xI hb.2 32 hm) (by decide)
 have et:=Ol (Ji n0) (xI hb.2)
 have ed:(Lib.itoa h.n++h.l).drop (Lib.itoa h.n).length=h.l:=List.drop_left
 have ea:aM (Lib.itoa h.n)=h.n:=cN n0 (by omega)
 by_cases hd:0 < h.den
 ·have e:dI h=(Lib.itoa h.n++h.l)++32::(Lib.itoa h.num++47::Lib.itoa h.den):=by
   unfold dI
   rw [if_pos hd]
   simp
  have ec:=RT1.oE (c:=32) (b:=Lib.itoa h.num++47::Lib.itoa h.den) hm
  have ek:=RT1.oE (c:=47) (b:=Lib.itoa h.den) (RT1.eJ (n:=h.num) (by omega) (c:=47) (.inl (by decide)))
  unfold cd dg fr
  rw [e,ec]
  dsimp only
  rw [ek,et,ed,ea]
  dsimp only
  rw [if_pos rfl,if_pos rfl,cN (by omega) (by omega),cN (by omega) (by omega)]
 ·have hz:=Nz hv.2 (by omega)
  have e:dI h=Lib.itoa h.n++h.l:=by unfold dI; rw [if_neg hd]
  have ec:=RT1.sH (c:=32) hm
  have ek:Lib.cut [] [47]=([],[],false):=RT1.sH (c:=47) (a:=[]) (by simp)
  unfold cd dg fr
  rw [e,ec]
  dsimp only
  rw [ek,et,ed,ea]
  obtain ⟨n,l,num,den⟩:=h
  obtain ⟨rfl,rfl⟩:num=0/\den=0:=hz
  rfl
theorem rN {h:Hn} (hv:cE h=true):cH (dI h)=h:=by
 have e:=P6 hv
 unfold cH mP
 rw [e,hv,decide_eq_true rfl]
 rfl
end RT4
end
section
open Go Go.Eng Go.Proofs G1 G2 G3 G4 G6 G7 EV0 N1 N2 F1 F2 F3 F4 F5 F6 F7 F8 F9 F10 F11 F12 F13 F16 F17 F18 F20 RT2 RT3 RT4
set_option maxRecDepth 100000
namespace RT5
def kpU (e:Ev):List B :=
 if e.kind=1 then [Lib.itoa e.a] else if e.kind=4 then [e.oth] else if e.kind=6 then [e.oth,e.txt,dI e.num,dD e.pt] else if e.kind=7 then [e.oth,e.txt] else
 if e.kind=10 then [dI e.num,dD e.pt] else if e.kind=13\/e.kind=14 then [Lib.itoa e.a,Lib.itoa e.b] else if e.kind=15 then [Lib.itoa e.off,e.txt] else []
def nmU (s:Sq Nm):Nat->List B
 | 0=>[]
 | i+1=>nmU s i++[(s.f i).lang,Lib.itoa (s.f i).script,(s.f i).text]
def enU (k:Int) (s:Sq En):Nat->List B
 | 0=>[]
 | i+1=>enU k s i++([(s.f i).id,dI (s.f i).num]++(if k=9 then [dD (s.f i).pt] else []))
def us (e:Ev):List B:=((((([bR.getD e.kind.toNat [],Lib.itoa e.day]++(if e.id=[] then [] else [e.id]))++kpU e)++nmU e.names e.names.n)++enU e.kind e.list e.list.n)++paW e.path e.path.n)++e.ids.list
theorem S9 {s:Sq Nm}:∀ {n:Nat},(∀ i,i < n->L10.dF (s.f i).lang=true/\0<=(s.f i).script/\(34:UInt8) ∉ (s.f i).text)->Wds (nmW s n) (nmU s n):=by
 intro n
 induction n with
 | zero=>intro _; exact .nil
 | succ n ih =>
  intro h
  obtain ⟨h1,h2,h3⟩:=h n (Nat.lt_succ_self n)
  exact (ih fun i hi=>h i (by omega)).append (.cons (qZ h1) (.cons (jL h2) (.one (.quote h3))))
theorem S6 {k:Int} {s:Sq En}:∀ {n:Nat},(∀ i,i < n->L10.dF (s.f i).id=true/\cE (s.f i).num=true/\onB (s.f i).pt=true)->Wds (enW k s n) (enU k s n):=by
 intro n
 induction n with
 | zero=>intro _; exact .nil
 | succ n ih =>
  intro h
  obtain ⟨h1,h2,h3⟩:=h n (Nat.lt_succ_self n)
  refine (ih fun i hi=>h i (by omega)).append (.cons (qZ h1) (.cons (Dz h2) ?_))
  split
  ·exact .one (yP h3)
  ·exact .nil
theorem Ta {s:Pts}:∀ {n:Nat},(∀ i,i < n->onB (s.p i)=true)->Wds (paW s n) (paW s n):=by
 intro n
 induction n with
 | zero=>intro _; exact .nil
 | succ n ih =>
  intro h
  exact (ih fun i hi=>h i (by omega)).append (.one (yP (h n (Nat.lt_succ_self n))))
theorem Om:∀ {l:List B},(∀ x∈l,L10.dF x=true)->Wds l l:=by
 intro l
 induction l with
 | nil=>intro _; exact .nil
 | cons a l ih=>intro h; exact .cons (qZ (h a (by simp))) (ih fun x hx=>h x (by simp [hx]))
theorem cD {e:Ev} (h:aS e=true):e.names.n=0\/(e.kind=3/\pY e.names=true):=by
 obtain ⟨_,_,_,hm,hn⟩:=bD h
 have:=(oG.1 hm).2.1
 unfold bA at this
 dsimp only at this
 split at this
 ·rename_i k
  rw [Rs k] at hn; unfold nd3 at hn
  rw [Bool.and_eq_true] at hn
  exact .inr ⟨k,hn.2⟩
 ·exact .inl this
theorem cY {e:Ev} (h:aS e=true):e.list.n=0\/(e.kind=8/\nd8 e=true)\/(e.kind=9/\nd9 e=true):=by
 obtain ⟨_,_,_,hm,hn⟩:=bD h
 have:=(oG.1 hm).2.2.2
 unfold bA at this
 dsimp only at this
 split at this
 ·rename_i k
  rcases k with k|k
  ·rw [Nk k] at hn
   exact .inr (.inl ⟨k,hn⟩)
  ·rw [Rw k] at hn
   exact .inr (.inr ⟨k,hn⟩)
 ·exact .inl this
theorem eC {e:Ev} (h:aS e=true):e.ids.n=0\/(e.kind=10/\nd10 e=true):=by
 obtain ⟨_,_,_,hm,hn⟩:=bD h
 have:=(oG.1 hm).1
 unfold bA at this
 dsimp only at this
 split at this
 ·rename_i k
  rw [Ap k] at hn
  exact .inr ⟨k,hn⟩
 ·exact .inl this
theorem cU {e:Ev} (h:aS e=true):e.path.n=0\/e.kind=1\/e.kind=2\/e.kind=5:=by
 obtain ⟨_,_,_,hm,hn⟩:=bD h
 have:=(oG.1 hm).2.2.1
 unfold bA at this
 dsimp only at this
 split at this
 ·rename_i k
  exact .inr k
 ·exact .inl this
theorem vQ {l:Sq En} {more:List B} (h:iP l more=true) {i:Nat} (hi:i < l.n):L10.dF (l.f i).id=true/\cE (l.f i).num=true:=by
 unfold iP at h
 simp only [Bool.and_eq_true,Bool.not_eq_true'] at h
 have h1:=bE.1 h.1 i hi
 have h2:=fI (i:=more.length+i) h.2.1 (by show more.length+i < more.length+l.n; omega)
 rw [Bool.not_eq_false'] at h1
 rw [show (⟨more.length+l.n,mF l more⟩:Sq B).f (more.length+i)=mF l more (more.length+i) from rfl,Jr] at h2
 exact ⟨h2,h1⟩
theorem Ju {e:Ev} (h:aS e=true):∀ i,i < e.names.n->L10.dF (e.names.f i).lang=true/\0<=(e.names.f i).script/\(34:UInt8) ∉ (e.names.f i).text:=by
 intro i hi
 rcases cD h with h0|⟨_,hn⟩
 ·omega
 ·unfold pY at hn
  rw [Bool.and_eq_true,Bool.not_eq_true'] at hn
  have:=bE.1 hn.1 i hi
  unfold nbad at this
  simp only [Bool.or_eq_false_iff,Bool.not_eq_false'] at this
  exact ⟨this.1.1,(gO.1 this.1.2).1,Uf this.2⟩
theorem xJ {e:Ev} (h:aS e=true):∀ i,i < e.list.n->L10.dF (e.list.f i).id=true/\cE (e.list.f i).num=true/\onB (e.list.f i).pt=true:=by
 intro i hi
 have hp:=(dC h).lst i hi
 rcases cY h with h0|⟨_,hn⟩|⟨_,hn⟩
 ·omega
 ·unfold nd8 at hn
  simp only [Bool.and_eq_true] at hn
  have:=vQ hn.1.2 hi
  exact ⟨this.1,this.2,hp⟩
 ·unfold nd9 at hn
  simp only [Bool.and_eq_true] at hn
  have:=vQ hn.1.2 hi
  exact ⟨this.1,this.2,hp⟩
theorem lR {e:Ev} (h:aS e=true):∀ i,i < e.ids.n->L10.dF (e.ids.f i)=true:=by
 intro i hi
 rcases eC h with h0|⟨_,hn⟩
 ·omega
 ·unfold nd10 at hn
  simp only [Bool.and_eq_true] at hn
  have:=fI (i:=1+i) hn.1.1.2 (by show 1+i < 1+e.ids.n; omega)
  rw [show (⟨1+e.ids.n,jnF e⟩:Sq B).f (1+i)=jnF e (1+i) from rfl] at this
  unfold jnF at this
  rw [if_neg (by omega),show 1+i - 1=i by omega] at this
  exact this
theorem Uj {k:Int} (h1:1<=k) (h2:k<=15):Wd (bR.getD k.toNat []) (bR.getD k.toNat []):=by
 have:∀ n:Nat,n < 16->1<=n->bR.getD n []≠[]/\(32:UInt8) ∉ bR.getD n []/\(34:UInt8) ∉ bR.getD n []:=by decide
 have:=this k.toNat (by omega) (by omega)
 exact .plain this.1 this.2.1 this.2.2
theorem lit2 {a b:B} (h:jS (bQ [a,b])=true):L10.dF a=true/\L10.dF b=true:=by
 have e0:=fI (r:=bQ [a,b]) (i:=0) h (by show 0 < 2; decide)
 have e1:=fI (r:=bQ [a,b]) (i:=1) h (by show 1 < 2; decide)
 exact ⟨e0,e1⟩
theorem lit3 {a b c:B} (h:jS (bQ [a,b,c])=true):L10.dF a=true/\L10.dF b=true/\L10.dF c=true:=by
 have e0:=fI (r:=bQ [a,b,c]) (i:=0) h (by show 0 < 3; decide)
 have e1:=fI (r:=bQ [a,b,c]) (i:=1) h (by show 1 < 3; decide)
 have e2:=fI (r:=bQ [a,b,c]) (i:=2) h (by show 2 < 3; decide)
 exact ⟨e0,e1,e2⟩
theorem S8 {e:Ev} (h:aS e=true):Wds (kp e) (kpU e):=by
 have ff:=dC h
 obtain ⟨⟨k1,k2⟩,_,_,_,hn⟩:=bD h
 rcases kinds k1 k2 with k|k|k|k|k|k|k|k|k|k|k|k|k|k|k
 ·simp only [kp,kpU,k]
  exact .one (jL ff.a.1)
 ·simp [kp,kpU,k]; exact .nil
 ·simp [kp,kpU,k]; exact .nil
 ·rw [Rt k] at hn; unfold nd4 at hn
  simp [kp,kpU,k]
  exact .one (qZ (lit2 hn).2)
 ·simp [kp,kpU,k]; exact .nil
 ·rw [Nj k] at hn; unfold nd6 at hn
  simp only [Bool.and_eq_true] at hn
  have hl:=lit3 hn.1.1
  simp [kp,kpU,k]
  exact .cons (qZ hl.2.1) (.cons (qZ hl.2.2) (.cons (Dz hn.1.2) (.one (yP hn.2))))
 ·rw [Rv k] at hn; unfold nd7 at hn
  simp only [Bool.and_eq_true] at hn
  simp [kp,kpU,k]
  exact .cons (qZ (lit2 hn.1).2) (.one (.quote (Oz hn.2).2.2))
 ·simp [kp,kpU,k]; exact .nil
 ·simp [kp,kpU,k]; exact .nil
 ·rw [Ap k] at hn; unfold nd10 at hn
  simp only [Bool.and_eq_true] at hn
  simp [kp,kpU,k]
  exact .cons (Dz hn.1.2) (.one (yP hn.2))
 ·simp [kp,kpU,k]; exact .nil
 ·simp [kp,kpU,k]; exact .nil
 ·simp [kp,kpU,k]
  exact .cons (jL ff.a.1) (.one (jL ff.b.1))
 ·simp [kp,kpU,k]
  exact .cons (jL ff.a.1) (.one (jL ff.b.1))
 ·rw [Jv k] at hn; unfold nd15 at hn
  simp only [Bool.and_eq_true] at hn
  have hv:=V8 hn.2
  simp [kp,kpU,k]
  exact .cons (jL ff.off.1) (.one (.plain hv.1 hv.2.1 hv.2.2))
theorem S7 {e:Ev} (h:aS e=true):Wds (if e.id=[] then [] else [e.id]) (if e.id=[] then [] else [e.id]):=by
 split
 ·exact .nil
 ·rename_i hne
  refine .one (qZ (fX h ?_ ?_))
  ·intro hk; exact hne (oM h (.inl hk))
  ·intro hk; exact hne (oM h (.inr hk))
theorem Tc {e:Ev} (h:aS e=true):Wds (wl e) (us e):=by
 have ff:=dC h
 obtain ⟨⟨k1,k2⟩,hd,_⟩:=bD h
 refine Wds.append (Wds.append (Wds.append (Wds.append (Wds.append (Wds.append (.cons (Uj k1 k2) (.one (jL hd.1))) (S7 h)) (S8 h)) (S9 (Ju h))) (S6 (xJ h))) (Ta ff.pth)) (Om ?_)
 intro x hx
 unfold Sq.list at hx
 obtain ⟨i,hi,rfl⟩:=List.mem_map.1 hx
 exact lR h i (List.mem_range.1 hi)
theorem Sg {e:Ev} (h:aS e=true):pwV (cB e)=us e:=by
 unfold cB
 rw [if_pos h]
 exact Oa (Tc h)
theorem bC (L:List B) (j:Nat):w (adv ⟨L.length,fun i=>L.getD i []⟩ 1) j=L.getD (1+j) []:=by
 unfold w hdW
 show (if 0 < L.length - 1 - j then L.getD (1+(j+0)) [] else [])=_
 split
 ·rfl
 ·rw [List.getD_eq_getElem?_getD,List.getElem?_eq_none (by omega)]
  rfl
theorem eW {L M:List B} {i:Nat} (h:i < L.length):(L++M).getD i []=L.getD i []:=by
 rw [List.getD_eq_getElem?_getD,List.getElem?_append_left h,<- List.getD_eq_getElem?_getD]
theorem bB {L M:List B} {i j:Nat} (h:i=L.length+j):(L++M).getD i []=M.getD j []:=by
 subst h
 rw [List.getD_eq_getElem?_getD,List.getElem?_append_right (by omega),<- List.getD_eq_getElem?_getD]
 congr 1
 omega
theorem E0 {s:Sq Nm}:∀ {n:Nat},(nmU s n).length=3 * n:=by
 intro n
 induction n with
 | zero=>rfl
 | succ n ih=>simp only [nmU,List.length_append,ih,List.length_cons,List.length_nil]; omega
theorem Nr {s:Sq Nm} {i:Nat}:∀ {n:Nat},i < n->(nmU s n).getD (3 * i) []=(s.f i).lang/\(nmU s n).getD (3 * i+1) []=Lib.itoa (s.f i).script/\(nmU s n).getD (3 * i+2) []=(s.f i).text:=by
 intro n
 induction n with
 | zero=>intro h; omega
 | succ n ih =>
  intro h
  have hl:=E0 (s:=s) (n:=n)
  simp only [nmU]
  by_cases hi:i < n
  ·obtain ⟨a,b,c⟩:=ih hi
   rw [eW (by omega),eW (by omega),eW (by omega)]
   exact ⟨a,b,c⟩
  ·obtain rfl:i=n:=by omega
   rw [bB (j:=0) (by omega),bB (j:=1) (by omega),bB (j:=2) (by omega)]
   exact ⟨rfl,rfl,rfl⟩
theorem zG {s:Sq En}:∀ {n:Nat},(enU 8 s n).length=2 * n:=by
 intro n
 induction n with
 | zero=>rfl
 | succ n ih=>simp only [enU,List.length_append,ih]; rw [if_neg (by decide)]; simp; omega
theorem Io {s:Sq En} {i:Nat}:∀ {n:Nat},i < n->(enU 8 s n).getD (2 * i) []=(s.f i).id/\(enU 8 s n).getD (2 * i+1) []=dI (s.f i).num:=by
 intro n
 induction n with
 | zero=>intro h; omega
 | succ n ih =>
  intro h
  have hl:=zG (s:=s) (n:=n)
  simp only [enU]
  rw [if_neg (by decide),List.append_nil]
  by_cases hi:i < n
  ·obtain ⟨a,b⟩:=ih hi
   rw [eW (by omega),eW (by omega)]
   exact ⟨a,b⟩
  ·obtain rfl:i=n:=by omega
   rw [bB (j:=0) (by omega),bB (j:=1) (by omega)]
   exact ⟨rfl,rfl⟩
theorem zH {s:Sq En}:∀ {n:Nat},(enU 9 s n).length=3 * n:=by
 intro n
 induction n with
 | zero=>rfl
 | succ n ih=>simp [enU,List.length_append,ih]; omega
theorem Ip {s:Sq En} {i:Nat}:∀ {n:Nat},i < n->(enU 9 s n).getD (3 * i) []=(s.f i).id/\(enU 9 s n).getD (3 * i+1) []=dI (s.f i).num/\(enU 9 s n).getD (3 * i+2) []=dD (s.f i).pt:=by
 intro n
 induction n with
 | zero=>intro h; omega
 | succ n ih =>
  intro h
  have hl:=zH (s:=s) (n:=n)
  simp only [enU,if_true,List.cons_append,List.nil_append]
  by_cases hi:i < n
  ·obtain ⟨a,b,c⟩:=ih hi
   rw [eW (by omega),eW (by omega),eW (by omega)]
   exact ⟨a,b,c⟩
  ·obtain rfl:i=n:=by omega
   rw [bB (j:=0) (by omega),bB (j:=1) (by omega),bB (j:=2) (by omega)]
   exact ⟨rfl,rfl,rfl⟩
theorem xT {s:Pts} {i:Nat}:∀ {n:Nat},i < n->(paW s n).getD i []=dD (s.p i):=by
 intro n
 induction n with
 | zero=>intro h; omega
 | succ n ih =>
  intro h
  have hl:=mL (s:=s) (i:=n)
  simp only [paW]
  by_cases hi:i < n
  ·rw [eW (by omega)]
   exact ih hi
  ·obtain rfl:i=n:=by omega
   rw [bB (j:=0) (by omega)]
   rfl
end RT5
end
