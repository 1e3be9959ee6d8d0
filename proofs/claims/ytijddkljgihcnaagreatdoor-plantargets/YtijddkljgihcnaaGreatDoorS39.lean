/- A part of the proof. -/
import Derived.Test.YtijddkljgihcnaaGreatDoorS20
import Derived.Test.YtijddkljgihcnaaGreatDoorS33
import Derived.Test.YtijddkljgihcnaaGreatDoorS35
import Derived.Test.YtijddkljgihcnaaGreatDoorS8
section
open Go.Eng G4 G7 EV0 S16 S20
namespace PD
theorem Pz (f:Nat->B):∀ n,(ddL f n).length<=n/\((ddL f n).length=n ↔ ∀ m,1<=m->m < n->f m≠f (m - 1)):=by
 intro n
 induction n with
 | zero=>exact ⟨Nat.le_refl _,fun _ m _ h=>absurd h (Nat.not_lt_zero m),fun _=>rfl⟩
 | succ n ih =>
  obtain ⟨h1,h2⟩:=ih
  unfold ddL
  split
  ·rename_i e
   subst e
   exact ⟨Nat.le_refl _,fun _ m h3 h4=>by omega,fun _=>rfl⟩
  ·split
   ·rename_i e0 e
    refine ⟨by omega,fun h=>by omega,fun h=>absurd e (h n (by omega) (by omega))⟩
   ·rename_i e0 e
    rw [List.length_append,List.length_singleton]
    refine ⟨by omega,fun h m h3 h4=>?_,fun h=>?_⟩
    ·by_cases e2:m=n
     ·rw [e2]; exact e
     ·exact h2.1 (by omega) m h3 (by omega)
    ·have:=h2.2 fun m h3 h4=>h m h3 (by omega)
     omega
theorem Sm (l:List B):(bE l).Pairwise (fun a b=>a<=b):=by
 have:=List.pairwise_mergeSort (le:=fun x y:B=>decide (x<=y)) (fun a b c h1 h2=>decide_eq_true (List.le_trans (of_decide_eq_true h1) (of_decide_eq_true h2)))
  (fun a b=>by
   rcases List.le_total a b with h|h
   ·simp [h]
   ·simp [h]) l
 exact this.imp fun h=>of_decide_eq_true h
theorem Kj (l:List B):(bE l).Perm l:=List.mergeSort_perm l _
theorem nodup_iff (l:List B):(∀ m,1<=m->m < l.length->(bE l).getD m []≠(bE l).getD (m - 1) []) ↔ l.Nodup:=by
 rw [<- (Kj l).nodup_iff]
 have hl:=xL l
 have hs:=Sm l
 revert hl hs
 generalize bE l=s
 intro hl hs
 have at_:∀ i (h:i < s.length),s.getD i []=s[i]:=fun i h=>by rw [List.getD_eq_getElem?_getD,List.getElem?_eq_getElem h]; rfl
 constructor
 ·intro h
  refine List.pairwise_iff_getElem.2 fun i j hi hj hij e=>?_
  have hj1:j - 1 < s.length:=by omega
  have h1:=h j (by omega) (by omega)
  rw [at_ j hj,at_ (j - 1) hj1] at h1
  apply h1
  have h2:s[j - 1]<=s[j]:=List.pairwise_iff_getElem.1 hs _ _ hj1 hj (by omega)
  by_cases e2:i=j - 1
  ·subst e2; exact e.symm
  ·have h3:s[i]<=s[j - 1]:=List.pairwise_iff_getElem.1 hs _ _ hi hj1 (by omega)
   rw [e] at h3
   exact List.le_antisymm h3 h2
 ·intro h m h1 h2 e
  have hm:m < s.length:=by omega
  have hm1:m - 1 < s.length:=by omega
  rw [at_ m hm,at_ (m - 1) hm1] at e
  exact List.pairwise_iff_getElem.1 h (m - 1) m hm1 hm (by omega) e.symm
theorem nT (x:Sq B):lW x=true ↔ (liS x).Nodup:=by
 unfold lW
 rw [decide_eq_true_iff,<- nodup_iff,wI]
 have:=(Pz (srQ x).f x.n).2
 exact ⟨fun h=>this.1 (by omega),fun h=>by have:=this.2 h; omega⟩
theorem Jc {x:Sq B} (h:(liS x).Nodup) {i j:Nat} (hi:i < x.n) (hj:j < x.n) (e:x.f i=x.f j):i=j:=by
 have hl:=wI x
 have at_:∀ i (h:i < (liS x).length),(liS x)[i]=x.f i:=fun i h=>by rw [<- I2 (x:=x) (j:=i) (by omega),List.getD_eq_getElem?_getD,List.getElem?_eq_getElem h]; rfl
 have key:∀ i j,i < x.n->j < x.n->i < j->x.f i=x.f j->False:=fun i j hi hj hij e=>by
  have:=List.pairwise_iff_getElem.1 h i j (by omega) (by omega) hij
  rw [at_,at_] at this
  exact this e
 by_cases e1:i < j
 ·exact (key i j hi hj e1 e).elim
 ·by_cases e2:j < i
  ·exact (key j i hj hi e2 e.symm).elim
  ·omega
end PD
end
section
open Go Go.Eng Go.Proofs F1 F2 F5 F6 F7 F9 F10 G7 G4 L3 L10 G1 G3 EV0 S1 S10 S11 S12 S13 S14 S16 S17 S18 S20 S21 S28 S30 S31 S32 S33 S35 PD
set_option maxRecDepth 100000
namespace PT
theorem dV {x:Sq B} (h:gQ x=true) {j:Nat} (hj:j < x.n):(x.f j).length<=100:=by
 unfold gQ at h
 rw [Bool.not_eq_true'] at h
 have:=aS.1 h j hj
 unfold J8 at this
 have:=of_decide_eq_false this
 omega
theorem xH {x:Sq Nm} (h:rD x=true):okS x okN:=by
 unfold rD at h
 rw [Bool.and_eq_true,Bool.not_eq_true',decide_eq_true_iff] at h
 refine ⟨by omega,fun i hi=>?_⟩
 have:=aS.1 h.1 i hi
 unfold Cx at this
 rw [Bool.not_eq_false'] at this
 have h1:=dV (j:=0) this (Nat.le_of_ble_eq_true rfl)
 have h2:=dV (j:=1) this (Nat.le_of_ble_eq_true rfl)
 have h1:(x.f i).lang.length<=100:=h1
 have h2:(x.f i).text.length<=100:=h2
 exact ⟨Nat.le_trans h1 (by decide),Nat.le_trans h2 (by decide)⟩
theorem gY {n:Nat} {m:Int} (h:oU n m=false):(n:Int)<=m:=by
 unfold oU at h
 have:=of_decide_eq_false h
 omega
theorem fP {t:B} (h:t.length<=100):okT t:=Nat.le_trans h (by decide)
theorem H7 {s:Sta} (h:gA s=true):kJ s:=by
 unfold gA at h
 simp only [Bool.and_eq_true,Bool.not_eq_true'] at h
 obtain ⟨hA,hR,hT,hB,hD,hU⟩:=h
 unfold fwA at hA
 simp only [Bool.or_eq_false_iff] at hA
 obtain ⟨⟨⟨⟨⟨⟨a1,a2⟩,a3⟩,a4⟩,a5⟩,a6⟩,a7⟩:=hA
 have a1:=gY a1
 have a2:=gY a2
 have a3:=gY a3
 have a4:=gY a4
 have a5:=gY a5
 have a6:=gY a6
 have a7:=gY a7
 refine ⟨⟨by omega,fun i hi=>?_⟩,⟨by omega,fun i hi=>?_⟩,⟨by omega,fun i hi=>?_⟩,⟨by omega,fun i hi=>?_⟩,⟨by omega,fun i hi=>?_⟩,by omega,by omega⟩
 ·have:=aS.1 hR i hi
  unfold fwR at this
  simp only [Bool.or_eq_false_iff,Bool.not_eq_false'] at this
  obtain ⟨⟨h1,h2⟩,h3⟩:=this
  have h1:(s.regions.f i).id.length<=100:=dV (j:=0) h1 (Nat.le_of_ble_eq_true rfl)
  have h3:=gY h3
  exact ⟨fP h1,by omega,xH h2⟩
 ·have:=aS.1 hT i hi
  unfold fwT at this
  simp only [Bool.or_eq_false_iff,Bool.not_eq_false'] at this
  obtain ⟨⟨h1,h2⟩,h3⟩:=this
  have h1:(s.streets.f i).id.length<=100:=dV (j:=0) h1 (Nat.le_of_ble_eq_true rfl)
  have h3:=gY h3
  exact ⟨fP h1,by omega,xH h2⟩
 ·have:=aS.1 hB i hi
  unfold fwB at this
  simp only [Bool.or_eq_false_iff,Bool.not_eq_false'] at this
  have h1:(s.buildings.f i).id.length<=100:=dV (j:=0) this.1 (Nat.le_of_ble_eq_true rfl)
  have h3:=gY this.2
  exact ⟨fP h1,by omega⟩
 ·have:=aS.1 hD i hi
  unfold fwD at this
  simp only [Bool.or_eq_false_iff,Bool.not_eq_false'] at this
  obtain ⟨⟨h1,h2⟩,h3⟩:=this
  have g1:(s.doors.f i).id.length<=100:=dV (j:=0) h1 (Nat.le_of_ble_eq_true rfl)
  have g2:(s.doors.f i).bld.length<=100:=dV (j:=1) h1 (Nat.le_of_ble_eq_true rfl)
  have g3:(s.doors.f i).str.length<=100:=dV (j:=2) h1 (Nat.le_of_ble_eq_true rfl)
  have g4:(s.doors.f i).num.l.length<=100:=dV (j:=3) h1 (Nat.le_of_ble_eq_true rfl)
  have g5:(s.doors.f i).veil.length<=100:=dV (j:=4) h1 (Nat.le_of_ble_eq_true rfl)
  have h2:=gY h2
  exact ⟨fP g1,fP g2,fP g3,fP g4,⟨by omega,fun j hj=>fP (dV h3 hj)⟩,fP g5⟩
 ·have:=aS.1 hU i hi
  unfold fwU at this
  rw [Bool.not_eq_false'] at this
  have g1:(s.units.f i).id.length<=100:=dV (j:=0) this (Nat.le_of_ble_eq_true rfl)
  have g2:(s.units.f i).door.length<=100:=dV (j:=1) this (Nat.le_of_ble_eq_true rfl)
  have g3:(s.units.f i).txt.length<=100:=dV (j:=2) this (Nat.le_of_ble_eq_true rfl)
  exact ⟨fP g1,fP g2,fP g3⟩
theorem Ee (s:Sta) {i:Nat} (hi:i < s.doors.n):(q3 s).n+i < (q5 s).n/\(q5 s).f ((q3 s).n+i)=(s.doors.f i).id:=by
 have c4:(q4 s).n=(q3 s).n+s.doors.n:=rfl
 have c5:(q5 s).n=(q4 s).n+s.units.n:=rfl
 refine ⟨by omega,?_⟩
 have e5:(q5 s).f=oX (q4 s).n (q4 s).f fun i=>(s.units.f i).id:=rfl
 have e4:(q4 s).f=oX (q3 s).n (q3 s).f fun i=>(s.doors.f i).id:=rfl
 rw [e5,oY (by omega),e4]
 exact Hk i
theorem Oa {s:Sta} (h:lW (q5 s)=true) {k:Nat} (hk:k < s.doors.n):fdV s (s.doors.f k).id=(k:Int):=by
 have hn:=(nT _).1 h
 unfold fdV
 refine cI (aS.2 fun i hi=>?_) (decide_eq_true rfl) hk
 refine decide_eq_false fun e=>?_
 obtain ⟨i1,i2⟩:=Ee s (i:=i) (by omega)
 obtain ⟨k1,k2⟩:=Ee s hk
 have:=Jc hn i1 k1 (by rw [i2,k2]; exact e)
 omega
def vl (s:Sta) (k:Nat) (v:B):Sta:={ s with doors:=⟨s.doors.n,fun i=>if i=k then { s.doors.f k with veil:=v } else s.doors.f i⟩ }
theorem vG {s:Sta} {k:Nat} {v:B} {i:Nat} (h:i≠k):(vl s k v).doors.f i=s.doors.f i:=if_neg h
theorem tO {s:Sta} {k:Nat} {v:B}:(vl s k v).doors.f k={ s.doors.f k with veil:=v }:=if_pos rfl
theorem fV {s:Sta} {k:Nat} {v:B} {T:Type} (g:Dr->T) (hg:∀ (d:Dr) (w:B),g { d with veil:=w }=g d) (i:Nat):g ((vl s k v).doors.f i)=g (s.doors.f i):=by
 by_cases h:i=k
 ·subst h; rw [tO,hg]
 ·rw [vG h]
theorem O1 (s:Sta) (k:Nat) (v c:B):fdV (vl s k v) c=fdV s c:=by
 unfold fdV
 show aZ _ s.doors.n=_
 congr 1
 funext i
 exact fV (fun d=>drP c d) (fun _ _=>rfl) i
theorem Wx (s:Sta) (k:Nat) (v:B):q5 (vl s k v)=q5 s:=by
 have e:(fun i=>((vl s k v).doors.f i).id)=fun i=>(s.doors.f i).id:=funext fun i=>fV (fun d=>d.id) (fun _ _=>rfl) i
 show Ba (Ba (q3 s) s.doors.n (fun i=>((vl s k v).doors.f i).id)) _ _=_
 rw [e]
 rfl
theorem or_congr {f g:Nat->Bool} (h:∀ i,f i=g i) (n:Nat):orB f n=orB g n:=by rw [funext h]
theorem K4 {s:Sta} {k:Nat} {v:B} (hv:v≠[]) (hk:(s.doors.f k).veil≠[]) (i:Nat):nuS ((vl s k v).doors.f i)=nuS (s.doors.f i):=by
 by_cases h:i=k
 ·subst h
  rw [tO]
  unfold nuS
  rw [decide_eq_false hk]
  show (!decide ((s.doors.f i).ended=-1) || !decide (v=[]))=_
  rw [decide_eq_false hv]
 ·rw [vG h]
theorem Ti {s:Sta} {k:Nat} {v:B} (hv:v≠[]) (hk:(s.doors.f k).veil≠[]):∀ i,nuL (vl s k v).doors i=nuL s.doors i:=by
 intro i
 induction i with
 | zero=>rfl
 | succ i ih =>
  simp only [nuL]
  rw [K4 hv hk,ih,fV nuK (fun _ _=>rfl)]
theorem Tj {s:Sta} {k:Nat} {v:B} (hv:v≠[]) (hk:(s.doors.f k).veil≠[]):rC (vl s k v)=rC s:=by
 unfold rC
 show (!orB (nuB (vl s k v).doors) s.doors.n)=_
 rw [or_congr (g:=nuB s.doors) fun i=>?_]
 unfold nuB
 rw [K4 hv hk,Ti hv hk,fV nuK (fun _ _=>rfl)]
theorem Nx (s:Sta) (k:Nat) (v:B):fK (vl s k v)=fK s:=by
 have hc:∀ a j,chn (vl s k v) a j=chn s a j:=by
  intro a j
  induction j with
  | zero=>rfl
  | succ j ih=>simp only [chn]; rw [ih]; rfl
 have hy:∀ a,cyc (vl s k v) a=cyc s a:=by
  intro a
  unfold cyc
  show (!orB (fun j=>decide (chn (vl s k v) a j < 0)) (s.merged.n+2))=_
  rw [or_congr (g:=fun j=>decide (chn s a j < 0)) fun j=>by rw [hc]]
 unfold fK
 show (!orB (prB s.merged) s.merged.n && (!orB (fun k=>prO (s.rulings.p k)) s.rulings.n && !orB (fun i=>cyc (vl s k v) (s.merged.p i).2) s.merged.n))=_
 rw [or_congr (g:=fun i=>cyc s (s.merged.p i).2) fun i=>hy _]
def oth:B:=[111,116,104,101,114]
theorem wW:oth≠[]:=by unfold oth; exact List.cons_ne_nil _ _
theorem Ov (d:Dr):mdV 15 (Cw d)=((dL d.id && bI d.office 0 63) && K3 d.veil):=rfl
theorem Q7 {d:Dr} (h:mdV 15 (Cw d)=true):mdV 15 (Cw { d with veil:=oth })=true:=by
 rw [Ov,Bool.and_eq_true] at h
 rw [Ov]
 show ((dL d.id && bI d.office 0 63) && K3 oth)=true
 rw [h.1]
 kernel_rfl
theorem Tm {s:Sta} {k:Nat} (hk:(s.doors.f k).veil≠[]) (i:Nat):stA (vl s k oth) i=stA s i:=by
 have he:∀ w,sI ((vl s k oth).doors.f i) w=sI (s.doors.f i) w:=by
  intro w
  by_cases h:i=k
  ·subst h
   rw [tO]
   unfold sI
   rw [decide_eq_false hk]
   show (if w=12 then decide (((s.doors.f i).after.n:Int)=0) else if w=11 then decide (((s.doors.f i).after.n:Int)=0) && decide (oth=[]) else if w=9 then bI ((s.doors.f i).after.n:Int) 2 8 && decide (oth=[]) else if w=10 then decide (((s.doors.f i).after.n:Int)=1) && decide (oth=[]) else false)=_
   rw [decide_eq_false wW]
  ·rw [vG h]
 unfold stA
 rw [he,fV (fun d=>d.ended) (fun _ _=>rfl) (v:=oth),fV (fun d=>d.why) (fun _ _=>rfl) (v:=oth),fV (fun d=>d.after) (fun _ _=>rfl) (v:=oth)]
theorem Th (s:Sta) (k i j:Nat):afB (vl s k oth) i j=afB s i j:=by
 unfold afB
 rw [O1,fV (fun d=>d.after) (fun _ _=>rfl)]
theorem Tl {s:Sta} {k:Nat} (hk:(s.doors.f k).veil≠[]) {i:Nat} (h:dW s i=true):dW (vl s k oth) i=true:=by
 unfold dW at h ⊢
 rw [Tm hk,or_congr (g:=afB s i) (Th s k i),fV (fun d=>d.after) (fun _ _=>rfl)]
 by_cases e:i=k
 ·subst e
  rw [if_neg hk] at h
  rw [tO,if_neg (show ({ s.doors.f i with veil:=oth }:Dr).veil≠[] from wW)]
  rw [Bool.and_eq_true,Bool.and_eq_true] at h ⊢
  refine ⟨h.1,h.2.1,?_⟩
  have h2:=h.2.2
  unfold stH at h2 ⊢
  rw [Bool.and_eq_true] at h2 ⊢
  exact ⟨h2.1,Q7 h2.2⟩
 ·rw [vG e]
  exact h
theorem Ww {s:Sta} {k:Nat} (hk:(s.doors.f k).veil≠[]) (h:prV s=true):prV (vl s k oth)=true:=by
 unfold prV at h ⊢
 simp only [Bool.and_eq_true,Bool.not_eq_true'] at h ⊢
 obtain ⟨h1,h2,h3,h4,h5,h6⟩:=h
 refine ⟨h1,h2,h3,?_,?_,?_⟩
 ·refine aS.2 fun i hi=>?_
  have:=aS.1 h4 i hi
  unfold drB at this ⊢
  rw [Bool.or_eq_false_iff,Bool.not_eq_false',Bool.not_eq_false'] at this ⊢
  refine ⟨?_,Tl hk this.2⟩
  rw [fV (fun d=>d.owner) (fun _ _=>rfl),fV (fun d=>d.ended) (fun _ _=>rfl),fV (fun d=>d.frm) (fun _ _=>rfl)]
  exact this.1
 ·refine (or_congr (g:=unB s) fun i=>?_) _ |>.trans h5
  unfold unB unA unC
  rw [O1,fV (fun d=>d.ended) (fun _ _=>rfl)]
  rfl
 ·unfold prT at h6 ⊢
  rw [Wx,Tj wW hk,Nx]
  exact h6
end PT
end
section
open Go Go.Eng Go.Proofs G7 G4 L3 L10 G1 G3 EV0 B1 B2 S1 S2 S3 S4 S5 S6 S7 S8
set_option maxRecDepth 100000
namespace S9
attribute [local irreducible] dst vdV dG
def g10:List Nat:=[12,20,38,46,58,4,3,0,2]
def c10:aH :=
 .seq (.region g10 [(zo 2 (.move cF))]) (.seq (.seq (.region g10 [(mv 5 0),(zo 6 (.lenSl (.s 5))),(zo 7 (.bin (.gtr) (.s 6) (cj 64))),(mv 8 7),(mg 9 8 true 0),(zg 10 8 true (.lenSl (.s 9))),(zg 11 8 true (.bin (.leq) (.s 10) (cj 70))),(zo 12 (.pick (.s 8) (.s 11) cF))]) (.cond (.s 12) (.seq (.region g10 [(zo 2 (.move cT))]) .ret) .skip)) (.seq (.seq (.region g10 [(zo 3 (.move (cj 0)))]) (.block 0 (.loop 0 [13,14,15,16,17,18,19,20,23,24,25,26,27,28,29,30,31,32,33,34,35,36,37,38,39,40,41,42,43,44,45,46,49,50,51,52,53,54,55,56,57,58,2,47,48,4,21,22,3] (.seq (.seq (.region g10 [(mv 13 3),(mv 14 0),(zo 15 (.lenSl (.s 14))),(zo 16 (.bin (.lss) (.s 13) (.s 15))),(mv 17 16),(mg 18 17 true 3),(zg 19 17 true (.bin (.lss) (.s 18) (cj 8))),(zo 20 (.pick (.s 17) (.s 19) cF))]) (.cond (.s 20) .skip (.exit 0))) (.seq (.block 1 (.seq (.seq (.region g10 [(mv 23 0),(mv 24 3),(zo 25 (.idxSl 2 (.s 23) (.s 24))),(fa 26 0 25),(ld 27 26),(zo 28 (.lenSl (.s 27))),(zo 29 (.bin (.gtr) (.s 28) (cj 10))),(mv 30 29),(mg 31 30 false 0),(mg 32 30 false 3),(zg 33 30 false (.idxSl 2 (.s 31) (.s 32))),(fg 34 30 false 1 33),(lg 35 30 false 34),(zg 36 30 false (.lenSl (.s 35))),(zg 37 30 false (.bin (.gtr) (.s 36) (cj 8))),(zo 38 (.pick (.s 30) cT (.s 37)))]) (.cond (.s 38) (.seq (.region g10 [(zo 2 (.move cF))]) .ret) .skip)) (.seq (.region g10 [(zo 4 (.move (cj 0)))]) (.block 2 (.loop 1 [39,40,41,42,43,44,45,46,49,50,51,52,53,54,55,56,57,58,2,47,48,4] (.seq (.seq (.region g10 [(mv 39 4),(mv 40 0),(mv 41 3),(zo 42 (.idxSl 2 (.s 40) (.s 41))),(fa 43 1 42),(ld 44 43),(zo 45 (.lenSl (.s 44))),(zo 46 (.bin (.lss) (.s 39) (.s 45)))]) (.cond (.s 46) .skip (.exit 2))) (.seq (.block 3 (.seq (.region g10 [(mv 49 0),(mv 50 3),(zo 51 (.idxSl 2 (.s 49) (.s 50))),(fa 52 1 51),(ld 53 52),(mv 54 4),(zo 55 (.idxSl 1 (.s 53) (.s 54))),(ld 56 55),(zo 57 (.lenStr (.s 56))),(zo 58 (.bin (.gtr) (.s 57) (cj 60)))]) (.cond (.s 58) (.seq (.region g10 [(zo 2 (.move cF))]) .ret) .skip))) (.region g10 [(mv 47 4),(zo 48 (.bin (.add) (.s 47) (cj 1))),(mv 4 48)])))))))) (.region g10 [(mv 21 3),(zo 22 (.bin (.add) (.s 21) (cj 1))),(mv 3 22)])))))) (.seq (.region g10 [(mv 59 0),(zo 60 (.lenSl (.s 59))),(zo 61 (.bin (.leq) (.s 60) (cj 8))),(mv 2 61)]) .ret)))
theorem e10:aI Tryz.prog 10 g10 [] [] []=some (c10,[.slot 2],62):=by kernel_rfl
def lng (s:Sq B) (i:Nat):Bool:=decide ((60:Int) < ((s.f i).length:Int))
def vN (o:Of):Bool:=(decide ((10:Int) < (o.links.n:Int)) || decide ((8:Int) < (o.codes.n:Int))) || orB (lng o.codes) o.codes.n
def kR (l:Sq Of):Bool:=(decide ((64:Int) < (l.n:Int)) && decide ((l.n:Int)<=70)) || (!orB (fun i=>vN (l.f i)) l.n && decide ((l.n:Int)<=8))
structure bgO (l:Sq Of):Prop where
 n:l.n<=4611686018427387904
 ln:∀ i,i < l.n->(l.f i).links.n<=4611686018427387904
 cn:∀ i,i < l.n->(l.f i).codes.n<=4611686018427387904/\∀ j,j < (l.f i).codes.n->((l.f i).codes.f j).length<=4611686018427387904
def Ug:Eng.Spec where
 X:=Sq Of
 args:=fun x=>.cons (ofE x) .nil
 pre:=bgO
 res:=fun x=>.bool (kR x)
 inst:=EV0.one ofD
theorem Qj:Ug.Ok Tryz.prog 10:=by
 refine Eng.Spec.okR e10 .nil (fun _=>[]) (fun _ _=>aA.nil) ?_
 rintro (l:Sq Of) ⟨hn,hln,hcn⟩
 refine ⟨trivial,?_⟩
 repeat' (first|apply And.intro|exact trivial|exact rfl|exact lz fun _=>rfl|exact S1.zz rfl)
 ·refine fun (hc:aE (decide ((64:Int) < (l.n:Int))) (.s 11) cF (decide ((l.n:Int)<=70)) false=true)=>?_
  rw [aF] at hc
  have e:true=kR l:=by unfold kR; rw [hc]; rfl
  repeat' (first|exact e|apply And.intro|exact trivial|exact rfl|exact lz fun _=>rfl|exact S1.zz rfl)
 refine fun (hc:aE (decide ((64:Int) < (l.n:Int))) (.s 11) cF (decide ((l.n:Int)<=70)) false=false)=>?_
 rw [aF] at hc
 repeat' (first|apply And.intro|exact trivial|exact rfl|exact lz fun _=>rfl|exact S1.zz rfl)
 refine ⟨⟨Nat,fun i=>(i<=l.n/\i<=8)/\orB (fun i=>vN (l.f i)) i=false,fun i=>[(3,.int .i64 (i:Int))],fun _=>[],fun i=>l.n - i⟩,0,⟨⟨Nat.zero_le _,Nat.zero_le _⟩,rfl⟩,?_,?_⟩
 ·repeat' (first|apply And.intro|exact trivial|exact rfl|exact lz fun _=>rfl|exact S1.zz rfl)
 rintro (i:Nat) ⟨⟨(hi:i<=l.n),(hi8:i<=8)⟩,(hf:orB (fun i=>vN (l.f i)) i=false)⟩
 repeat' (first|apply And.intro|exact trivial|exact rfl|exact lz fun _=>rfl|exact S1.zz rfl)
 ·refine fun (h:aE (decide ((i:Int) < (l.n:Int))) (.s 19) cF (decide ((i:Int) < 8)) false=true)=>?_
  rw [aF,Bool.and_eq_true,decide_eq_true_iff,decide_eq_true_iff] at h
  have hil:i < l.n:=by omega
  have hi9:i+1<=8:=by omega
  have b0:(0:Int)<=(i:Int):=by omega
  have b1:(i:Int) < (l.n:Int):=by omega
  have b2:-9223372036854775808<=(i:Int)+1:=by omega
  have b3:(i:Int)+1<=9223372036854775807:=by omega
  have em:l.n - (i+1) < l.n - i:=by omega
  have bad:vN (l.f i)=true->false=kR l:=fun ho=>by
   unfold kR
   rw [hc,aO.2 ⟨i,hil,ho⟩]
   rfl
  repeat' (first|with_reducible exact b0|with_reducible exact b1|apply And.intro|exact trivial|exact rfl|exact lz fun _=>rfl|exact S1.zz rfl|refine gd ?_)
  ·refine fun (hb:aE (decide ((10:Int) < ((l.f (i:Int).toNat).links.n:Int))) cT (.s 37) true (decide ((8:Int) < ((l.f (i:Int).toNat).codes.n:Int)))=true)=>?_
   rw [aD] at hb
   have e:false=kR l:=bad (by unfold vN; rw [show (decide ((10:Int) < ((l.f i).links.n:Int)) || decide ((8:Int) < ((l.f i).codes.n:Int)))=true from hb]; rfl)
   repeat' (first|exact e|apply And.intro|exact trivial|exact rfl|exact lz fun _=>rfl|exact S1.zz rfl)
  ·refine fun (hb:aE (decide ((10:Int) < ((l.f (i:Int).toNat).links.n:Int))) cT (.s 37) true (decide ((8:Int) < ((l.f (i:Int).toNat).codes.n:Int)))=false)=>?_
   rw [aD] at hb
   have hb':(decide ((10:Int) < ((l.f i).links.n:Int)) || decide ((8:Int) < ((l.f i).codes.n:Int)))=false:=hb
   have h8:(l.f i).codes.n<=8:=by have:=of_decide_eq_false (Bool.or_eq_false_iff.1 hb').2; omega
   repeat' (first|apply And.intro|exact trivial|exact rfl|exact lz fun _=>rfl|exact S1.zz rfl)
   refine ⟨⟨Nat,fun j=>j<=(l.f i).codes.n/\orB (lng (l.f i).codes) j=false,fun j=>[(4,.int .i64 (j:Int))],fun _=>[],fun j=>(l.f i).codes.n - j⟩,0,⟨Nat.zero_le _,rfl⟩,?_,?_⟩
   ·repeat' (first|apply And.intro|exact trivial|exact rfl|exact lz fun _=>rfl|exact S1.zz rfl)
   rintro (j:Nat) ⟨(hj:j<=(l.f i).codes.n),(hg:orB (lng (l.f i).codes) j=false)⟩
   repeat' (first|with_reducible exact b0|with_reducible exact b1|apply And.intro|exact trivial|exact rfl|exact lz fun _=>rfl|exact S1.zz rfl)
   ·refine fun (h:decide ((j:Int) < ((l.f (i:Int).toNat).codes.n:Int))=true)=>?_
    have hjl:j < (l.f i).codes.n:=by have:=of_decide_eq_true h; simp at this; omega
    have c0:(0:Int)<=(j:Int):=by omega
    have c1:(j:Int) < ((l.f (i:Int).toNat).codes.n:Int):=by simp; omega
    have c2:-9223372036854775808<=(j:Int)+1:=by omega
    have c3:(j:Int)+1<=9223372036854775807:=by omega
    have em2:(l.f i).codes.n - (j+1) < (l.f i).codes.n - j:=by omega
    repeat' (first|with_reducible exact b0|with_reducible exact b1|with_reducible exact c0|with_reducible exact c1|apply And.intro|exact trivial|exact rfl|exact lz fun _=>rfl|exact S1.zz rfl)
    ·refine fun (hb:decide ((60:Int) < (((l.f (i:Int).toNat).codes.f (j:Int).toNat).length:Int))=true)=>?_
     have e:false=kR l:=bad (by unfold vN; rw [aO.2 ⟨j,hjl,hb⟩,Bool.or_true])
     repeat' (first|exact e|apply And.intro|exact trivial|exact rfl|exact lz fun _=>rfl|exact S1.zz rfl)
    ·refine fun (hb:decide ((60:Int) < (((l.f (i:Int).toNat).codes.f (j:Int).toNat).length:Int))=false)=>?_
     have hg1:orB (lng (l.f i).codes) (j+1)=false:=by
      simp only [orB]
      rw [hg]
      exact hb
     repeat' (first|with_reducible exact c2|with_reducible exact c3|apply And.intro|exact trivial|exact rfl|exact lz fun _=>rfl|exact S1.zz rfl)
     refine Exists.intro (j+1) (And.intro ⟨hjl,hg1⟩ ?_)
     repeat' (first|exact em2|apply And.intro|exact trivial|exact rfl|exact lz fun _=>rfl|exact S1.zz rfl)
   ·refine fun (h:decide ((j:Int) < ((l.f (i:Int).toNat).codes.n:Int))=false)=>?_
    have hjl:j=(l.f i).codes.n:=by have:=of_decide_eq_false h; simp at this; omega
    subst hjl
    have hf1:orB (fun i=>vN (l.f i)) (i+1)=false:=by
     simp only [orB]
     rw [hf,Bool.false_or]
     unfold vN
     rw [hb',hg]
     rfl
    repeat' (first|with_reducible exact b2|with_reducible exact b3|apply And.intro|exact trivial|exact rfl|exact lz fun _=>rfl|exact S1.zz rfl)
    refine Exists.intro (i+1) (And.intro ⟨⟨hil,hi9⟩,hf1⟩ ?_)
    repeat' (first|exact em|apply And.intro|exact trivial|exact rfl|exact lz fun _=>rfl|exact S1.zz rfl)
 ·refine fun (h:aE (decide ((i:Int) < (l.n:Int))) (.s 19) cF (decide ((i:Int) < 8)) false=false)=>?_
  rw [aF,Bool.and_eq_false_iff,decide_eq_false_iff_not,decide_eq_false_iff_not] at h
  have e:decide ((l.n:Int)<=8)=kR l:=by
   unfold kR
   rw [hc,Bool.false_or]
   by_cases h8:l.n<=8
   ·obtain rfl:i=l.n:=by omega
    rw [hf]
    rfl
   ·rw [show decide ((l.n:Int)<=8)=false from decide_eq_false (by omega),Bool.and_false]
  repeat' (first|exact e|apply And.intro|exact trivial|exact rfl|exact lz fun _=>rfl|exact S1.zz rfl)
end S9
end
section
open G4 G7 EV0 B1 B2 B3 S1 S4 S5 S6 S7 S8 S9
namespace PL
attribute [local irreducible] dst
structure Vd (l:Sq Of):Prop where
 n1:1<=l.n
 n64:l.n<=64
 lk:∀ i,i < l.n->∀ j,j < (l.f i).links.n->lst (l.f i).links j < (l.f i).links.f j/\(l.f i).links.f j < (l.n:Int)/\(l.f i).links.f j≠(i:Int)/\∃ q,q < (l.f ((l.f i).links.f j).toNat).links.n/\(l.f ((l.f i).links.f j).toNat).links.f q=(i:Int)
 co:∀ i,i < l.n->orB (coB (l.f i).codes) (l.f i).codes.n=false
 one:∀ i,i < l.n->i≠0->(l.f i).links.n≠0
 con:∀ i,i < l.n->dst (EO l) 0 i≠64
theorem Kz {l:Sq Of}:vdV l=true ↔ Vd l:=by
 constructor
 ·intro h
  unfold vdV at h
  simp only [Bool.and_eq_true,Bool.not_eq_true',Bool.or_eq_false_iff,decide_eq_false_iff_not] at h
  obtain ⟨⟨⟨h1,h2⟩,h3⟩,h4⟩:=h
  refine ⟨by omega,by omega,?_,?_,?_,fun i hi e=>h4 ⟨i,hi,by rw [e]; rfl⟩⟩
  ·intro i hi j hj
   have:=aS.1 h3 i hi
   unfold lE at this
   rw [Bool.or_eq_false_iff] at this
   have:=aS.1 this.1 j hj
   unfold lkB at this
   simp only [Bool.or_eq_false_iff,decide_eq_false_iff_not,Bool.not_eq_false',decide_eq_true_iff] at this
   obtain ⟨⟨⟨a,b⟩,c⟩,d⟩:=this
   exact ⟨by omega,by omega,c,d⟩
  ·intro i hi
   have:=aS.1 h3 i hi
   unfold lE at this
   rw [Bool.or_eq_false_iff,Bool.or_eq_false_iff] at this
   exact this.2.1
  ·intro i hi h0 he
   have:=aS.1 h3 i hi
   unfold lE at this
   rw [Bool.or_eq_false_iff,Bool.or_eq_false_iff] at this
   have:=this.2.2
   rw [he] at this
   simp at this
   omega
 ·intro h
  unfold vdV
  simp only [Bool.and_eq_true,Bool.not_eq_true',Bool.or_eq_false_iff,decide_eq_false_iff_not]
  have:=h.n1
  have:=h.n64
  refine ⟨⟨⟨by omega,by omega⟩,?_⟩,?_⟩
  ·refine aS.2 fun i hi=>?_
   unfold lE
   rw [Bool.or_eq_false_iff,Bool.or_eq_false_iff]
   refine ⟨aS.2 fun j hj=>?_,h.co i hi,?_⟩
   ·obtain ⟨a,b,c,d⟩:=h.lk i hi j hj
    unfold lkB
    simp only [Bool.or_eq_false_iff,decide_eq_false_iff_not,Bool.not_eq_false',decide_eq_true_iff]
    exact ⟨⟨⟨by omega,by omega⟩,c⟩,d⟩
   ·by_cases e:i=0
    ·subst e; rfl
    ·have:=h.one i hi e
     rw [show decide (((l.f i).links.n:Int)=0)=false from decide_eq_false (by omega),Bool.and_false]
  ·rintro ⟨i,hi,e⟩
   exact h.con i hi (by omega)
theorem Vd.rng {l:Sq Of} (h:Vd l) {i j:Nat} (hi:i < l.n) (hj:j < (l.f i).links.n):0<=(l.f i).links.f j/\(l.f i).links.f j < (l.n:Int):=by
 have hm:∀ j,j < (l.f i).links.n->0<=(l.f i).links.f j:=by
  intro j
  induction j with
  | zero=>intro hj; have:=(h.lk i hi 0 hj).1; unfold lst at this; rw [if_pos rfl] at this; omega
  | succ j ih =>
   intro hj
   have h1:=ih (by omega)
   have:=(h.lk i hi _ hj).1
   unfold lst at this
   rw [if_neg (by omega),show j+1 - 1=j by omega] at this
   omega
 exact ⟨hm j hj,(h.lk i hi j hj).2.1⟩
theorem Vd.inc {l:Sq Of} (h:Vd l) {i:Nat} (hi:i < l.n) {p q:Nat} (hpq:p < q) (hq:q < (l.f i).links.n):(l.f i).links.f p < (l.f i).links.f q:=by
 induction q with
 | zero=>omega
 | succ q ih =>
  have:=(h.lk i hi _ hq).1
  unfold lst at this
  rw [if_neg (by omega),show q+1 - 1=q by omega] at this
  by_cases e:p=q
  ·subst e; exact this
  ·have:=ih (by omega) (by omega); omega
theorem Vd.lt {l:Sq Of} (h:Vd l) {i k:Nat} (e:EO l i k):k < l.n:=by
 obtain ⟨hi,j,hj,e⟩:=e
 have:=(h.rng hi hj).2
 omega
theorem Vd.sym {l:Sq Of} (h:Vd l) {i k:Nat} (e:EO l i k):EO l k i:=by
 have hk:=h.lt e
 obtain ⟨hi,j,hj,e⟩:=e
 obtain ⟨_,_,_,q,h1,h2⟩:=h.lk i hi j hj
 rw [e] at h1 h2
 exact ⟨hk,q,h1,h2⟩
theorem Vd.far {l:Sq Of} (h:Vd l) {a b:Nat} (ha:a < l.n) (hb:b < l.n):dst (EO l) a b < l.n :=
 Ly (E:=EO l) (fun _ _=>h.sym) (fun _ _ e=>h.lt e) (fun i hi=>by have:=h.con i hi; have:=rJ (EO l) 0 i; omega) ha hb
theorem xB {l:Sq Of} (h:vdV l=true) {i j:Nat} (hi:i < l.n) (hj:j < l.n):dG l (i:Int) (j:Int)=true:=by
 unfold dG lD
 rw [h]
 simp only [Bool.and_true,Bool.not_eq_true',Bool.or_eq_false_iff,decide_eq_false_iff_not]
 omega
theorem Qp {l:Sq Of} (h:vdV l=true) {i j:Nat} (hi:i < l.n) (hj:j < l.n):tV l (i:Int) (j:Int)=(dst (EO l) i j:Int):=by
 unfold tV
 rw [if_pos (xB h hi hj)]
 rfl
end PL
end
section
open G4 G7 EV0 B1 B2 B3 S1 S4 S5 S6 S7 S8 S9 PL
namespace PL2
attribute [local irreducible] dst
theorem Vd.mk' {l:Sq Of} (n1:1<=l.n) (n64:l.n<=64) (inc:∀ i,i < l.n->∀ j,j < (l.f i).links.n->lst (l.f i).links j < (l.f i).links.f j)
  (hE:∀ i k,EO l i k->k < l.n/\k≠i/\EO l k i) (co:∀ i,i < l.n->orB (coB (l.f i).codes) (l.f i).codes.n=false)
  (one:∀ i,i < l.n->i≠0->(l.f i).links.n≠0) (con:∀ i,i < l.n->dst (EO l) 0 i≠64):Vd l:=by
 refine ⟨n1,n64,fun i hi j hj=>?_,co,one,con⟩
 have hm:∀ j,j < (l.f i).links.n->0<=(l.f i).links.f j:=by
  intro j
  induction j with
  | zero=>intro hj; have:=inc i hi 0 hj; unfold lst at this; rw [if_pos rfl] at this; omega
  | succ j ih =>
   intro hj
   have h1:=ih (by omega)
   have:=inc i hi _ hj
   unfold lst at this
   rw [if_neg (by omega),show j+1 - 1=j by omega] at this
   omega
 have h0:=hm j hj
 obtain ⟨k,hk⟩:∃ k:Nat,(l.f i).links.f j=(k:Int):=⟨((l.f i).links.f j).toNat,by omega⟩
 obtain ⟨h1,h2,h3,q,h4,h5⟩:=hE i k ⟨hi,j,hj,hk⟩
 refine ⟨inc i hi j hj,by omega,by omega,?_⟩
 rw [hk]
 exact ⟨q,h4,h5⟩
end PL2
end
section
open Go Go.Eng Go.Proofs G7 G4 L3 L10 G1 G3 EV0 B1 B2 S1 S2 S3 S4 S5 S6 S7 S9 PL PL2
set_option maxRecDepth 100000
namespace S36
attribute [local irreducible] dst
def c1:Sq B:=⟨1,fun _=>[99,49]⟩
def c2:Sq B:=⟨1,fun _=>[99,50]⟩
def c0:Sq B:=⟨0,fun _=>[]⟩
def lk (a b:Int):Sq Int:=⟨2,fun j=>if j=0 then a else b⟩
def of0:Of:=⟨lk 1 3,c0⟩
def of1:Of:=⟨lk 0 2,c1⟩
def of2:Of:=⟨lk 1 3,c2⟩
def of3:Of:=⟨lk 0 2,c1⟩
def l0f (i:Nat):Of:=if i=0 then of0 else if i=1 then of1 else if i=2 then of2 else of3
def l0:Sq Of:=⟨4,l0f⟩
def g26:List Nat:=[0]
def c26:aH :=
 .seq (.region g26 [(zo 0 (.move (.c (.nilsl))))]) (.seq (.region g26 [(zo 1 (.buildSl 3 1 2 (.cons (.int .i64 0) .nil) [(0,1,cj 1),(1,1,cj 3)])),(zo 2 (.build (.cons (.nilsl) (.cons (.nilsl) .nil)) [(0,1,.s 1)])),(zo 3 (.buildSl 3 1 2 (.cons (.int .i64 0) .nil) [(0,1,cj 0),(1,1,cj 2)])),(zo 4 (.buildSl 9 1 1 (.cons (.str []) .nil) [(0,1,.c (.str [99,49]))])),(zo 5 (.build (.cons (.nilsl) (.cons (.nilsl) .nil)) [(0,1,.s 3),(1,1,.s 4)])),(zo 6 (.buildSl 3 1 2 (.cons (.int .i64 0) .nil) [(0,1,cj 1),(1,1,cj 3)])),(zo 7 (.buildSl 9 1 1 (.cons (.str []) .nil) [(0,1,.c (.str [99,50]))])),(zo 8 (.build (.cons (.nilsl) (.cons (.nilsl) .nil)) [(0,1,.s 6),(1,1,.s 7)])),(zo 9 (.buildSl 3 1 2 (.cons (.int .i64 0) .nil) [(0,1,cj 0),(1,1,cj 2)])),(zo 10 (.buildSl 9 1 1 (.cons (.str []) .nil) [(0,1,.c (.str [99,49]))])),(zo 11 (.build (.cons (.nilsl) (.cons (.nilsl) .nil)) [(0,1,.s 9),(1,1,.s 10)])),(zo 12 (.buildSl 44 2 4 (.cons (.nilsl) (.cons (.nilsl) .nil)) [(0,2,.s 2),(2,2,.s 5),(4,2,.s 8),(6,2,.s 11)])),(mv 0 12)]) .ret)
theorem e26:aI Tryz.prog 26 g26 [] [] []=some (c26,[.slot 0],13):=by kernel_rfl
def Vy:Eng.Spec where
 X:=Unit
 args:=fun _=>.nil
 pre:=fun _=>True
 res:=fun _=>ofE l0
 inst:=fun _=>some ()
 fresh:=false
theorem R9:Vy.Ok Tryz.prog 26:=by
 refine Eng.Spec.okR e26 .nil (fun _=>[]) (fun _ _=>aA.nil) ?_
 rintro ⟨⟩ _
 refine ⟨trivial,?_⟩
 repeat' (first|apply And.intro|exact trivial|exact rfl)
theorem Iw (i:Nat):(l0f i).links.n=2:=by
 unfold l0f
 split
 ·rfl
 ·split
  ·rfl
  ·split <;> rfl
theorem kO (i k:Nat):EO l0 i k ↔ i < 4/\(((l0f i).links.f 0=(k:Int))\/((l0f i).links.f 1=(k:Int))):=by
 unfold EO
 constructor
 ·rintro ⟨h1,j,h2,h3⟩
  have h1:i < 4:=h1
  refine ⟨h1,?_⟩
  have h2:j < (l0f i).links.n:=h2
  have e:=Iw i
  have:j=0\/j=1:=by omega
  rcases this with rfl|rfl
  ·exact .inl h3
  ·exact .inr h3
 ·rintro ⟨h1,h2⟩
  have e:=Iw i
  rcases h2 with h2|h2
  ·exact ⟨h1,0,by show 0 < (l0f i).links.n; omega,h2⟩
  ·exact ⟨h1,1,by show 1 < (l0f i).links.n; omega,h2⟩
theorem E01:EO l0 0 1:=(kO 0 1).2 ⟨by decide,.inl rfl⟩
theorem E03:EO l0 0 3:=(kO 0 3).2 ⟨by decide,.inr rfl⟩
theorem E12:EO l0 1 2:=(kO 1 2).2 ⟨by decide,.inr rfl⟩
theorem E10:EO l0 1 0:=(kO 1 0).2 ⟨by decide,.inl rfl⟩
theorem E21:EO l0 2 1:=(kO 2 1).2 ⟨by decide,.inl rfl⟩
theorem E23:EO l0 2 3:=(kO 2 3).2 ⟨by decide,.inr rfl⟩
theorem E30:EO l0 3 0:=(kO 3 0).2 ⟨by decide,.inl rfl⟩
theorem E32:EO l0 3 2:=(kO 3 2).2 ⟨by decide,.inr rfl⟩
theorem W5:¬ EO l0 0 2:=fun h=>by
 have:=((kO 0 2).1 h).2
 rcases this with h|h
 ·exact absurd h (by decide)
 ·exact absurd h (by decide)
theorem irr0 (a:Nat):¬ EO l0 a a:=fun h=>by
 obtain ⟨h1,h2⟩:=(kO a a).1 h
 have:a=0\/a=1\/a=2\/a=3:=by omega
 rcases this with rfl|rfl|rfl|rfl <;> rcases h2 with h|h <;> exact absurd h (by decide)
theorem d00:dst (EO l0) 0 0=0:=yL _ _
theorem d01:dst (EO l0) 0 1=1:=(nU irr0).2 E01
theorem d03:dst (EO l0) 0 3=1:=(nU irr0).2 E03
theorem d02:dst (EO l0) 0 2=2:=by
 have h1:dst (EO l0) 0 2<=2:=sG (l:=2) ⟨1,⟨0,rfl,E01⟩,E12⟩
 have h2:dst (EO l0) 0 2≠0:=fun h=>absurd (yM.1 h) (by decide)
 have h3:dst (EO l0) 0 2≠1:=fun h=>W5 ((nU irr0).1 h)
 omega
theorem d21:dst (EO l0) 2 1=1:=(nU irr0).2 E21
theorem d23:dst (EO l0) 2 3=1:=(nU irr0).2 E23
theorem nm1:dL [99,49]=true:=by kernel_rfl
theorem nm2:dL [99,50]=true:=by kernel_rfl
theorem co0:orB (coB c0) c0.n=false:=rfl
theorem co1:orB (coB c1) c1.n=false:=by
 show (false || (!dL [99,49] || (decide ((0:Int) < ((0:Nat):Int)) && _)))=false
 rw [nm1]; rfl
theorem co2:orB (coB c2) c2.n=false:=by
 show (false || (!dL [99,50] || (decide ((0:Int) < ((0:Nat):Int)) && _)))=false
 rw [nm2]; rfl
theorem four {P:Nat->Prop} (h0:P 0) (h1:P 1) (h2:P 2) (h3:P 3):∀ i,i < 4->P i:=fun i hi=>by
 have:i=0\/i=1\/i=2\/i=3:=by omega
 rcases this with rfl|rfl|rfl|rfl
 ·exact h0
 ·exact h1
 ·exact h2
 ·exact h3
theorem vd0:vdV l0=true:=by
 refine Kz.2 (PL2.Vd.mk' (by decide) (by decide) ?_ ?_ ?_ ?_ ?_)
 ·refine four ?_ ?_ ?_ ?_ <;> (intro j hj; have hj:j < 2:=hj; have:j=0\/j=1:=by omega) <;> rcases this with rfl|rfl <;> decide
 ·intro i k e
  obtain ⟨h1,h2⟩:=(kO i k).1 e
  have:i=0\/i=1\/i=2\/i=3:=by omega
  rcases this with rfl|rfl|rfl|rfl
  ·rcases h2 with h|h
   ·have:k=1:=by have h:(1:Int)=k:=h; omega
    subst this; exact ⟨by decide,by decide,E10⟩
   ·have:k=3:=by have h:(3:Int)=k:=h; omega
    subst this; exact ⟨by decide,by decide,E30⟩
  ·rcases h2 with h|h
   ·have:k=0:=by have h:(0:Int)=k:=h; omega
    subst this; exact ⟨by decide,by decide,E01⟩
   ·have:k=2:=by have h:(2:Int)=k:=h; omega
    subst this; exact ⟨by decide,by decide,E21⟩
  ·rcases h2 with h|h
   ·have:k=1:=by have h:(1:Int)=k:=h; omega
    subst this; exact ⟨by decide,by decide,E12⟩
   ·have:k=3:=by have h:(3:Int)=k:=h; omega
    subst this; exact ⟨by decide,by decide,E32⟩
  ·rcases h2 with h|h
   ·have:k=0:=by have h:(0:Int)=k:=h; omega
    subst this; exact ⟨by decide,by decide,E03⟩
   ·have:k=2:=by have h:(2:Int)=k:=h; omega
    subst this; exact ⟨by decide,by decide,E23⟩
 ·exact four co0 co1 co2 co1
 ·refine four ?_ ?_ ?_ ?_ <;> intro _ <;> decide
 ·refine four ?_ ?_ ?_ ?_
  ·rw [d00]; decide
  ·rw [d01]; decide
  ·rw [d02]; decide
  ·rw [d03]; decide
theorem hop02:tV l0 0 2=2:=by
 have:=Qp vd0 (i:=0) (j:=2) (by decide) (by decide)
 rw [d02] at this
 exact this
theorem prp02:dG l0 0 2=true:=xB vd0 (i:=0) (j:=2) (by decide) (by decide)
theorem prp22:dG l0 2 2=true:=xB vd0 (i:=2) (j:=2) (by decide) (by decide)
theorem nxt02:Cl l0 0 2=1:=by
 have e1:(dst (EO l0) ((2:Int).toNat) ((1:Int)).toNat:Int)=1:=by rw [show ((2:Int).toNat)=2 from rfl,show ((1:Int)).toNat=1 from rfl,d21]; rfl
 have e3:(dst (EO l0) ((2:Int).toNat) ((3:Int)).toNat:Int)=1:=by rw [show ((2:Int).toNat)=2 from rfl,show ((3:Int)).toNat=3 from rfl,d23]; rfl
 show (lk 1 3).f (if (dst (EO l0) ((2:Int).toNat) ((3:Int)).toNat:Int) < (dst (EO l0) ((2:Int).toNat) ((1:Int)).toNat:Int) then 1 else 0)=1
 rw [e1,e3]
 rfl
theorem sv1:S8.svI l0 [99,49]=1:=rfl
theorem sv3:S8.svI l0 [99,51]=-1:=rfl
theorem sv2:S8.svI l0 [99,50]=2:=rfl
theorem vd3:vdV ⟨3,l0f⟩=false:=by
 cases h:vdV ⟨3,l0f⟩ with
 | false=>rfl
 | true =>
  have:=((Kz.1 h).lk 0 (by decide) 1 (by decide)).2.1
  exact absurd this (by decide)
end S36
end
section
open Go Go.Eng Go.Proofs F1 F2 F5 F6 F10 G7 G4 L3 L10 G1 G3 EV0 B1 B2 S1 S2 S3 S4 S5 S6 S7 S8 S10 S11 S12 S13 S14 S16 S17 S18 S20 S21 S23 S25 S26 S28 S30 S31 S32 S33 S36 PD
set_option maxRecDepth 100000
namespace S38
def bxp (j:Nat):Pt:=if j=0 then (0,0) else if j=1 then (9,0) else if j=2 then (9,9) else (0,9)
def nam0:Sq Nm:=⟨0,fun _=>⟨[],0,[]⟩⟩
def aft0:Sq B:=⟨0,fun _=>[]⟩
def rg0:Rn:=⟨[99,50],3,0,⟨4,bxp⟩,nam0,-1⟩
def sr0:Sr:=⟨[115],0,⟨2,bxp⟩,nam0,-1⟩
def bu0:Bu:=⟨[98],0,⟨4,bxp⟩,-1⟩
def dr0:Dr:=⟨[101],[98],[115],0,⟨1,[],0,0⟩,(2,2),0,-1,aft0,0,0,[]⟩
def dr1:Dr:=⟨[104],[],[],0,hn0,(0,0),0,-1,aft0,0,3,[120]⟩
def dr2:Dr:=⟨[105],[],[],0,hn0,(0,0),0,-1,aft0,0,9,[120]⟩
def drf (j:Nat):Dr:=if j=0 then dr0 else if j=1 then dr1 else dr2
def un0:Un:=⟨[],[],[],0,0,0⟩
def s0:Sta:=⟨⟨1,fun _=>rg0⟩,⟨1,fun _=>sr0⟩,⟨1,fun _=>bu0⟩,⟨3,drf⟩,⟨0,fun _=>un0⟩,pt0,pt0⟩
theorem fQ {s:B} {n:Nat} (h:s.length=n) (hn:n<=1000000):okT s:=by unfold okT; omega
theorem Ea:okS nam0 okN:=⟨Nat.zero_le _,fun i h=>absurd h (Nat.not_lt_zero i)⟩
theorem vK:okS aft0 okT:=⟨Nat.zero_le _,fun i h=>absurd h (Nat.not_lt_zero i)⟩
theorem Hv:∀ i,okD (drf i):=fun i=>by
 unfold drf
 split
 ·exact ⟨fQ (n:=1) rfl (by decide),fQ (n:=1) rfl (by decide),fQ (n:=1) rfl (by decide),cR,vK,cR⟩
 ·split <;> exact ⟨fQ (n:=1) rfl (by decide),cR,cR,cR,vK,fQ (n:=1) rfl (by decide)⟩
theorem Vz:kJ s0 :=
 ⟨⟨by show 1<=1000000; decide,fun _ _=>⟨fQ (n:=2) rfl (by decide),by show 4<=1000000; decide,Ea⟩⟩,⟨by show 1<=1000000; decide,fun _ _=>⟨fQ (n:=1) rfl (by decide),by show 2<=1000000; decide,Ea⟩⟩,
  ⟨by show 1<=1000000; decide,fun _ _=>⟨fQ (n:=1) rfl (by decide),by show 4<=1000000; decide⟩⟩,⟨by show 3<=1000000; decide,fun i _=>Hv i⟩,⟨Nat.zero_le _,fun i h=>absurd h (Nat.not_lt_zero i)⟩,Nat.zero_le _,Nat.zero_le _⟩
theorem vR:lW aft0=true:=(nT _).2 List.nodup_nil
theorem Vx:orB (rgB s0) 1=false:=by kernel_rfl
theorem Ki:orB (srB s0) 1=false:=by kernel_rfl
theorem Hi:orB (buB s0) 1=false:=by kernel_rfl
theorem wX:jV 0 (-1) 0=true:=by kernel_rfl
theorem st0:stA s0 0=false:=by
 unfold stA
 rw [show (s0.doors.f 0).after=aft0 from rfl,vR]
 kernel_rfl
theorem st1:stA s0 1=false:=by
 unfold stA
 rw [show (s0.doors.f 1).after=aft0 from rfl,vR]
 kernel_rfl
theorem st2:stA s0 2=false:=by
 unfold stA
 rw [show (s0.doors.f 2).after=aft0 from rfl,vR]
 kernel_rfl
theorem set0:dW s0 0=true:=by
 unfold dW
 rw [st0]
 kernel_rfl
theorem set1:dW s0 1=true:=by
 unfold dW
 rw [st1]
 kernel_rfl
theorem set2:dW s0 2=true:=by
 unfold dW
 rw [st2]
 kernel_rfl
theorem dro:orB (drB s0) 3=false:=by
 refine aS.2 fun i hi=>?_
 have:i=0\/i=1\/i=2:=by omega
 rcases this with rfl|rfl|rfl
 ·show (!jV 0 (-1) 0 || !dW s0 0)=false
  rw [set0,wX]; rfl
 ·show (!jV 0 (-1) 0 || !dW s0 1)=false
  rw [set1,wX]; rfl
 ·show (!jV 0 (-1) 0 || !dW s0 2)=false
  rw [set2,wX]; rfl
theorem ids0:liS (q5 s0)=[[99,50],[115],[98],[101],[104],[105]]:=by kernel_rfl
theorem dif0:lW (q5 s0)=true:=(nT _).2 (by rw [ids0]; decide)
theorem num0:rC s0=true:=by kernel_rfl
theorem pair0:fK s0=true:=by kernel_rfl
theorem pr0:prV s0=true:=by
 unfold prV prT
 rw [dif0,num0,pair0]
 show (!orB (rgB s0) 1 && (!orB (srB s0) 1 && (!orB (buB s0) 1 && (!orB (drB s0) 3 && (!orB (unB s0) 0 && _)))))=true
 rw [Vx,Ki,Hi,dro]
 rfl
theorem fd0:fdV s0 [101]=0:=by kernel_rfl
theorem fd1:fdV s0 [104]=1:=by kernel_rfl
theorem fd2:fdV s0 [105]=2:=by kernel_rfl
theorem lk0:lkL (iX s0) 3 (2,2) (iX s0).n=[[99,50]]:=by kernel_rfl
theorem lkk0:lkK (iX s0,3,(2,2))=true:=by kernel_rfl
theorem lkr0:lkR (iX s0,3,(2,2))=[[99,50]]:=by
 unfold lkR
 rw [if_pos lkk0]
 show bE (lkL (iX s0) 3 (2,2) (iX s0).n)=_
 rw [lk0]
 unfold bE
 exact List.mergeSort_singleton _
theorem one0:lF (iX s0,3,(2,2))=[99,50]:=by
 unfold lF
 rw [if_pos lkk0,lkr0]
 rfl
theorem ad0:adT s0 [101]=(vJ s0 dr0,0):=by
 unfold adT
 rw [if_pos pr0,fd0]
 rfl
theorem ad1:adT s0 [104]=(adr0,24):=by
 unfold adT
 rw [if_pos pr0,fd1]
 rfl
theorem ad2:adT s0 [105]=(adr0,24):=by
 unfold adT
 rw [if_pos pr0,fd2]
 rfl
theorem code0:(vJ s0 dr0).code=[99,50]:=one0
theorem tg0:tgT l0 s0 [101]=(2,0):=by
 unfold tgT
 rw [if_pos vd0,ad0,if_pos rfl]
 show xM l0 (vJ s0 dr0).code=_
 rw [code0]
 unfold xM
 rw [if_pos vd0,if_pos vd0,sv2]
 rfl
theorem tg1:tgT l0 s0 [104]=(3,0):=by
 unfold tgT
 rw [if_pos vd0,ad1,if_neg (by decide),if_pos rfl,fd1]
 rfl
theorem tg2:tgT l0 s0 [105]=(0,9):=by
 unfold tgT
 rw [if_pos vd0,ad2,if_neg (by decide),if_pos rfl,fd2]
 rfl
end S38
end
section
open Go Go.Eng Go.Proofs EV0 S1
namespace S39
def Og:Eng.Spec where
 X:=Unit
 args:=fun _=>.nil
 pre:=fun _=>True
 res:=fun _=>.bool true
 inst:=fun _=>some ()
end S39
end
