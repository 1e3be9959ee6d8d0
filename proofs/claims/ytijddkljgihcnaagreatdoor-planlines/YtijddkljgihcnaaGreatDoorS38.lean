/- A part of the proof. -/
import Derived.Test.YtijddkljgihcnaaGreatDoorS20
import Derived.Test.YtijddkljgihcnaaGreatDoorS33
import Derived.Test.YtijddkljgihcnaaGreatDoorS40
section
open Go.Eng G4 G7 EV0 S16 S20
namespace PD
theorem Ol (f:Nat->B):∀ n,(ddL f n).length<=n/\((ddL f n).length=n ↔ ∀ m,1<=m->m < n->f m≠f (m - 1)):=by
 intro n
 induction n with
 | zero=>exact ⟨Nat.le_refl _,fun _ m _ h=>absurd h (Nat.not_lt_zero m),fun _=>rfl⟩
 | succ n ih =>
  obtain ⟨h1,h2⟩:=ih
  unfold ddL
  split
  ·rename_i e
   subst e
   exact ⟨Nat.le_refl _,fun _ m h3 h4=>by omega,fun _=>rfl⟩
  ·split
   ·rename_i e0 e
    refine ⟨by omega,fun h=>by omega,fun h=>absurd e (h n (by omega) (by omega))⟩
   ·rename_i e0 e
    rw [List.length_append,List.length_singleton]
    refine ⟨by omega,fun h m h3 h4=>?_,fun h=>?_⟩
    ·by_cases e2:m=n
     ·rw [e2]; exact e
     ·exact h2.1 (by omega) m h3 (by omega)
    ·have:=h2.2 fun m h3 h4=>h m h3 (by omega)
     omega
theorem Q6 (l:List B):(aZ l).Pairwise (fun a b=>a<=b):=by
 have:=List.pairwise_mergeSort (le:=fun x y:B=>decide (x<=y)) (fun a b c h1 h2=>decide_eq_true (List.le_trans (of_decide_eq_true h1) (of_decide_eq_true h2)))
  (fun a b=>by
   rcases List.le_total a b with h|h
   ·simp [h]
   ·simp [h]) l
 exact this.imp fun h=>of_decide_eq_true h
theorem Jg (l:List B):(aZ l).Perm l:=List.mergeSort_perm l _
theorem nodup_iff (l:List B):(∀ m,1<=m->m < l.length->(aZ l).getD m []≠(aZ l).getD (m - 1) []) ↔ l.Nodup:=by
 rw [<- (Jg l).nodup_iff]
 have hl:=wK l
 have hs:=Q6 l
 revert hl hs
 generalize aZ l=s
 intro hl hs
 have at_:∀ i (h:i < s.length),s.getD i []=s[i]:=fun i h=>by rw [List.getD_eq_getElem?_getD,List.getElem?_eq_getElem h]; rfl
 constructor
 ·intro h
  refine List.pairwise_iff_getElem.2 fun i j hi hj hij e=>?_
  have hj1:j - 1 < s.length:=by omega
  have h1:=h j (by omega) (by omega)
  rw [at_ j hj,at_ (j - 1) hj1] at h1
  apply h1
  have h2:s[j - 1]<=s[j]:=List.pairwise_iff_getElem.1 hs _ _ hj1 hj (by omega)
  by_cases e2:i=j - 1
  ·subst e2; exact e.symm
  ·have h3:s[i]<=s[j - 1]:=List.pairwise_iff_getElem.1 hs _ _ hi hj1 (by omega)
   rw [e] at h3
   exact List.le_antisymm h3 h2
 ·intro h m h1 h2 e
  have hm:m < s.length:=by omega
  have hm1:m - 1 < s.length:=by omega
  rw [at_ m hm,at_ (m - 1) hm1] at e
  exact List.pairwise_iff_getElem.1 h (m - 1) m hm1 hm (by omega) e.symm
theorem qN (x:Sq B):nC x=true ↔ (liS x).Nodup:=by
 unfold nC
 rw [decide_eq_true_iff,<- nodup_iff,Dd]
 have:=(Ol (srQ x).f x.n).2
 exact ⟨fun h=>this.1 (by omega),fun h=>by have:=this.2 h; omega⟩
end PD
end
section
open Go Go.Eng Go.Proofs F1 F2 F5 F6 F10 G7 G4 L3 L10 G1 G3 EV0 B1 B2 S1 S2 S3 S4 S5 S6 S7 S8 S10 S11 S12 S13 S14 S16 S17 S18 S20 S21 S23 S25 S26 S28 S30 S31 S32 S33 S36 PD
set_option maxRecDepth 100000
namespace S38
def bxp (j:Nat):Pt:=if j=0 then (0,0) else if j=1 then (9,0) else if j=2 then (9,9) else (0,9)
def nam0:Sq Nm:=⟨0,fun _=>⟨[],0,[]⟩⟩
def aft0:Sq B:=⟨0,fun _=>[]⟩
def rg0:Rn:=⟨[99,50],3,0,⟨4,bxp⟩,nam0,-1⟩
def sr0:Sr:=⟨[115],0,⟨2,bxp⟩,nam0,-1⟩
def bu0:Bu:=⟨[98],0,⟨4,bxp⟩,-1⟩
def dr0:Dr:=⟨[101],[98],[115],0,⟨1,[],0,0⟩,(2,2),0,-1,aft0,0,0,[]⟩
def dr1:Dr:=⟨[104],[],[],0,hn0,(0,0),0,-1,aft0,0,3,[120]⟩
def dr2:Dr:=⟨[105],[],[],0,hn0,(0,0),0,-1,aft0,0,9,[120]⟩
def drf (j:Nat):Dr:=if j=0 then dr0 else if j=1 then dr1 else dr2
def un0:Un:=⟨[],[],[],0,0,0⟩
def s0:Sta:=⟨⟨1,fun _=>rg0⟩,⟨1,fun _=>sr0⟩,⟨1,fun _=>bu0⟩,⟨3,drf⟩,⟨0,fun _=>un0⟩,pt0,pt0⟩
theorem fM {s:B} {n:Nat} (h:s.length=n) (hn:n<=1000000):okT s:=by unfold okT; omega
theorem Dg:okS nam0 okN:=⟨Nat.zero_le _,fun i h=>absurd h (Nat.not_lt_zero i)⟩
theorem uM:okS aft0 okT:=⟨Nat.zero_le _,fun i h=>absurd h (Nat.not_lt_zero i)⟩
theorem Gm:∀ i,okD (drf i):=fun i=>by
 unfold drf
 split
 ·exact ⟨fM (n:=1) rfl (by decide),fM (n:=1) rfl (by decide),fM (n:=1) rfl (by decide),cO,uM,cO⟩
 ·split <;> exact ⟨fM (n:=1) rfl (by decide),cO,cO,cO,uM,fM (n:=1) rfl (by decide)⟩
theorem Uj:oW s0 :=
 ⟨⟨by show 1<=1000000; decide,fun _ _=>⟨fM (n:=2) rfl (by decide),by show 4<=1000000; decide,Dg⟩⟩,⟨by show 1<=1000000; decide,fun _ _=>⟨fM (n:=1) rfl (by decide),by show 2<=1000000; decide,Dg⟩⟩,
  ⟨by show 1<=1000000; decide,fun _ _=>⟨fM (n:=1) rfl (by decide),by show 4<=1000000; decide⟩⟩,⟨by show 3<=1000000; decide,fun i _=>Gm i⟩,⟨Nat.zero_le _,fun i h=>absurd h (Nat.not_lt_zero i)⟩,Nat.zero_le _,Nat.zero_le _⟩
theorem uT:nC aft0=true:=(qN _).2 List.nodup_nil
theorem Uh:orB (rgB s0) 1=false:=by kernel_rfl
theorem Jf:orB (srB s0) 1=false:=by kernel_rfl
theorem Gb:orB (buB s0) 1=false:=by kernel_rfl
theorem vX:jI 0 (-1) 0=true:=by kernel_rfl
theorem st0:stA s0 0=false:=by
 unfold stA
 rw [show (s0.doors.f 0).after=aft0 from rfl,uT]
 kernel_rfl
theorem st1:stA s0 1=false:=by
 unfold stA
 rw [show (s0.doors.f 1).after=aft0 from rfl,uT]
 kernel_rfl
theorem st2:stA s0 2=false:=by
 unfold stA
 rw [show (s0.doors.f 2).after=aft0 from rfl,uT]
 kernel_rfl
theorem set0:eH s0 0=true:=by
 unfold eH
 rw [st0]
 kernel_rfl
theorem set1:eH s0 1=true:=by
 unfold eH
 rw [st1]
 kernel_rfl
theorem set2:eH s0 2=true:=by
 unfold eH
 rw [st2]
 kernel_rfl
theorem dro:orB (drB s0) 3=false:=by
 refine bF.2 fun i hi=>?_
 have:i=0\/i=1\/i=2:=by omega
 rcases this with rfl|rfl|rfl
 ·show (!jI 0 (-1) 0 || !eH s0 0)=false
  rw [set0,vX]; rfl
 ·show (!jI 0 (-1) 0 || !eH s0 1)=false
  rw [set1,vX]; rfl
 ·show (!jI 0 (-1) 0 || !eH s0 2)=false
  rw [set2,vX]; rfl
theorem ids0:liS (q5 s0)=[[99,50],[115],[98],[101],[104],[105]]:=by kernel_rfl
theorem dif0:nC (q5 s0)=true:=(qN _).2 (by rw [ids0]; decide)
theorem num0:vR s0=true:=by kernel_rfl
theorem pair0:gS s0=true:=by kernel_rfl
theorem pr0:prV s0=true:=by
 unfold prV prT
 rw [dif0,num0,pair0]
 show (!orB (rgB s0) 1 && (!orB (srB s0) 1 && (!orB (buB s0) 1 && (!orB (drB s0) 3 && (!orB (unB s0) 0 && _)))))=true
 rw [Uh,Jf,Gb,dro]
 rfl
theorem fd0:fdV s0 [101]=0:=by kernel_rfl
theorem fd1:fdV s0 [104]=1:=by kernel_rfl
theorem fd2:fdV s0 [105]=2:=by kernel_rfl
theorem lk0:lkL (iJ s0) 3 (2,2) (iJ s0).n=[[99,50]]:=by kernel_rfl
theorem lkk0:lkK (iJ s0,3,(2,2))=true:=by kernel_rfl
theorem lkr0:lkR (iJ s0,3,(2,2))=[[99,50]]:=by
 unfold lkR
 rw [if_pos lkk0]
 show aZ (lkL (iJ s0) 3 (2,2) (iJ s0).n)=_
 rw [lk0]
 unfold aZ
 exact List.mergeSort_singleton _
theorem one0:kP (iJ s0,3,(2,2))=[99,50]:=by
 unfold kP
 rw [if_pos lkk0,lkr0]
 rfl
theorem ad0:adT s0 [101]=(wX s0 dr0,0):=by
 unfold adT
 rw [if_pos pr0,fd0]
 rfl
theorem ad1:adT s0 [104]=(adr0,24):=by
 unfold adT
 rw [if_pos pr0,fd1]
 rfl
theorem ad2:adT s0 [105]=(adr0,24):=by
 unfold adT
 rw [if_pos pr0,fd2]
 rfl
theorem code0:(wX s0 dr0).code=[99,50]:=one0
theorem tg0:tgT l0 s0 [101]=(2,0):=by
 unfold tgT
 rw [if_pos vd0,ad0,if_pos rfl]
 show E9 l0 (wX s0 dr0).code=_
 rw [code0]
 unfold E9
 rw [if_pos vd0,if_pos vd0,sv2]
 rfl
theorem tg1:tgT l0 s0 [104]=(3,0):=by
 unfold tgT
 rw [if_pos vd0,ad1,if_neg (by decide),if_pos rfl,fd1]
 rfl
theorem tg2:tgT l0 s0 [105]=(0,9):=by
 unfold tgT
 rw [if_pos vd0,ad2,if_neg (by decide),if_pos rfl,fd2]
 rfl
end S38
end
