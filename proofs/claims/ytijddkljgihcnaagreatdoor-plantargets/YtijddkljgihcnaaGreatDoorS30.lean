/- A part of the proof. -/
import Derived.Test.YtijddkljgihcnaaGreatDoorS18
import Derived.Test.YtijddkljgihcnaaGreatDoorS13
open Go Go.Eng Go.Proofs F1 F2 F5 F6 F10 G7 G4 L3 L10 G1 G3 EV0 S1 S10 S11 S12 S13 S14 S15 S17 S18
set_option maxRecDepth 100000
namespace S30
def chn (s:Sta) (a:Int):Nat->Int
 | 0=>a
 | j+1=>tkV s (chn s a j)
def cyc (s:Sta) (a:Int):Bool:=!orB (fun j=>decide (chn s a j < 0)) (s.merged.n+2)
def prO (p:Pt):Bool:=(!jV p.1 0 0 || !jV p.2 0 0) || decide (p.1=p.2)
def prK (r:Pts):Nat->List (aK×Bool×Nat)
 | 0=>[]
 | k+1=>prK r k++[(.i .i64 (r.p k).2,true,(prK r k).length)]
def prB (r:Pts) (k:Nat):Bool:=prO (r.p k) || (mget (prK r k) (.i .i64 (r.p k).2)).isSome
def fK (s:Sta):Bool:=!orB (prB s.merged) s.merged.n && (!orB (fun k=>prO (s.rulings.p k)) s.rulings.n && !orB (fun k=>cyc s (s.merged.p k).2) s.merged.n)
theorem Mv {V:Type} {k:aK}:∀ {l:List (aK×V×Nat)},mget l k=none->∀ x∈l,x.1≠k:=by
 intro l
 induction l with
 | nil=>intro _ x hx; cases hx
 | cons y r ih =>
  intro h x hx
  simp only [mget] at h
  split at h
  ·cases h
  ·rename_i hy
   rcases List.mem_cons.1 hx with e|e
   ·rw [e]; exact hy
   ·exact ih h x e
theorem uV {V:Type} {k:aK} {v:V} {t:Nat}:∀ {l:List (aK×V×Nat)},mget l k=some (v,t)->(k,v,t)∈l:=by
 intro l
 induction l with
 | nil=>intro h; cases h
 | cons y r ih =>
  intro h
  simp only [mget] at h
  split at h
  ·rename_i hy
   have e:y=(k,v,t):=by rw [<- hy]; exact Prod.ext rfl (Option.some.inj h)
   rw [e]; exact List.mem_cons_self ..
  ·exact List.mem_cons_of_mem _ (ih h)
theorem Js {r:Pts}:∀ {k:Nat} {m:aK} {b:Bool} {t:Nat},mget (prK r k) m=some (b,t)->b=true:=by
 intro k m b t h
 have key:∀ k,∀ x∈prK r k,x.2.1=true:=by
  intro k
  induction k with
  | zero=>intro x hx; cases hx
  | succ k ih =>
   intro x hx
   rcases List.mem_append.1 hx with hx|hx
   ·exact ih x hx
   ·rw [List.mem_singleton.1 hx]
 exact key k (m,b,t) (uV h)
def Hh:SV->Option Bool
 | .bool b=>some b
 | _=>none
def yD (b:Bool):SV:=.bool b
theorem fX {l l':List (aK×Bool×Nat)} (h:l=l') (k:Keep) (hp:List (Nat×aG)) (m:Nat):∀ (i:Nat) (x y:aK×Bool×Nat),l[i]?=some x->l'[i]?=some y->x.1=y.1/\x.2.2=y.2.2/\sub k hp (m+1) (yD x.2.1) (yD y.2.1):=by
 subst h
 intro i x y hx hy
 rw [hx] at hy
 cases hy
 exact ⟨rfl,rfl,rfl⟩
abbrev ML:=List (aK×Bool×Nat)
structure P1 (s:Sta) (x:Nat×ML×Nat):Prop where
 a:x.1<=2
 z:x.1=0->x.2=([],0)
 b:1<=x.1->orB (prB s.merged) s.merged.n=false
 c:2<=x.1->orB (fun k=>prO (s.rulings.p k)) s.rulings.n=false
def pE (s:Sta):Nat->SV
 | 0=>.cons (rgE s.merged) .nil
 | _+1=>.cons (rgE s.rulings) .nil
theorem gF (k:Keep) (hp:List (Nat×aG)) (m:Nat) (s:Sta) (j:Nat) (hk:loose k=true):sub k hp (m+20) (pE s j) (pE s j):=by
 cases j <;> repeat' (first|exact hk|apply And.intro|exact trivial|exact rfl|exact lz fun _=>rfl)
def g51:List Nat:=[0,18,20,17,5,25,27,24,56,3,7,4,26,19,72,74,71,9,80,90,1,10,11,73,2]
def c51:aH :=
 .seq (.region g51 [(zo 1 (.box 30 (.s 0))),(zo 2 (.move cF))]) (.seq (.region g51 [(zo 12 (.mkmap (.i .i64))),(mv 3 12)]) (.seq (.seq (.region g51 [(fa 13 5 1),(ld 14 13),(fa 15 6 1),(ld 16 15),(zo 17 (.buildSl 28 1 2 (.cons (.nilsl) .nil) [(0,1,.s 14),(1,1,.s 16)])),(zo 18 (.lenSl (.s 17))),(zo 19 (.move (cj 0)))]) (.block 0 (.loop 0 [20,21,22,23,4,5,24,25,27,28,29,7,30,31,32,33,34,35,36,37,38,39,40,41,42,43,44,45,46,47,48,49,50,51,52,53,54,55,56,2,57,58,59,60,61,62,63,64,65,66,67,68,26,69,19] (.seq (.region g51 [(zo 20 (.bin (.lss) (.s 19) (.s 18)))]) (.seq (.cond (.s 20) .skip (.exit 0)) (.seq (.block 1 (.seq (.region g51 [(mv 21 19),(zo 22 (.idxSl 1 (.s 17) (.s 19))),(ld 23 22),(mv 4 21),(mv 5 23)]) (.seq (.region g51 [(mv 24 5),(zo 25 (.lenSl (.s 24))),(zo 26 (.move (cj 0)))]) (.block 2 (.loop 1 [27,28,29,7,30,31,32,33,34,35,36,37,38,39,40,41,42,43,44,45,46,47,48,49,50,51,52,53,54,55,56,2,57,58,59,60,61,62,63,64,65,66,67,68,26] (.seq (.region g51 [(zo 27 (.bin (.lss) (.s 26) (.s 25)))]) (.seq (.cond (.s 27) .skip (.exit 2)) (.seq (.block 3 (.seq (.region g51 [(zo 28 (.idxSl 2 (.s 24) (.s 26))),(zo 29 (.load 2 true (.s 28))),(zo 7 (.alloc 122 zPt)),⟨none,none,.store 2 (.s 7) (.s 29),[]⟩]) (.seq (.seq (.region g51 [(zo 30 (.idxArr 2 1 (.s 7) (cj 0))),(ld 31 30),(zo 32 (.call (.c (.fn 44)) [.s 31,cj 0,cj 0])),(zo 33 (.not (.s 32))),(mv 34 33),(zg 35 34 false (.idxArr 2 1 (.s 7) (cj 1))),(lg 36 34 false 35),(zg 37 34 false (.call (.c (.fn 44)) [.s 36,cj 0,cj 0])),(zg 38 34 false (.not (.s 37))),(zo 39 (.pick (.s 34) cT (.s 38))),(mv 40 39),(zg 41 40 false (.idxArr 2 1 (.s 7) (cj 0))),(lg 42 40 false 41),(zg 43 40 false (.idxArr 2 1 (.s 7) (cj 1))),(lg 44 40 false 43),(zg 45 40 false (.bin (.eql) (.s 42) (.s 44))),(zo 46 (.pick (.s 40) cT (.s 45))),(mv 47 46),(mg 48 47 false 4),(zg 49 47 false (.bin (.eql) (.s 48) (cj 0))),(mg 50 47 false 49),(mg 51 50 true 3),(zg 52 50 true (.idxArr 2 1 (.s 7) (cj 1))),(lg 53 50 true 52),(zg 54 50 true (.mlook (.bool false) false (.i .i64) (.s 51) (.s 53))),(zg 55 47 false (.pick (.s 50) (.s 54) cF)),(zo 56 (.pick (.s 47) cT (.s 55)))]) (.cond (.s 56) (.seq (.region g51 [(zo 2 (.move cF))]) .ret) .skip)) (.region g51 [(mv 57 3),(zo 58 (.idxArr 2 1 (.s 7) (cj 1))),(ld 59 58),(mv 60 3),(zo 61 (.idxArr 2 1 (.s 7) (cj 1))),(ld 62 61),(zo 63 (.mlook (.bool false) false (.i .i64) (.s 60) (.s 62))),(mv 64 63),(mg 65 64 false 4),(zg 66 64 false (.bin (.eql) (.s 65) (cj 0))),(zo 67 (.pick (.s 64) cT (.s 66))),⟨none,none,.mupd (.i .i64) (.s 57) (.s 59) (.s 67),[]⟩])))) (.region g51 [(zo 68 (.bin (.add) (.s 26) (cj 1))),(mv 26 68)]))))))))) (.region g51 [(zo 69 (.bin (.add) (.s 19) (cj 1))),(mv 19 69)]))))))) (.seq (.seq (.region g51 [(fa 70 5 1),(ld 71 70),(zo 72 (.lenSl (.s 71))),(zo 73 (.move (cj 0)))]) (.block 4 (.loop 2 [74,75,76,9,77,78,79,80,86,87,88,89,90,2,81,82,83,84,85,10,11,91,73] (.seq (.region g51 [(zo 74 (.bin (.lss) (.s 73) (.s 72)))]) (.seq (.cond (.s 74) .skip (.exit 4)) (.seq (.block 5 (.seq (.region g51 [(zo 75 (.idxSl 2 (.s 71) (.s 73))),(zo 76 (.load 2 true (.s 75))),(zo 9 (.alloc 122 zPt)),⟨none,none,.store 2 (.s 9) (.s 76),[]⟩]) (.seq (.region g51 [(zo 77 (.idxArr 2 1 (.s 9) (cj 1))),(ld 78 77),(mv 10 78),(zo 11 (.move (cj 0)))]) (.block 6 (.loop 3 [79,80,86,87,88,89,90,2,81,82,83,84,85,10,11] (.seq (.seq (.region g51 [(mv 79 10),(zo 80 (.bin (.geq) (.s 79) (cj 0)))]) (.cond (.s 80) .skip (.exit 6))) (.seq (.block 7 (.seq (.region g51 [(mv 86 11),(fa 87 5 1),(ld 88 87),(zo 89 (.lenSl (.s 88))),(zo 90 (.bin (.gtr) (.s 86) (.s 89)))]) (.cond (.s 90) (.seq (.region g51 [(zo 2 (.move cF))]) .ret) .skip))) (.region g51 [(zo 81 (.load 7 true (.s 1))),(mv 82 10),(zo 83 (.call (.c (.fn 72)) [.s 81,.s 82])),(mv 84 11),(zo 85 (.bin (.add) (.s 84) (cj 1))),(mv 10 83),(mv 11 85)])))))))) (.region g51 [(zo 91 (.bin (.add) (.s 73) (cj 1))),(mv 73 91)]))))))) (.seq (.region g51 [(zo 2 (.move cT))]) .ret))))
theorem e51:aI Tryz.prog 51 g51 [] [] []=some (c51,[.slot 2],92):=by kernel_rfl
def Vq:Eng.Spec where
 X:=Sta
 args:=fun x=>.cons (kM x) .nil
 pre:=fun x=>x.merged.n<=1000000/\x.rulings.n<=1000000
 res:=fun x=>.bool (fK x)
 inst:=EV0.one rF
set_option maxHeartbeats 16000000 in
theorem R6:Vq.Ok Tryz.prog 51:=by
 refine Eng.Spec.okR e51 .nil (fun _=>[(44,.p Rz),(72,.p Ws)]) (fun _ _=>aA.p Jl (aA.p Ta aA.nil)) ?_
 rintro (s:Sta) ⟨(hn:s.merged.n<=1000000),(hr:s.rulings.n<=1000000)⟩
 refine ⟨trivial,?_⟩
 repeat' (first|apply And.intro|exact trivial|exact rfl|exact lz fun _=>rfl|exact S1.zz rfl|refine gd ?_)
 refine ⟨⟨Nat×ML×Nat,P1 s,fun x=>[(19,.int .i64 (x.1:Int)),(17,.slice 1 2 (pE s))],fun x=>[(1,.map Bool (.i .i64) x.2.1 x.2.2 yD Hh)],fun x=>2 - x.1⟩,(0,[],0),⟨Nat.zero_le _,fun _=>rfl,fun h=>absurd h (by decide),fun h=>absurd h (by decide)⟩,?_,?_⟩
 ·repeat' (first|apply And.intro|exact trivial|exact rfl|exact lz fun _=>rfl|exact S1.zz rfl|refine gd ?_|exact fun (j:Nat) (hj:j < _)=>Or.inl (gF _ _ _ _ _ rfl))
  exact fun i x y (hx:([]:List (aK×SV×Nat))[i]?=some x)=>by cases hx
 rintro ⟨i,l,c⟩ ⟨(hi:i<=2),h0,h1,h2⟩
 have h3:i=0\/i=1\/i=2:=by omega
 rcases h3 with rfl|rfl|rfl
 ·cases h0 rfl
  clear h0 h1 h2 hi
  repeat' (first|apply And.intro|exact trivial|exact rfl|exact lz fun _=>rfl|exact S1.zz rfl|refine gd ?_)
  ·refine fun _=>?_
   have z0:(0:Int)<=((0:Nat):Int):=Int.le_refl _
   have z1:((0:Nat):Int) < ((2:Nat):Int):=by decide
   repeat' (first|with_reducible exact z0|with_reducible exact z1|apply And.intro|exact trivial|exact rfl|exact lz fun _=>rfl|exact S1.zz rfl|refine gd ?_)
   refine ⟨⟨Nat,fun k=>k<=s.merged.n/\orB (prB s.merged) k=false,fun k=>[(26,.int .i64 (k:Int))],fun k=>[(1,.map Bool (.i .i64) (prK s.merged k) (prK s.merged k).length yD Hh)],fun k=>s.merged.n - k⟩,0,⟨Nat.zero_le _,rfl⟩,?_,?_⟩
   ·repeat' (first|apply And.intro|exact trivial|exact rfl|exact lz fun _=>rfl|exact S1.zz rfl|refine gd ?_|exact fun (j:Nat) (hj:j < _)=>Or.inl (gF _ _ _ _ _ rfl)|exact fun i x y (hx:([]:List (aK×Bool×Nat))[i]?=some x)=>by cases hx)
   rintro (k:Nat) ⟨(hk:k<=s.merged.n),(hf:orB (prB s.merged) k=false)⟩
   repeat' (first|apply And.intro|exact trivial|exact rfl|exact lz fun _=>rfl|exact S1.zz rfl|refine gd ?_)
   ·refine fun (h:decide ((k:Int) < (s.merged.n:Int))=true)=>?_
    have hi1:(k:Int) < (s.merged.n:Int):=of_decide_eq_true h
    have hil:k < s.merged.n:=by omega
    have hi0:(0:Int)<=(k:Int):=by omega
    have b1:-9223372036854775808<=(k:Int)+1:=by omega
    have b2:(k:Int)+1<=9223372036854775807:=by omega
    have em:s.merged.n - (k+1) < s.merged.n - k:=by omega
    repeat' (first|with_reducible exact hi1|with_reducible exact hi0|apply And.intro|exact trivial|exact rfl|exact lz fun _=>rfl|exact S1.zz rfl|refine gd ?_)
    ·refine fun (hx:aE _ cT (.s 45) true _=false)=>?_
     have hx':=hx
     rw [aD,aD] at hx'
     have hpo:prO (s.merged.p k)=false:=hx'
     repeat' (first|apply And.intro|exact trivial|exact rfl|exact lz fun _=>rfl|exact S1.zz rfl|refine gd ?_)
     ·refine fun (_:decide _=true)=>?_
      repeat' (first|apply And.intro|exact trivial|exact rfl|exact lz fun _=>rfl|exact S1.zz rfl|refine gd ?_)
      refine dC.mk (fun (b:Bool) (t:Nat) (hm:mget (prK s.merged k) (.i .i64 (s.merged.p k).2)=some (b,t))=>?_) (fun (hm:mget (prK s.merged k) (.i .i64 (s.merged.p k).2)=none)=>?_)
      ·have hbt:=Js hm
       have hb:prB s.merged k=true:=by unfold prB; rw [hm]; simp
       have e:false=fK s:=by unfold fK; rw [aO.2 ⟨k,hil,hb⟩]; rfl
       repeat' (first|apply And.intro|exact trivial|exact rfl|exact lz fun _=>rfl|exact S1.zz rfl|refine gd ?_)
       ·refine fun _=>?_
        repeat' (first|exact e|apply And.intro|exact trivial|exact rfl|exact lz fun _=>rfl|exact S1.zz rfl|refine gd ?_)
       ·exact fun hc0=>by
         have h1:=hc0
         rw [aD,aD,aD,aF,hbt] at h1
         exact Bool.noConfusion (show true=false from (Bool.or_eq_false_iff.1 h1).2)
      ·have hb:prB s.merged k=false:=by unfold prB; rw [hm,hpo]; rfl
       have hf1:orB (prB s.merged) (k+1)=false:=by simp only [orB]; rw [hf,hb]; rfl
       have e1:prK s.merged k++[(.i .i64 (s.merged.p k).2,true,(prK s.merged k).length)]=prK s.merged (k+1):=rfl
       have e2:(prK s.merged k).length+1=(prK s.merged (k+1)).length:=by rw [<- e1,List.length_append]; rfl
       have e3:=congrArg List.length e1
       repeat' (first|apply And.intro|exact trivial|exact rfl|exact lz fun _=>rfl|exact S1.zz rfl|refine gd ?_)
       ·exact fun hc0=>by
         have h1:=hc0
         rw [aD,aD,aD,aF] at h1
         rcases Bool.or_eq_true_iff.1 h1 with h2|h2
         ·exact Bool.noConfusion (h2.symm.trans hx')
         ·exact Bool.noConfusion (show false=true from h2)
       ·refine fun _=>?_
        repeat' (first|apply And.intro|exact trivial|exact rfl|exact lz fun _=>rfl|exact S1.zz rfl|refine gd ?_)
        refine dC.jU hm ?_
        repeat' (first|apply And.intro|exact trivial|exact rfl|exact lz fun _=>rfl|exact S1.zz rfl|refine gd ?_)
        refine dC.jU hm ?_
        repeat' (first|with_reducible exact b1|with_reducible exact b2|apply And.intro|exact trivial|exact rfl|exact lz fun _=>rfl|exact S1.zz rfl|refine gd ?_)
        refine Exists.intro (k+1) (And.intro (And.intro hil hf1) ?_)
        repeat' (first|with_reducible exact em|apply And.intro|exact trivial|exact rfl|exact lz fun _=>rfl|exact S1.zz rfl|refine gd ?_|exact fun (j:Nat) (hj:j < _)=>Or.inl (gF _ _ _ _ _ rfl)|exact e2|exact e3|exact fX e1 _ _ _)
     ·exact fun h=>Bool.noConfusion (show true=false from h)
    ·refine fun (hx:aE _ cT (.s 45) true _=!false)=>?_
     have hx':=hx
     rw [aD,aD] at hx'
     have hpo:prO (s.merged.p k)=true:=hx'
     have hb:prB s.merged k=true:=by unfold prB; rw [hpo]; rfl
     have e:false=fK s:=by unfold fK; rw [aO.2 ⟨k,hil,hb⟩]; rfl
     repeat' (first|exact fun (hg:bD _ _ _ _)=>Bool.noConfusion (hx.symm.trans hg)|apply And.intro|exact trivial|exact rfl|exact lz fun _=>rfl|exact S1.zz rfl|refine gd ?_)
     ·refine fun _=>?_
      repeat' (first|exact e|apply And.intro|exact trivial|exact rfl|exact lz fun _=>rfl|exact S1.zz rfl|refine gd ?_)
     ·exact fun hc0=>by
       have h1:=hc0
       rw [aD] at h1
       exact Bool.noConfusion (hx.symm.trans (Bool.or_eq_false_iff.1 h1).1)
   ·refine fun (h:decide ((k:Int) < (s.merged.n:Int))=false)=>?_
    obtain rfl:k=s.merged.n:=by have:=of_decide_eq_false h; omega
    have w0:-9223372036854775808<=((0:Nat):Int)+1:=by decide
    have w1:((0:Nat):Int)+1<=9223372036854775807:=by decide
    repeat' (first|with_reducible exact w0|with_reducible exact w1|apply And.intro|exact trivial|exact rfl|exact lz fun _=>rfl|exact S1.zz rfl|refine gd ?_)
    have hp1:P1 s (1,prK s.merged s.merged.n,(prK s.merged s.merged.n).length):=⟨Nat.le_succ 1,fun (h:1=0)=>absurd h (by decide),fun _=>hf,fun (h:2<=1)=>absurd h (by decide)⟩
    have em1:2 - 1 < 2 - 0:=by decide
    refine Exists.intro (1,prK s.merged s.merged.n,(prK s.merged s.merged.n).length) (And.intro hp1 ?_)
    repeat' (first|exact em1|apply And.intro|exact trivial|exact rfl|exact lz fun _=>rfl|exact S1.zz rfl|refine gd ?_|exact fun (j:Nat) (hj:j < _)=>Or.inl (gF _ _ _ _ _ rfl)|exact fX rfl _ _ _)
  ·exact fun h=>Bool.noConfusion (show true=false from h)
 ·have hb:=h1 (Nat.le_refl 1)
  clear h0 h1 h2 hi
  repeat' (first|apply And.intro|exact trivial|exact rfl|exact lz fun _=>rfl|exact S1.zz rfl|refine gd ?_)
  ·refine fun _=>?_
   have z0:(0:Int)<=((1:Nat):Int):=by decide
   have z1:((1:Nat):Int) < ((2:Nat):Int):=by decide
   repeat' (first|with_reducible exact z0|with_reducible exact z1|apply And.intro|exact trivial|exact rfl|exact lz fun _=>rfl|exact S1.zz rfl|refine gd ?_)
   refine ⟨⟨Nat×ML×Nat,fun x=>x.1<=s.rulings.n/\orB (fun k=>prO (s.rulings.p k)) x.1=false,fun x=>[(26,.int .i64 (x.1:Int))],fun x=>[(1,.map Bool (.i .i64) x.2.1 x.2.2 yD Hh)],fun x=>s.rulings.n - x.1⟩,(0,l,c),⟨Nat.zero_le _,rfl⟩,?_,?_⟩
   ·repeat' (first|apply And.intro|exact trivial|exact rfl|exact lz fun _=>rfl|exact S1.zz rfl|refine gd ?_|exact fun (j:Nat) (hj:j < _)=>Or.inl (gF _ _ _ _ _ rfl)|exact fX rfl _ _ _)
   rintro ⟨k,l',c'⟩ ⟨(hk:k<=s.rulings.n),(hf:orB (fun k=>prO (s.rulings.p k)) k=false)⟩
   repeat' (first|apply And.intro|exact trivial|exact rfl|exact lz fun _=>rfl|exact S1.zz rfl|refine gd ?_)
   ·refine fun (h:decide ((k:Int) < (s.rulings.n:Int))=true)=>?_
    have hi1:(k:Int) < (s.rulings.n:Int):=of_decide_eq_true h
    have hil:k < s.rulings.n:=by omega
    have hi0:(0:Int)<=(k:Int):=by omega
    have b1:-9223372036854775808<=(k:Int)+1:=by omega
    have b2:(k:Int)+1<=9223372036854775807:=by omega
    have em:s.rulings.n - (k+1) < s.rulings.n - k:=by omega
    repeat' (first|with_reducible exact hi1|with_reducible exact hi0|apply And.intro|exact trivial|exact rfl|exact lz fun _=>rfl|exact S1.zz rfl|refine gd ?_)
    ·refine fun (hx:aE _ cT (.s 45) true _=false)=>?_
     have hx':=hx
     rw [aD,aD] at hx'
     have hpo:prO (s.rulings.p k)=false:=hx'
     have hf1:orB (fun k=>prO (s.rulings.p k)) (k+1)=false:=by simp only [orB]; rw [hf,hpo]; rfl
     repeat' (first|apply And.intro|exact trivial|exact rfl|exact lz fun _=>rfl|exact S1.zz rfl|refine gd ?_)
     ·exact fun h=>Bool.noConfusion (show false=true from h)
     ·refine fun _=>?_
      repeat' (first|apply And.intro|exact trivial|exact rfl|exact lz fun _=>rfl|exact S1.zz rfl|refine gd ?_)
      ·exact fun hc0=>by
        have h1:=hc0
        rw [aD] at h1
        rcases Bool.or_eq_true_iff.1 h1 with h2|h2
        ·exact Bool.noConfusion (h2.symm.trans hx)
        ·exact Bool.noConfusion h2
      ·refine fun _=>?_
       repeat' (first|apply And.intro|exact trivial|exact rfl|exact lz fun _=>rfl|exact S1.zz rfl|refine gd ?_)
       refine dC.mk (fun (b:Bool) (t:Nat) (hm:mget l' (.i .i64 (s.rulings.p k).2)=some (b,t))=>?_) (fun (hm:mget l' (.i .i64 (s.rulings.p k).2)=none)=>?_)
       ·repeat' (first|apply And.intro|exact trivial|exact rfl|exact lz fun _=>rfl|exact S1.zz rfl|refine gd ?_)
        refine dC.Nc hm ?_
        repeat' (first|with_reducible exact b1|with_reducible exact b2|apply And.intro|exact trivial|exact rfl|exact lz fun _=>rfl|exact S1.zz rfl|refine gd ?_)
        refine Exists.intro (k+1,mput l' (.i .i64 (s.rulings.p k).2) (aE b cT (.s 66) true (decide (((1:Nat):Int)=0))),c') (And.intro (And.intro hil hf1) ?_)
        repeat' (first|with_reducible exact em|apply And.intro|exact trivial|exact rfl|exact lz fun _=>rfl|exact S1.zz rfl|refine gd ?_|exact fun (j:Nat) (hj:j < _)=>Or.inl (gF _ _ _ _ _ rfl)|exact fX rfl _ _ _)
       ·repeat' (first|apply And.intro|exact trivial|exact rfl|exact lz fun _=>rfl|exact S1.zz rfl|refine gd ?_)
        refine dC.jU hm ?_
        repeat' (first|with_reducible exact b1|with_reducible exact b2|apply And.intro|exact trivial|exact rfl|exact lz fun _=>rfl|exact S1.zz rfl|refine gd ?_)
        refine Exists.intro (k+1,l'++[(.i .i64 (s.rulings.p k).2,aE false cT (.s 66) true (decide (((1:Nat):Int)=0)),c')],c'+1) (And.intro (And.intro hil hf1) ?_)
        repeat' (first|with_reducible exact em|apply And.intro|exact trivial|exact rfl|exact lz fun _=>rfl|exact S1.zz rfl|refine gd ?_|exact fun (j:Nat) (hj:j < _)=>Or.inl (gF _ _ _ _ _ rfl)|exact fX rfl _ _ _)
    ·refine fun (hx:aE _ cT (.s 45) true _=!false)=>?_
     have hx':=hx
     rw [aD,aD] at hx'
     have hpo:prO (s.rulings.p k)=true:=hx'
     have e:false=fK s:=by unfold fK; rw [aO.2 ⟨k,hil,hpo⟩]; simp
     repeat' (first|exact fun (hg:bD _ _ _ _)=>Bool.noConfusion (hx.symm.trans hg)|apply And.intro|exact trivial|exact rfl|exact lz fun _=>rfl|exact S1.zz rfl|refine gd ?_)
     ·refine fun _=>?_
      repeat' (first|exact e|apply And.intro|exact trivial|exact rfl|exact lz fun _=>rfl|exact S1.zz rfl|refine gd ?_)
     ·exact fun hc0=>by
       have h1:=hc0
       rw [aD] at h1
       exact Bool.noConfusion (hx.symm.trans (Bool.or_eq_false_iff.1 h1).1)
   ·refine fun (h:decide ((k:Int) < (s.rulings.n:Int))=false)=>?_
    obtain rfl:k=s.rulings.n:=by have:=of_decide_eq_false h; omega
    have w0:-9223372036854775808<=((1:Nat):Int)+1:=by decide
    have w1:((1:Nat):Int)+1<=9223372036854775807:=by decide
    repeat' (first|with_reducible exact w0|with_reducible exact w1|apply And.intro|exact trivial|exact rfl|exact lz fun _=>rfl|exact S1.zz rfl|refine gd ?_)
    have hp1:P1 s (2,l',c'):=⟨Nat.le_refl 2,fun (h:2=0)=>absurd h (by decide),fun _=>hb,fun _=>hf⟩
    have em1:2 - 2 < 2 - 1:=by decide
    refine Exists.intro (2,l',c') (And.intro hp1 ?_)
    repeat' (first|exact em1|apply And.intro|exact trivial|exact rfl|exact lz fun _=>rfl|exact S1.zz rfl|refine gd ?_|exact fun (j:Nat) (hj:j < _)=>Or.inl (gF _ _ _ _ _ rfl)|exact fX rfl _ _ _)
  ·exact fun h=>Bool.noConfusion (show true=false from h)
 ·have hb:=h1 (Nat.le_succ 1)
  have hc:=h2 (Nat.le_refl 2)
  clear h0 h1 h2 hi
  repeat' (first|apply And.intro|exact trivial|exact rfl|exact lz fun _=>rfl|exact S1.zz rfl|refine gd ?_)
  ·exact fun h=>Bool.noConfusion (show false=true from h)
  refine fun _=>?_
  repeat' (first|apply And.intro|exact trivial|exact rfl|exact lz fun _=>rfl|exact S1.zz rfl|refine gd ?_)
  refine ⟨⟨Nat,fun k=>k<=s.merged.n/\orB (fun k=>cyc s (s.merged.p k).2) k=false,fun k=>[(73,.int .i64 (k:Int))],fun _=>[],fun k=>s.merged.n - k⟩,0,⟨Nat.zero_le _,rfl⟩,?_,?_⟩
  ·repeat' (first|apply And.intro|exact trivial|exact rfl|exact lz fun _=>rfl|exact S1.zz rfl|refine gd ?_|exact fun (j:Nat) (hj:j < _)=>Or.inl (gF _ _ _ _ _ rfl)|exact fX rfl _ _ _)
  rintro (k:Nat) ⟨(hk:k<=s.merged.n),(hf:orB (fun k=>cyc s (s.merged.p k).2) k=false)⟩
  repeat' (first|apply And.intro|exact trivial|exact rfl|exact lz fun _=>rfl|exact S1.zz rfl|refine gd ?_)
  ·refine fun (h:decide ((k:Int) < (s.merged.n:Int))=true)=>?_
   have hi1:(k:Int) < (s.merged.n:Int):=of_decide_eq_true h
   have hil:k < s.merged.n:=by omega
   have hi0:(0:Int)<=(k:Int):=by omega
   have b1:-9223372036854775808<=(k:Int)+1:=by omega
   have b2:(k:Int)+1<=9223372036854775807:=by omega
   have em:s.merged.n - (k+1) < s.merged.n - k:=by omega
   repeat' (first|with_reducible exact hi1|with_reducible exact hi0|apply And.intro|exact trivial|exact rfl|exact lz fun _=>rfl|exact S1.zz rfl|refine gd ?_)
   refine ⟨⟨Nat,fun j=>j<=s.merged.n+1/\orB (fun q=>decide (chn s (s.merged.p k).2 q < 0)) j=false,fun j=>[(10,.int .i64 (chn s (s.merged.p (k:Int).toNat).2 j)),(11,.int .i64 (j:Int))],fun _=>[],fun j=>s.merged.n+2 - j⟩,0,⟨Nat.zero_le _,rfl⟩,?_,?_⟩
   ·repeat' (first|apply And.intro|exact trivial|exact rfl|exact lz fun _=>rfl|exact S1.zz rfl|refine gd ?_|exact fun (j:Nat) (hj:j < _)=>Or.inl (gF _ _ _ _ _ rfl)|exact fX rfl _ _ _)
   rintro (j:Nat) ⟨(hj:j<=s.merged.n+1),(hg:orB (fun q=>decide (chn s (s.merged.p k).2 q < 0)) j=false)⟩
   have w0:-9223372036854775808<=(j:Int)+1:=by omega
   have w1:(j:Int)+1<=9223372036854775807:=by omega
   repeat' (first|apply And.intro|exact trivial|exact rfl|exact lz fun _=>rfl|exact S1.zz rfl|refine gd ?_)
   ·refine fun (hc:decide (0<=chn s (s.merged.p (k:Int).toNat).2 j)=true)=>?_
    have hc':0<=chn s (s.merged.p k).2 j:=of_decide_eq_true hc
    have hg1:orB (fun q=>decide (chn s (s.merged.p k).2 q < 0)) (j+1)=false:=by
     simp only [orB]
     rw [hg,Bool.false_or]
     exact decide_eq_false (by omega)
    repeat' (first|exact hn|with_reducible exact w0|with_reducible exact w1|apply And.intro|exact trivial|exact rfl|exact lz fun _=>rfl|exact S1.zz rfl|refine gd ?_)
    ·refine fun (hd:decide ((s.merged.n:Int) < (j:Int))=true)=>?_
     have hjn:j=s.merged.n+1:=by have:=of_decide_eq_true hd; omega
     have hcy:cyc s (s.merged.p k).2=true:=by
      unfold cyc
      rw [hjn] at hg1
      rw [hg1]; rfl
     have e:false=fK s:=by unfold fK; rw [aO (f:=fun k=>cyc s (s.merged.p k).2).2 ⟨k,hil,hcy⟩]; simp
     repeat' (first|exact e|apply And.intro|exact trivial|exact rfl|exact lz fun _=>rfl|exact S1.zz rfl|refine gd ?_)
    ·refine fun (hd:decide ((s.merged.n:Int) < (j:Int))=false)=>?_
     have hjn:j+1<=s.merged.n+1:=by have:=of_decide_eq_false hd; omega
     have em2:s.merged.n+2 - (j+1) < s.merged.n+2 - j:=by omega
     repeat' (first|exact hn|with_reducible exact w0|with_reducible exact w1|apply And.intro|exact trivial|exact rfl|exact lz fun _=>rfl|exact S1.zz rfl|refine gd ?_)
     refine Exists.intro (j+1) (And.intro (And.intro hjn hg1) ?_)
     repeat' (first|with_reducible exact em2|apply And.intro|exact trivial|exact rfl|exact lz fun _=>rfl|exact S1.zz rfl|refine gd ?_|exact fun (j:Nat) (hj:j < _)=>Or.inl (gF _ _ _ _ _ rfl)|exact fX rfl _ _ _)
   ·refine fun (hc:decide (0<=chn s (s.merged.p (k:Int).toNat).2 j)=false)=>?_
    have hc':¬ 0<=chn s (s.merged.p k).2 j:=of_decide_eq_false hc
    have hcy:cyc s (s.merged.p k).2=false:=by
     unfold cyc
     rw [aO.2 ⟨j,by omega,decide_eq_true (by omega)⟩]; rfl
    have hf1:orB (fun k=>cyc s (s.merged.p k).2) (k+1)=false:=by simp only [orB]; rw [hf,hcy]; rfl
    repeat' (first|with_reducible exact b1|with_reducible exact b2|apply And.intro|exact trivial|exact rfl|exact lz fun _=>rfl|exact S1.zz rfl|refine gd ?_)
    refine Exists.intro (k+1) (And.intro (And.intro hil hf1) ?_)
    repeat' (first|with_reducible exact em|apply And.intro|exact trivial|exact rfl|exact lz fun _=>rfl|exact S1.zz rfl|refine gd ?_|exact fun (j:Nat) (hj:j < _)=>Or.inl (gF _ _ _ _ _ rfl)|exact fX rfl _ _ _)
  refine fun (h:decide ((k:Int) < (s.merged.n:Int))=false)=>?_
  obtain rfl:k=s.merged.n:=by have:=of_decide_eq_false h; omega
  have e:true=fK s:=by unfold fK; rw [hb,hc,hf]; rfl
  repeat' (first|exact e|apply And.intro|exact trivial|exact rfl|exact lz fun _=>rfl|exact S1.zz rfl|refine gd ?_)
end S30
