/- A part of the proof. -/
import Derived.Test.YtijddkljgihcnaaGreatDoorS13
import Derived.Test.YtijddkljgihcnaaGreatDoorL5
open Go Go.Eng Go.Proofs G1 G3 EV0 B1 B2 S1
set_option maxRecDepth 100000
namespace S2
attribute [local irreducible] dst
def g31:List Nat:=[11,6,10,1,22,0,32,34,31,40,9,33,7,5,4]
def c31:aH :=
 .seq (.region g31 [(zo 4 (.alloc 76 (.zeros .i64 64 .nil)))]) (.seq (.region g31 [(zo 5 (.alloc 76 (.zeros .i64 64 .nil)))]) (.seq (.seq (.region g31 [(zo 10 (.move (cj 0)))]) (.block 0 (.loop 0 [11,12,6,13,14,15,10] (.seq (.region g31 [(zo 11 (.bin (.lss) (.s 10) (cj 64)))]) (.seq (.cond (.s 11) .skip (.exit 0)) (.seq (.block 1 (.seq (.region g31 [(mv 12 10),(mv 6 12)]) (.region g31 [(mv 13 6),(zo 14 (.idxArr 64 1 (.s 5) (.s 13))),⟨none,none,.store 1 (.s 14) (cj 64),[]⟩]))) (.region g31 [(zo 15 (.bin (.add) (.s 10) (cj 1))),(mv 10 15)]))))))) (.seq (.region g31 [(mv 16 1),(zo 17 (.idxArr 64 1 (.s 5) (.s 16))),⟨none,none,.store 1 (.s 17) (cj 0),[]⟩]) (.seq (.seq (.region g31 [(mv 18 1),(zo 19 (.buildSl 3 1 1 (.cons (.int .i64 0) .nil) [(0,1,.s 18)])),(mv 7 19)]) (.block 2 (.loop 1 [20,21,22,25,26,27,28,29,30,31,32,34,35,36,9,37,38,39,40,41,42,43,44,45,46,47,48,49,50,51,52,53,33,23,24,7] (.seq (.seq (.region g31 [(mv 20 7),(zo 21 (.lenSl (.s 20))),(zo 22 (.bin (.gtr) (.s 21) (cj 0)))]) (.cond (.s 22) .skip (.exit 2))) (.seq (.block 3 (.seq (.region g31 [(mv 25 0),(mv 26 7),(zo 27 (.idxSl 1 (.s 26) (cj 0))),(ld 28 27),(zo 29 (.idxSl 2 (.s 25) (.s 28))),(fa 30 0 29),(ld 31 30),(zo 32 (.lenSl (.s 31))),(zo 33 (.move (cj 0)))]) (.block 4 (.loop 2 [34,35,36,9,37,38,39,40,41,42,43,44,45,46,47,48,49,50,51,52,7,53,33] (.seq (.region g31 [(zo 34 (.bin (.lss) (.s 33) (.s 32)))]) (.seq (.cond (.s 34) .skip (.exit 4)) (.seq (.block 5 (.seq (.region g31 [(zo 35 (.idxSl 1 (.s 31) (.s 33))),(ld 36 35),(mv 9 36)]) (.seq (.region g31 [(mv 37 9),(zo 38 (.idxArr 64 1 (.s 5) (.s 37))),(ld 39 38),(zo 40 (.bin (.eql) (.s 39) (cj 64)))]) (.cond (.s 40) (.seq (.region g31 [(mv 41 9),(mv 42 7),(zo 43 (.idxSl 1 (.s 42) (cj 0))),(ld 44 43),(zo 45 (.idxArr 64 1 (.s 5) (.s 44))),(ld 46 45),(zo 47 (.bin (.add) (.s 46) (cj 1))),(zo 48 (.idxArr 64 1 (.s 5) (.s 41))),⟨none,none,.store 1 (.s 48) (.s 47),[]⟩]) (.region g31 [(mv 49 7),(mv 50 9),(zo 51 (.buildSl 3 1 1 (.cons (.int .i64 0) .nil) [(0,1,.s 50)])),(zo 52 (.app 3 1 8 (.s 49) (.s 51))),(mv 7 52)])) .skip)))) (.region g31 [(zo 53 (.bin (.add) (.s 33) (cj 1))),(mv 33 53)])))))))) (.region g31 [(mv 23 7),(zo 24 (.sliceSl 1 (.s 23) (some (cj 1)) none)),(mv 7 24)])))))) (.seq (.region g31 [(zo 54 (.load 64 true (.s 5))),⟨none,none,.store 64 (.s 4) (.s 54),[]⟩]) .ret)))))
theorem e31:aI Tryz.prog 31 g31 [] [] []=some (c31,[.cell 4 64 true],55):=by kernel_rfl
theorem rY {a b:Nat} (h:¬ a=b):Nat.beq a b=false:=by
 cases e:Nat.beq a b with
 | false=>rfl
 | true=>exact absurd (Nat.eq_of_beq_eq_true e) h
theorem nxt1 {g:Nat->Int} {lo h k i:Nat} {t:List Nat} (hg:∀ i,i < t.length+1->g (lo+i)=((h::t).getD i 0:Int)) (hi:i < t.length+1+1) {c:Prop} [Decidable c] (hc:c ↔ i < t.length+1):(if c then g (lo+i) else (k:Int))=((h::(t++[k])).getD i 0:Int):=by
 by_cases h1:i < t.length+1
 ·rw [if_pos (hc.2 h1),hg i h1,<- List.cons_append]
  rw [List.getD_eq_getElem?_getD,List.getD_eq_getElem?_getD,List.getElem?_append_left (by simpa using h1)]
 ·have e:i=t.length+1:=by omega
  rw [if_neg (fun h2=>h1 (hc.1 h2)),<- List.cons_append,List.getD_eq_getElem?_getD,List.getElem?_append_right (by simp; omega)]
  subst e
  simp
theorem apE {n k:Nat} {g:Nat->Int} {z:Int} (hz:z=(k:Int)) (i:Nat) (hi:i < n+1):cU n (fun j=>inL (g j)) (fun j=>aJ (.cons (.cons (.int .i64 z) .nil) .nil) (0+j)) i=inL (if i < n then g i else (k:Int)):=by
 unfold cU
 by_cases h:i < n
 ·rw [show Nat.blt i n=true from Nat.ble_eq_true_of_le h,cond_true,if_pos h]
 ·have e:i=n:=by omega
  have hb:Nat.blt i n=false:=by
   cases hb:Nat.blt i n with
   | false=>rfl
   | true=>exact absurd (Nat.le_of_ble_eq_true hb) h
  rw [hb,cond_false,if_neg h,e,Nat.sub_self,<- hz]
  rfl
theorem V1 {k q v u:Nat} {f:Nat->Nat} (hq:q=k) (hu:u=v) (i:Nat):(bif Nat.beq i (q+0) then (u:Int)+1 else (f i:Int))=((if i=k then v+1 else f i:Nat):Int):=by
 subst hq hu
 by_cases e:i=q
 ·subst e
  rw [if_pos rfl,show Nat.beq i (i+0)=true from Nat.beq_refl i]
  rfl
 ·rw [if_neg e,show Nat.beq i (q+0)=false from rY (by show ¬ i=q; exact e)]
  rfl
theorem zH {f:Nat->Nat} {k v:Nat} {q:List Nat} (hk:k < 64) (h64:f k=64) (hv:(if k=k then v else f k) < 64):left (fun i=>if i=k then v else f i) (q++[k])<=left f q:=by
 rw [if_pos rfl] at hv
 have e:cnt (B2.fnd fun i=>if i=k then v else f i) 64=cnt (B2.fnd f) 64+1:=by
  rw [<- vQ hk (show B2.fnd f k=false by unfold B2.fnd; rw [h64]; rfl)]
  refine oZ fun i _=>?_
  by_cases e:i=k
  ·subst e; simp [B2.fnd,hv]
  ·simp [B2.fnd,e]
 have:=Bc (fnd fun i=>if i=k then v else f i) 64
 unfold left
 rw [e,List.length_append]
 simp
 omega
noncomputable def Nr:Eng.Spec where
 X:=Sq Of×Int
 args:=fun x=>.cons (ofE x.1) (.cons (.int .i64 x.2) .nil)
 pre:=fun x=>Ac x.1/\(0<=x.2/\x.2 < (x.1.n:Int))
 res:=fun x=>.agg (.ints .i64 64 (fun i=>(dst (EO x.1) x.2.toNat i:Int)) .nil)
 inst:=EV0.two ofD tY
abbrev Q:=(Nat->Nat)×List Nat×Nat×(Nat->Int)
theorem C8:Nr.Ok Tryz.prog 31:=by
 refine Eng.Spec.okR e31 .nil (fun _=>[(2097152,.own)]) (fun _ _=>aA.o aA.nil) ?_
 rintro ⟨l,a⟩ ⟨hr,(ha0:0<=a),(ha1:a < (l.n:Int))⟩
 have hr:Ac l:=hr
 have hn:l.n<=64:=hr.n
 have ha:a.toNat < 64:=by omega
 have za:((a.toNat:Nat):Int)=a:=by omega
 refine ⟨trivial,?_⟩
 repeat' (first|apply And.intro|exact trivial|exact rfl|exact lz fun _=>rfl|exact S1.zz rfl|refine gd ?_|exact fun (j:Nat) (_:j < 64)=>rfl)
 refine ⟨⟨Nat,fun i=>i<=64,fun i=>[(10,.int .i64 (i:Int))],fun i=>[(1,.cells 76 (.ints .i64 64 (fun j=>if j < i then 64 else 0) .nil))],fun i=>64 - i⟩,0,Nat.zero_le _,?_,?_⟩
 ·repeat' (first|apply And.intro|exact trivial|exact rfl|exact lz fun _=>rfl|exact S1.zz rfl|refine gd ?_|exact fun (j:Nat) (_:j < 64)=>rfl)
 rintro (i:Nat) (hi:i<=64)
 repeat' (first|apply And.intro|exact trivial|exact rfl|exact lz fun _=>rfl|exact S1.zz rfl|refine gd ?_|exact fun (j:Nat) (_:j < 64)=>rfl)
 ·refine fun (h:decide ((i:Int) < 64)=true)=>?_
  have hi1:i < 64:=by have:=of_decide_eq_true h; omega
  have b0:(0:Int)<=(i:Int):=by omega
  have b1:(i:Int) < ((64:Nat):Int):=by omega
  have b4:(i:Int).toNat < 64 - 0:=by omega
  have b2:-9223372036854775808<=(i:Int)+1:=by omega
  have b3:(i:Int)+1<=9223372036854775807:=by omega
  repeat' (first|with_reducible exact b0|with_reducible exact b1|with_reducible exact b2|with_reducible exact b3|with_reducible exact b4|apply And.intro|exact trivial|exact rfl|exact lz fun _=>rfl|exact S1.zz rfl|refine gd ?_|exact fun (j:Nat) (_:j < 64)=>rfl)
  refine Exists.intro (i+1) (And.intro hi1 ?_)
  repeat' (first|apply And.intro|exact trivial|exact rfl|exact lz fun _=>rfl|exact S1.zz rfl|refine gd ?_|exact fun (j:Nat) (_:j < 64)=>rfl)
  ·exact fun (j:Nat) (_:j < 64)=>by
    show (bif Nat.beq j ((i:Int).toNat+0) then (64:Int) else if j < i then 64 else 0)=if j < i+1 then 64 else 0
    by_cases e:j=i
    ·rw [e,show (i:Int).toNat+0=i from rfl,Nat.beq_refl,cond_true,if_pos (Nat.lt_succ_self i)]
    ·rw [show Nat.beq j ((i:Int).toNat+0)=false from rY (by show ¬ j=i; exact e),cond_false]
     by_cases h2:j < i
     ·rw [if_pos h2,if_pos (by omega)]
     ·rw [if_neg h2,if_neg (by omega)]
  ·show 64 - (i+1) < 64 - i
   omega
 ·refine fun (h:decide ((i:Int) < 64)=false)=>?_
  have hi1:i=64:=by have:=of_decide_eq_false h; omega
  subst hi1
  have b1:a < ((64:Nat):Int):=by omega
  have b4:a.toNat < 64 - 0:=by omega
  repeat' (first|with_reducible exact ha0|with_reducible exact b1|with_reducible exact b4|apply And.intro|exact trivial|exact rfl|exact lz fun _=>rfl|exact S1.zz rfl|refine gd ?_|exact fun (j:Nat) (_:j < 64)=>rfl)
  refine ⟨⟨Q,fun x=>Bf (EO l) a.toNat x.1 x.2.1 (fun _=>False)/\(∀ i,i < x.2.1.length->x.2.2.2 (x.2.2.1+i)=(x.2.1.getD i 0:Int))/\left x.1 x.2.1<=129,fun x=>[(7,.osl 10 1 x.2.2.1 x.2.1.length)],
   fun x=>[(1,.cells 76 (.ints .i64 64 (fun j=>(x.1 j:Int)) .nil)),(10,.arr 3 1 (x.2.2.1+x.2.1.length) fun j=>inL (x.2.2.2 j))],fun x=>left x.1 x.2.1⟩,
   (fun i=>if i=a.toNat then 0 else 64,[a.toNat],0,fun _=>a),⟨Bf.start ha,fun i hi=>?_,?_⟩,?_,?_⟩
  ·have:i=0:=by simpa using hi
   subst this
   exact za.symm
  ·show 2 * (64 - cnt _ 64)+1<=129
   omega
  ·repeat' (first|apply And.intro|exact trivial|exact rfl|exact lz fun _=>rfl|exact S1.zz rfl|refine gd ?_|exact fun (j:Nat) (_:j < 64)=>rfl)
   ·exact fun (j:Nat) (hj:j < 1)=>Or.inl (by
     have:j=0:=by omega
     subst this
     exact tM _ _ _ _)
   ·exact fun (j:Nat) (_:j < 64)=>by
     show (bif Nat.beq j (a.toNat+0) then (0:Int) else if j < 64 then 64 else 0)=((if j=a.toNat then 0 else 64:Nat):Int)
     by_cases e:j=a.toNat
     ·rw [e,show a.toNat+0=a.toNat from rfl,Nat.beq_refl,cond_true,if_pos rfl]; rfl
     ·rw [show Nat.beq j (a.toNat+0)=false from rY (by show ¬ j=a.toNat; exact e),cond_false,if_neg e,if_pos (by omega)]; rfl
  rintro ⟨f,q,lo,g⟩ ⟨(hb:Bf (EO l) a.toNat f q (fun _=>False)),(hg:∀ i,i < q.length->g (lo+i)=(q.getD i 0:Int)),(hlt:left f q<=129)⟩
  repeat' (first|apply And.intro|exact trivial|exact rfl|exact lz fun _=>rfl|exact S1.zz rfl|refine gd ?_|exact fun (j:Nat) (_:j < 64)=>rfl)
  ·refine fun (hc:decide ((0:Int) < (q.length:Int))=true)=>?_
   have hq:0 < q.length:=by have:=of_decide_eq_true hc; omega
   obtain ⟨h,q,rfl⟩:∃ h t,q=h::t:=by
    cases q with
    | nil=>exact absurd hq (Nat.lt_irrefl 0)
    | cons h t=>exact ⟨h,t,rfl⟩
   have eg:g (lo+(0:Int).toNat)=(h:Int):=hg 0 hq
   have eh:(g (lo+(0:Int).toNat)).toNat=h:=by rw [eg]; rfl
   have hh:f h < 64:=hb.inq h (List.mem_cons_self ..)
   have hl:h < l.n:=by
    obtain ⟨_,w⟩:=hb.lt h hh
    cases hw:f h with
    | zero=>rw [hw] at w; cases (w:a.toNat=h); omega
    | succ m=>rw [hw] at w; obtain ⟨c,_,e⟩:=w; exact hr.lt e
   have c0:(0:Int)<=0:=Int.le_refl _
   have c1:(0:Int) < ((h::q).length:Int):=by simp
   have c2:lo+(0:Int).toNat < lo+(h::q).length:=by simp
   have c3:0<=g (lo+(0:Int).toNat):=by rw [eg]; omega
   have c4:g (lo+(0:Int).toNat) < (l.n:Int):=by rw [eg]; omega
   have el:l.f (g (lo+(0:Int).toNat)).toNat=l.f h:=by rw [eh]
   have hln:=hr.ln h hl
   repeat' (first|with_reducible exact c0|with_reducible exact c1|with_reducible exact c2|with_reducible exact c3|with_reducible exact c4|apply And.intro|exact trivial|exact rfl|exact lz fun _=>rfl|exact S1.zz rfl|refine gd ?_|exact fun (j:Nat) (_:j < 64)=>rfl)
   refine ⟨⟨Q×Nat,fun x=>Bf (EO l) a.toNat x.1.1 (h::x.1.2.1) (fun k=>∃ j,j < x.2/\(l.f h).links.f j=(k:Int))/\(∀ i,i < x.1.2.1.length+1->x.1.2.2.2 (x.1.2.2.1+i)=((h::x.1.2.1).getD i 0:Int))/\x.2<=(l.f (g (lo+(0:Int).toNat)).toNat).links.n/\left x.1.1 (h::x.1.2.1)<=left f (h::q),
    fun x=>[(33,.int .i64 (x.2:Int)),(7,.osl 20 1 x.1.2.2.1 (x.1.2.1.length+1))],
    fun x=>[(1,.cells 76 (.ints .i64 64 (fun j=>(x.1.1 j:Int)) .nil)),(20,.arr 3 1 (x.1.2.2.1+(x.1.2.1.length+1)) fun j=>inL (x.1.2.2.2 j))],fun x=>(l.f (g (lo+(0:Int).toNat)).toNat).links.n - x.2⟩,
    ((f,q,lo,g),0),⟨hb.mono fun k hk=>?_,hg,Nat.zero_le _,Nat.le_refl _⟩,?_,?_⟩
   ·obtain ⟨j,hj,_⟩:=hk
    exact absurd hj (Nat.not_lt_zero j)
   ·repeat' (first|apply And.intro|exact trivial|exact rfl|exact lz fun _=>rfl|exact S1.zz rfl|refine gd ?_|exact fun (j:Nat) (_:j < 64)=>rfl)
   rintro ⟨⟨f',t,lo',g'⟩,j⟩ ⟨(hb':Bf (EO l) a.toNat f' (h::t) (fun k=>∃ i,i < j/\(l.f h).links.f i=(k:Int))),(hg':∀ i,i < t.length+1->g' (lo'+i)=((h::t).getD i 0:Int)),(hj:j<=(l.f (g (lo+(0:Int).toNat)).toNat).links.n),(hlf:left f' (h::t)<=left f (h::q))⟩
   repeat' (first|apply And.intro|exact trivial|exact rfl|exact lz fun _=>rfl|exact S1.zz rfl|refine gd ?_|exact fun (j:Nat) (_:j < 64)=>rfl)
   ·refine fun (hc:decide ((j:Int) < ((l.f (g (lo+(0:Int).toNat)).toNat).links.n:Int))=true)=>?_
    have hj1:j < (l.f (g (lo+(0:Int).toNat)).toNat).links.n:=by have:=of_decide_eq_true hc; omega
    have hj2:j < (l.f h).links.n:=by rw [<- el]; exact hj1
    have d0:(0:Int)<=(j:Int):=by omega
    have d1:(j:Int) < ((l.f (g (lo+(0:Int).toNat)).toNat).links.n:Int):=by omega
    have ek:(l.f (g (lo+(0:Int).toNat)).toNat).links.f (j:Int).toNat=(l.f h).links.f j:=by rw [el]; rfl
    have hlk:=hr.lk h hl j hj2
    have d2:0<=(l.f (g (lo+(0:Int).toNat)).toNat).links.f (j:Int).toNat:=by rw [ek]; exact hlk.1
    have d3:(l.f (g (lo+(0:Int).toNat)).toNat).links.f (j:Int).toNat < ((64:Nat):Int):=by rw [ek]; omega
    have d4:((l.f (g (lo+(0:Int).toNat)).toNat).links.f (j:Int).toNat).toNat < 64 - 0:=by omega
    obtain ⟨k,hk⟩:∃ k:Nat,(l.f h).links.f j=(k:Int):=⟨((l.f h).links.f j).toNat,by omega⟩
    have hkn:((l.f (g (lo+(0:Int).toNat)).toNat).links.f (j:Int).toNat).toNat=k:=by rw [ek,hk]; rfl
    have hk64:k < 64:=by omega
    have hE:EO l h k:=⟨hl,j,hj2,hk⟩
    have more:∀ m:Nat,(∃ i,i < j+1/\(l.f h).links.f i=(m:Int))->(∃ i,i < j/\(l.f h).links.f i=(m:Int))\/m=k:=fun m ⟨i,hi,e⟩=>by
     by_cases e2:i=j
     ·right; rw [e2,hk] at e; omega
     ·exact .inl ⟨i,by omega,e⟩
    have en1:t.length+1+1=(t++[k]).length+1:=by simp
    have en2:lo'+(t.length+1+1)=lo'+((t++[k]).length+1):=by simp
    have en3:t.length+1+1=0+((t++[k]).length+1):=by simp
    have em:(l.f (g (lo+(0:Int).toNat)).toNat).links.n - (j+1) < (l.f (g (lo+(0:Int).toNat)).toNat).links.n - j:=by omega
    have ez:(l.f (g (lo+(0:Int).toNat)).toNat).links.f (j:Int).toNat=(k:Int):=by rw [ek,hk]
    have d5:-9223372036854775808<=(j:Int)+1:=by omega
    have d6:(j:Int)+1<=9223372036854775807:=by omega
    have htl:t.length+1<=129:=by
     have:left f' (h::t)=2 * (64 - cnt (B2.fnd f') 64)+(t.length+1):=rfl
     omega
    repeat' (first|with_reducible exact d0|with_reducible exact d1|with_reducible exact d2|with_reducible exact d3|with_reducible exact d4|apply And.intro|exact trivial|exact rfl|exact lz fun _=>rfl|exact S1.zz rfl|refine gd ?_|exact fun (j:Nat) (_:j < 64)=>rfl)
    ·refine fun (hc:decide ((f' ((l.f (g (lo+(0:Int).toNat)).toNat).links.f (j:Int).toNat).toNat:Int)=64)=true)=>?_
     have h64:f' k=64:=by have:=of_decide_eq_true hc; rw [hkn] at this; omega
     have eg':g' (lo'+(0:Int).toNat)=(h:Int):=hg' 0 (Nat.succ_pos _)
     have hh':f' h < 64:=hb'.inq h (List.mem_cons_self ..)
     have m0:(0:Int) < ((t.length+1:Nat):Int):=by omega
     have m1:lo'+(0:Int).toNat < lo'+(t.length+1):=by omega
     have m2:0<=g' (lo'+(0:Int).toNat):=by rw [eg']; omega
     have m3:g' (lo'+(0:Int).toNat) < ((64:Nat):Int):=by rw [eg']; omega
     have m4:(g' (lo'+(0:Int).toNat)).toNat < 64 - 0:=by omega
     have eh':(g' (lo'+(0:Int).toNat)).toNat=h:=by rw [eg']; rfl
     have m5:-9223372036854775808<=(f' (g' (lo'+(0:Int).toNat)).toNat:Int)+1:=by omega
     have m6:(f' (g' (lo'+(0:Int).toNat)).toNat:Int)+1<=9223372036854775807:=by rw [eh']; omega
     have m7:0 < t.length+1:=by omega
     have m8:t.length+1+1<=9223372036854775807:=by omega
     have m9:(t.length+1+1) * 8<=140737488355328:=by omega
     have hnew:=hb'.new hk64 hE h64
     have hB:Bf (EO l) a.toNat (fun i=>if i=k then f' h+1 else f' i) (h::(t++[k])) (fun m=>∃ i,i < j+1/\(l.f h).links.f i=(m:Int)):=hnew.mono more
     repeat' (first|with_reducible exact c0|with_reducible exact m0|with_reducible exact m1|with_reducible exact m2|with_reducible exact m3|with_reducible exact m4|with_reducible exact m5|with_reducible exact m6|with_reducible exact m7|with_reducible exact m8|with_reducible exact m9|with_reducible exact d0|with_reducible exact d2|with_reducible exact d3|with_reducible exact d4|with_reducible exact d5|with_reducible exact d6|apply And.intro|exact trivial|exact rfl|exact lz fun _=>rfl|exact S1.zz rfl|refine gd ?_|exact fun (j:Nat) (_:j < 64)=>rfl)
     ·exact Nat.le_refl 1
     ·exact fun (j:Nat) (hj:j < 1)=>by
       have:j=0:=by omega
       subst this
       rfl
     ·refine Exists.intro ((fun i=>if i=k then f' h+1 else f' i,t++[k],lo',fun i=>if i < lo'+(t.length+1) then g' i else (k:Int)),j+1) (And.intro ⟨hB,fun i hi=>?_,hj1,?_⟩ ?_)
      ·show (if lo'+i < lo'+(t.length+1) then g' (lo'+i) else (k:Int))=((h::(t++[k])).getD i 0:Int)
       exact nxt1 hg' (by simpa using hi) ⟨fun h=>by omega,fun h=>by omega⟩
      ·show left (fun i=>if i=k then f' h+1 else f' i) (h::t++[k])<=left f (h::q)
       exact Nat.le_trans (zH hk64 h64 (hnew.inq k (List.mem_append_right _ (List.mem_singleton.2 rfl)))) hlf
      repeat' (first|with_reducible exact en1|with_reducible exact en2|with_reducible exact em|exact fun (i:Nat) (hi:i < lo'+(t.length+1+1))=>EL.aV (apE ez i hi) (tM _ _ _ _)|exact fun (i:Nat) (_:i < 64)=>V1 (f:=f') hkn (congrArg f' eh') i|apply And.intro|exact trivial|exact rfl|exact lz fun _=>rfl|exact S1.zz rfl|refine gd ?_|exact fun (j:Nat) (_:j < 64)=>rfl)
     ·refine Exists.intro ((fun i=>if i=k then f' h+1 else f' i,t++[k],0,fun i=>if i < t.length+1 then g' (lo'+i) else (k:Int)),j+1) (And.intro ⟨hB,fun i hi=>?_,hj1,?_⟩ ?_)
      ·show (if 0+i < t.length+1 then g' (lo'+(0+i)) else (k:Int))=((h::(t++[k])).getD i 0:Int)
       rw [Nat.zero_add]
       exact nxt1 hg' (by simpa using hi) ⟨fun h=>by omega,fun h=>by omega⟩
      ·show left (fun i=>if i=k then f' h+1 else f' i) (h::t++[k])<=left f (h::q)
       exact Nat.le_trans (zH hk64 h64 (hnew.inq k (List.mem_append_right _ (List.mem_singleton.2 rfl)))) hlf
      repeat' (first|with_reducible exact en1|with_reducible exact en3|with_reducible exact em|exact fun (i:Nat) (hi:i < t.length+1+1)=>EL.aV (apE (g:=fun j=>g' (lo'+j)) ez i hi) (tM _ _ _ _)|exact fun (i:Nat) (_:i < 64)=>V1 (f:=f') hkn (congrArg f' eh') i|apply And.intro|exact trivial|exact rfl|exact lz fun _=>rfl|exact S1.zz rfl|refine gd ?_|exact fun (j:Nat) (_:j < 64)=>rfl)
    ·refine fun (hc:decide ((f' ((l.f (g (lo+(0:Int).toNat)).toNat).links.f (j:Int).toNat).toNat:Int)=64)=false)=>?_
     have h64:f' k≠64:=by have:=of_decide_eq_false hc; rw [hkn] at this; omega
     have hB:Bf (EO l) a.toNat f' (h::t) (fun m=>∃ i,i < j+1/\(l.f h).links.f i=(m:Int)):=(hb'.old h64).mono more
     repeat' (first|with_reducible exact d5|with_reducible exact d6|apply And.intro|exact trivial|exact rfl|exact lz fun _=>rfl|exact S1.zz rfl|refine gd ?_|exact fun (j:Nat) (_:j < 64)=>rfl)
     refine Exists.intro ((f',t,lo',g'),j+1) (And.intro ⟨hB,hg',hj1,hlf⟩ ?_)
     repeat' (first|with_reducible exact em|apply And.intro|exact trivial|exact rfl|exact lz fun _=>rfl|exact S1.zz rfl|refine gd ?_|exact fun (j:Nat) (_:j < 64)=>rfl)
   ·refine fun (hc:decide ((j:Int) < ((l.f (g (lo+(0:Int).toNat)).toNat).links.n:Int))=false)=>?_
    have hj1:j=(l.f (g (lo+(0:Int).toNat)).toNat).links.n:=by have:=of_decide_eq_false hc; omega
    have m0:(0:Int)<=1:=by decide
    have m1:(1:Int)<=((t.length+1:Nat):Int):=by omega
    have hB:=hb'.pop fun k ⟨_,i,hi,e⟩=>⟨i,by rw [hj1,el]; exact hi,e⟩
    repeat' (first|with_reducible exact m0|with_reducible exact m1|apply And.intro|exact trivial|exact rfl|exact lz fun _=>rfl|exact S1.zz rfl|refine gd ?_|exact fun (j:Nat) (_:j < 64)=>rfl)
    refine Exists.intro (f',t,lo'+1,g') (And.intro ⟨hB,fun i hi=>?_,?_⟩ ?_)
    ·show g' (lo'+1+i)=_
     rw [Nat.add_assoc,Nat.add_comm 1 i]
     exact hg' (i+1) (Nat.succ_lt_succ hi)
    ·show left f' t<=129
     have:left f' (h::t)=left f' t+1:=rfl
     omega
    have e1:lo'+(t.length+1)=lo'+1+t.length:=by omega
    have e2:left f' t < left f (h::q):=by
     have:left f' (h::t)=left f' t+1:=rfl
     omega
    repeat' (first|with_reducible exact e1|with_reducible exact e2|apply And.intro|exact trivial|exact rfl|exact lz fun _=>rfl|exact S1.zz rfl|refine gd ?_|exact fun (j:Nat) (_:j < 64)=>rfl)
  ·refine fun (hc:decide ((0:Int) < (q.length:Int))=false)=>?_
   have hq:q=[]:=by
    cases q with
    | nil=>rfl
    | cons h t=>have:=of_decide_eq_false hc; simp at this
   subst hq
   have he:=hb.end_
   repeat' (first|apply And.intro|exact trivial|exact rfl|exact lz fun _=>rfl|exact S1.zz rfl|refine gd ?_|exact fun (j:Nat) (_:j < 64)=>rfl)
   exact fun (j:Nat) (_:j < 64)=>congrArg (fun n:Nat=>(n:Int)) (he.eq j)
end S2
