/- A part of the proof. -/
import Derived.Test.YtijddkljgihcnaaGreatDoorEV0
import Derived.Test.YtijddkljgihcnaaGreatDoorF10
import Derived.Test.YtijddkljgihcnaaGreatDoorF6
import Derived.Test.YtijddkljgihcnaaGreatDoorL10
section
namespace B1
def W (E:Nat->Nat->Prop):Nat->Nat->Nat->Prop
 | 0,a,b=>a=b
 | l+1,a,b=>∃ c,W E l a c/\E c b
theorem W.app {E:Nat->Nat->Prop} {l m a b c:Nat} (h:W E l a b) (k:W E m b c):W E (l+m) a c:=by
 induction m generalizing c with
 | zero=>cases (k:b=c); exact h
 | succ m ih=>obtain ⟨d,k,e⟩:=k; exact ⟨d,ih k,e⟩
theorem W.one {E:Nat->Nat->Prop} {a b:Nat} (h:E a b):W E 1 a b:=⟨a,rfl,h⟩
theorem W.rev {E:Nat->Nat->Prop} (hs:∀ a b,E a b->E b a) {l a b:Nat} (h:W E l a b):W E l b a:=by
 induction l generalizing b with
 | zero=>exact (h:a=b).symm
 | succ l ih =>
  obtain ⟨c,h,e⟩:=h
  have:=(W.one (hs _ _ e)).app (ih h)
  rwa [Nat.add_comm] at this
theorem W.mono {E F:Nat->Nat->Prop} (hs:∀ a b,E a b->F a b) {l a b:Nat} (h:W E l a b):W F l a b:=by
 induction l generalizing b with
 | zero=>exact h
 | succ l ih=>obtain ⟨c,h,e⟩:=h; exact ⟨c,ih h,hs _ _ e⟩
theorem W.le {E:Nat->Nat->Prop} {g:Nat->Nat} {a:Nat} (h0:g a=0) (h1:∀ i k,E i k->g k<=g i+1) {l b:Nat} (h:W E l a b):g b<=l:=by
 induction l generalizing b with
 | zero=>cases (h:a=b); omega
 | succ l ih=>obtain ⟨c,h,e⟩:=h; have:=ih h; have:=h1 _ _ e; omega
open Classical in
noncomputable def fst (p:Nat->Prop):Nat->Nat
 | 0=>0
 | n+1=>if fst p n < n then fst p n else if p n then n else n+1
theorem Ic (p:Nat->Prop):∀ n,fst p n<=n/\(fst p n < n->p (fst p n))/\∀ i,i < fst p n->¬ p i:=by
 intro n
 induction n with
 | zero=>exact ⟨Nat.le_refl _,fun h=>absurd h (Nat.not_lt_zero _),fun i h=>absurd h (Nat.not_lt_zero _)⟩
 | succ n ih =>
  obtain ⟨h1,h2,h3⟩:=ih
  unfold fst
  by_cases h:fst p n < n
  ·rw [if_pos h]
   exact ⟨by omega,fun _=>h2 h,h3⟩
  ·have e:fst p n=n:=by omega
   rw [if_neg h]
   by_cases hp:p n
   ·rw [if_pos hp]; exact ⟨by omega,fun _=>hp,fun i hi=>h3 i (by omega)⟩
   ·rw [if_neg hp]
    refine ⟨Nat.le_refl _,fun h=>absurd h (Nat.lt_irrefl _),fun i hi=>?_⟩
    by_cases e2:i=n
    ·rw [e2]; exact hp
    ·exact h3 i (by omega)
attribute [local irreducible] fst
noncomputable def dst (E:Nat->Nat->Prop) (a b:Nat):Nat:=fst (fun l=>W E l a b) 64
theorem sH (E:Nat->Nat->Prop) (a b:Nat):dst E a b<=64/\(dst E a b < 64->W E (dst E a b) a b)/\∀ i,i < dst E a b->¬ W E i a b:=Ic (fun l=>W E l a b) 64
theorem rJ (E:Nat->Nat->Prop) (a b:Nat):dst E a b<=64:=(sH E a b).1
theorem jG {E:Nat->Nat->Prop} {a b:Nat} (h:dst E a b < 64):W E (dst E a b) a b:=(sH E a b).2.1 h
theorem sG {E:Nat->Nat->Prop} {l a b:Nat} (h:W E l a b):dst E a b<=l:=Nat.le_of_not_lt fun k=>(sH E a b).2.2 l k h
attribute [local irreducible] dst
structure IsD (E:Nat->Nat->Prop) (a:Nat) (f:Nat->Nat):Prop where
 zero:f a=0
 le:∀ i,f i<=64
 walk:∀ i,f i < 64->W E (f i) a i
 step:∀ i k,f i < 64->E i k->f k<=f i+1
theorem IsD.eq {E:Nat->Nat->Prop} {a:Nat} {f:Nat->Nat} (h:IsD E a f) (k:Nat):f k=dst E a k:=by
 have h1:∀ i k,E i k->f k<=f i+1:=fun i k e=>by
  by_cases hi:f i < 64
  ·exact h.step i k hi e
  ·have:=h.le k; omega
 have h2:f k<=dst E a k:=by
  by_cases h3:dst E a k < 64
  ·exact (jG h3).le h.zero h1
  ·have:=h.le k; omega
 by_cases h3:f k < 64
 ·have:=sG (h.walk k h3); omega
 ·have:=h.le k; have:=rJ E a k; omega
theorem yL (E:Nat->Nat->Prop) (a:Nat):dst E a a=0:=by
 have:=sG (E:=E) (l:=0) (a:=a) (b:=a) rfl
 omega
theorem yM {E:Nat->Nat->Prop} {a b:Nat}:dst E a b=0 ↔ a=b :=
 ⟨fun h=>by have:=jG (E:=E) (a:=a) (b:=b) (by omega); rw [h] at this; exact this,fun h=>by rw [h]; exact yL _ _⟩
theorem nU {E:Nat->Nat->Prop} (hi:∀ a,¬ E a a) {a b:Nat}:dst E a b=1 ↔ E a b:=by
 constructor
 ·intro h
  have:=jG (E:=E) (a:=a) (b:=b) (by omega)
  rw [h] at this
  obtain ⟨c,h1,h2⟩:=this
  cases (h1:a=c)
  exact h2
 ·intro h
  have h1:=sG (W.one h)
  have h2:dst E a b≠0:=fun e=>by rw [yM] at e; exact hi a (e ▸ h)
  omega
end B1
end
section
open B1
namespace B2
def cnt (p:Nat->Bool):Nat->Nat
 | 0=>0
 | n+1=>cnt p n+if p n then 1 else 0
theorem Bc (p:Nat->Bool) (n:Nat):cnt p n<=n:=by
 induction n with
 | zero=>exact Nat.le_refl _
 | succ n ih=>unfold cnt; split <;> omega
theorem oZ {p q:Nat->Bool} {n:Nat} (h:∀ i,i < n->p i=q i):cnt p n=cnt q n:=by
 induction n with
 | zero=>rfl
 | succ n ih=>unfold cnt; rw [ih fun i hi=>h i (by omega),h n (by omega)]
theorem vQ {p:Nat->Bool} {n k:Nat} (hk:k < n) (h:p k=false):cnt (fun i=>decide (i=k) || p i) n=cnt p n+1:=by
 induction n with
 | zero=>omega
 | succ n ih =>
  unfold cnt
  by_cases e:n=k
  ·subst e
   rw [oZ (p:=fun i=>decide (i=n) || p i) (q:=p) fun i hi=>by
    have:decide (i=n)=false:=decide_eq_false (by omega)
    rw [this,Bool.false_or],h]
   simp
  ·rw [ih (by omega),show decide (n=k)=false from decide_eq_false e,Bool.false_or]
   omega
theorem Ds {p:Nat->Bool} {n k:Nat} (hk:k < n) (h:p k=true):0 < cnt p n:=by
 induction n with
 | zero=>omega
 | succ n ih =>
  unfold cnt
  by_cases e:n=k
  ·subst e; rw [h]; simp
  ·have:=ih (by omega); omega
def fnd (f:Nat->Nat) (i:Nat):Bool:=decide (f i < 64)
structure Bf (E:Nat->Nat->Prop) (a:Nat) (f:Nat->Nat) (q:List Nat) (P:Nat->Prop):Prop where
 zero:f a=0
 le:∀ i,f i<=64
 lt:∀ i,f i < 64->i < 64/\W E (f i) a i
 inq:∀ i∈q,f i < 64
 sort:q.Pairwise (fun i j=>f i<=f j)
 top:∀ h t,q=h::t->∀ i,f i < 64->f i<=f h+1
 low:∀ i,f i < 64->i ∉ q->∀ j∈q,f i<=f j
 done:∀ i,f i < 64->i ∉ q->∀ k,E i k->f k<=f i+1
 part:∀ h t,q=h::t->∀ k,E h k->P k->f k<=f h+1
 num:∀ i,f i < 64->f i < cnt (fnd f) 64
theorem Bf.start {E:Nat->Nat->Prop} {a:Nat} (ha:a < 64):Bf E a (fun i=>if i=a then 0 else 64) [a] (fun _=>False) where
 zero:=if_pos rfl
 le:=fun i=>by split <;> omega
 lt:=fun i h=>by
  try dsimp only at h ⊢
  by_cases e:i=a
  ·rw [if_pos e,e]; exact ⟨ha,rfl⟩
  ·rw [if_neg e] at h; omega
 inq:=fun i hi=>by rw [List.mem_singleton.1 hi,if_pos rfl]; omega
 sort:=List.pairwise_singleton _ _
 top:=fun h t e i hi=>by
  try dsimp only at hi ⊢
  split
  ·omega
  ·rename_i e2; rw [if_neg e2] at hi; omega
 low:=fun i hi hn=>by
  try dsimp only at hi
  split at hi
  ·rename_i e; exact absurd (by rw [e]; exact List.mem_singleton.2 rfl) hn
  ·omega
 done:=fun i hi hn=>by
  try dsimp only at hi
  split at hi
  ·rename_i e; exact absurd (by rw [e]; exact List.mem_singleton.2 rfl) hn
  ·omega
 part:=fun _ _ _ _ _ h=>h.elim
 num:=fun i hi=>by
  try dsimp only at hi ⊢
  have:0 < cnt (fnd fun i=>if i=a then 0 else 64) 64:=Ds ha (by simp [fnd])
  split
  ·exact this
  ·rename_i e; rw [if_neg e] at hi; omega
theorem Bf.bound {E:Nat->Nat->Prop} {a:Nat} {f:Nat->Nat} {q:List Nat} {P:Nat->Prop} (h:Bf E a f q P) {i k:Nat} (hi:f i < 64) (hk:k < 64) (h64:f k=64):f i+1 < 64:=by
 have h1:=h.num i hi
 have h2:cnt (fnd f) 64+1=cnt (fun i=>decide (i=k) || fnd f i) 64:=(vQ hk (by unfold fnd; rw [h64]; rfl)).symm
 have h3:=Bc (fun i=>decide (i=k) || fnd f i) 64
 omega
theorem Bf.new {E:Nat->Nat->Prop} {a:Nat} {f:Nat->Nat} {h:Nat} {t:List Nat} {P:Nat->Prop} (b:Bf E a f (h::t) P) {k:Nat} (hk:k < 64) (e:E h k) (h64:f k=64) :
  Bf E a (fun i=>if i=k then f h+1 else f i) (h::t++[k]) (fun i=>P i\/i=k):=by
 have hh:f h < 64:=b.inq h (List.mem_cons_self ..)
 have hb:=b.bound hh hk h64
 have ne:∀ i,f i < 64->i≠k:=fun i hi e=>by rw [e,h64] at hi; omega
 have val:∀ i,f i < 64->(if i=k then f h+1 else f i)=f i:=fun i hi=>if_neg (ne i hi)
 have vk:(if k=k then f h+1 else f k)=f h+1:=if_pos rfl
 have mono:∀ i,(if i=k then f h+1 else f i)<=f i:=fun i=>by
  split
  ·rename_i e; rw [e,h64]; omega
  ·exact Nat.le_refl _
 refine ⟨?_,?_,?_,?_,?_,?_,?_,?_,?_,?_⟩
 ·rw [val a (by rw [b.zero]; omega),b.zero]
 ·intro i; exact Nat.le_trans (mono i) (b.le i)
 ·intro i hi
  try dsimp only at hi ⊢
  by_cases e2:i=k
  ·subst e2; rw [vk]; exact ⟨hk,h,(b.lt h hh).2,e⟩
  ·rw [if_neg e2] at hi ⊢; exact b.lt i hi
 ·intro i hi
  try dsimp only
  rcases List.mem_append.1 hi with hi|hi
  ·rw [val i (b.inq i hi)]; exact b.inq i hi
  ·rw [List.mem_singleton.1 hi,vk]; exact hb
 ·refine List.pairwise_append.2 ⟨?_,List.pairwise_singleton _ _,?_⟩
  ·refine List.Pairwise.imp_of_mem (fun {x y} hx hy hxy=>?_) b.sort
   rw [val x (b.inq x hx),val y (b.inq y hy)]; exact hxy
  ·intro x hx y hy
   rw [List.mem_singleton.1 hy,vk,val x (b.inq x hx)]
   exact b.top h t rfl x (b.inq x hx)
 ·intro h' t' e' i hi
  cases e'
  try dsimp only at hi ⊢
  rw [val h hh]
  by_cases e2:i=k
  ·rw [if_pos e2]; exact Nat.le_refl _
  ·rw [if_neg e2] at hi ⊢; exact b.top h t rfl i hi
 ·intro i hi hn j hj
  try dsimp only at hi ⊢
  have e2:i≠k:=fun e2=>hn (by rw [e2]; exact List.mem_append_right _ (List.mem_singleton.2 rfl))
  rw [if_neg e2] at hi ⊢
  have hn':i ∉ h::t:=fun hm=>hn (List.mem_append_left _ hm)
  rcases List.mem_append.1 hj with hj|hj
  ·rw [val j (b.inq j hj)]; exact b.low i hi hn' j hj
  ·rw [List.mem_singleton.1 hj,vk]
   have:=b.low i hi hn' h (List.mem_cons_self ..); omega
 ·intro i hi hn j hj
  try dsimp only at hi ⊢
  have e2:i≠k:=fun e2=>hn (by rw [e2]; exact List.mem_append_right _ (List.mem_singleton.2 rfl))
  rw [if_neg e2] at hi ⊢
  have hn':i ∉ h::t:=fun hm=>hn (List.mem_append_left _ hm)
  exact Nat.le_trans (mono j) (b.done i hi hn' j hj)
 ·intro h' t' e' j hj hp
  cases e'
  try dsimp only
  rw [val h hh]
  rcases hp with hp|rfl
  ·exact Nat.le_trans (mono j) (b.part h t rfl j hj hp)
  ·rw [vk]; exact Nat.le_refl _
 ·intro i hi
  try dsimp only at hi ⊢
  have hc:cnt (fnd fun i=>if i=k then f h+1 else f i) 64=cnt (fnd f) 64+1:=by
   rw [<- vQ hk (show fnd f k=false by unfold fnd; rw [h64]; rfl)]
   refine oZ fun i _=>?_
   by_cases e2:i=k
   ·subst e2; simp [fnd,hb]
   ·simp [fnd,e2]
  rw [hc]
  by_cases e2:i=k
  ·rw [if_pos e2]; have:=b.num h hh; omega
  ·rw [if_neg e2] at hi ⊢; have:=b.num i hi; omega
theorem Bf.old {E:Nat->Nat->Prop} {a:Nat} {f:Nat->Nat} {h:Nat} {t:List Nat} {P:Nat->Prop} (b:Bf E a f (h::t) P) {k:Nat} (h64:f k≠64):Bf E a f (h::t) (fun i=>P i\/i=k) :=
 ⟨b.zero,b.le,b.lt,b.inq,b.sort,b.top,b.low,b.done,fun h' t' e' j hj hp=>by
  cases e'
  rcases hp with hp|rfl
  ·exact b.part h t rfl j hj hp
  ·exact b.top h t rfl j (by have:=b.le j; omega),b.num⟩
theorem Bf.mono {E:Nat->Nat->Prop} {a:Nat} {f:Nat->Nat} {q:List Nat} {P Q:Nat->Prop} (b:Bf E a f q P) (hq:∀ i,Q i->P i):Bf E a f q Q :=
 ⟨b.zero,b.le,b.lt,b.inq,b.sort,b.top,b.low,b.done,fun h t e j hj hp=>b.part h t e j hj (hq j hp),b.num⟩
theorem Bf.pop {E:Nat->Nat->Prop} {a:Nat} {f:Nat->Nat} {h:Nat} {t:List Nat} {P:Nat->Prop} (b:Bf E a f (h::t) P) (hp:∀ k,E h k->P k):Bf E a f t (fun _=>False):=by
 have hh:f h < 64:=b.inq h (List.mem_cons_self ..)
 refine ⟨b.zero,b.le,b.lt,fun i hi=>b.inq i (List.mem_cons_of_mem _ hi),(List.pairwise_cons.1 b.sort).2,?_,?_,?_,fun _ _ _ _ _ h=>h.elim,b.num⟩
 ·intro h' t' e' i hi
  subst e'
  have h1:=b.top h _ rfl i hi
  have h2:=(List.pairwise_cons.1 b.sort).1 h' (List.mem_cons_self ..)
  omega
 ·intro i hi hn j hj
  by_cases e:i=h
  ·subst e; exact (List.pairwise_cons.1 b.sort).1 j hj
  ·exact b.low i hi (fun hm=>(List.mem_cons.1 hm).elim e hn) j (List.mem_cons_of_mem _ hj)
 ·intro i hi hn k hk
  by_cases e:i=h
  ·subst e; exact b.part i t rfl k hk (hp k hk)
  ·exact b.done i hi (fun hm=>(List.mem_cons.1 hm).elim e hn) k hk
theorem Bf.end_ {E:Nat->Nat->Prop} {a:Nat} {f:Nat->Nat} {P:Nat->Prop} (b:Bf E a f [] P):IsD E a f :=
 ⟨b.zero,b.le,fun i hi=>(b.lt i hi).2,fun i k hi e=>b.done i hi (List.not_mem_nil) k e⟩
def left (f:Nat->Nat) (q:List Nat):Nat:=2 * (64 - cnt (fnd f) 64)+q.length
end B2
end
section
open B1 B2
namespace B3
attribute [local irreducible] dst
theorem Ho {p q:Nat->Bool} {n:Nat} (h:∀ i,i < n->p i=true->q i=true):cnt p n<=cnt q n:=by
 induction n with
 | zero=>exact Nat.le_refl _
 | succ n ih =>
  have:=ih fun i hi=>h i (by omega)
  have h2:=h n (by omega)
  unfold cnt
  cases hp:p n
  ·simp; omega
  ·rw [h2 hp]; simp; omega
theorem Pw {p q:Nat->Bool} {n k:Nat} (h:∀ i,i < n->p i=true->q i=true) (hk:k < n) (h1:q k=true) (h2:p k=false):cnt p n < cnt q n:=by
 induction n with
 | zero=>omega
 | succ n ih =>
  unfold cnt
  by_cases e:k=n
  ·subst e
   have:=Ho (n:=k) fun i hi=>h i (by omega)
   rw [h1,h2]; simp; omega
  ·have:=ih (fun i hi=>h i (by omega)) (by omega)
   have h3:=h n (by omega)
   cases hp:p n
   ·simp; omega
   ·rw [h3 hp]; simp; omega
theorem Lr {p:Nat->Bool} {n:Nat} (h:n<=cnt p n):∀ i,i < n->p i=true:=by
 induction n with
 | zero=>intro i hi; omega
 | succ n ih =>
  unfold cnt at h
  have:=Bc p n
  intro i hi
  by_cases e:i=n
  ·subst e
   cases hp:p i with
   | true=>rfl
   | false=>rw [hp] at h; simp at h; omega
  ·exact ih (by split at h <;> omega) i (by omega)
def S (E:Nat->Nat->Prop) (a m i:Nat):Prop:=∃ l,l<=m/\W E l a i
open Classical in
noncomputable def sB (E:Nat->Nat->Prop) (a m i:Nat):Bool:=decide (S E a m i)
theorem qA {E:Nat->Nat->Prop} {a m i:Nat}:sB E a m i=true ↔ S E a m i:=by unfold sB; simp
theorem S.succ {E:Nat->Nat->Prop} {a m i:Nat} (h:S E a m i):S E a (m+1) i:=let ⟨l,h1,h2⟩:=h; ⟨l,by omega,h2⟩
theorem stab {E:Nat->Nat->Prop} {a m:Nat} (h:∀ i,S E a (m+1) i->S E a m i):∀ l i,W E l a i->S E a m i:=by
 intro l
 induction l with
 | zero=>intro i hi; exact ⟨0,Nat.zero_le _,hi⟩
 | succ l ih =>
  rintro i ⟨c,h1,h2⟩
  obtain ⟨q,q1,q2⟩:=ih c h1
  exact h i ⟨q+1,by omega,c,q2,h2⟩
theorem grow {E:Nat->Nat->Prop} {a n:Nat} (ha:a < n) (hE:∀ i k,E i k->k < n) (m:Nat):(∀ l i,W E l a i->S E a m i)\/m+1<=cnt (sB E a m) n:=by
 have hr:∀ l i,W E l a i->i < n:=by
  intro l i h
  cases l with
  | zero=>cases (h:a=i); exact ha
  | succ l=>obtain ⟨c,_,e⟩:=h; exact hE _ _ e
 induction m with
 | zero =>
  right
  have:0 < cnt (sB E a 0) n:=Ds ha (qA.2 ⟨0,Nat.le_refl _,rfl⟩)
  omega
 | succ m ih =>
  rcases ih with h|h
  ·exact .inl fun l i w=>(h l i w).succ
  ·by_cases hs:∀ i,S E a (m+1) i->S E a m i
   ·exact .inl fun l i w=>(stab hs l i w).succ
   ·right
    have ⟨i,h1,h2⟩:∃ i,S E a (m+1) i/\¬ S E a m i:=by
     apply Classical.byContradiction
     intro hn
     exact hs fun i hi=>Classical.byContradiction fun h2=>hn ⟨i,hi,h2⟩
    obtain ⟨l,hl,hw⟩:=h1
    have:=Pw (p:=sB E a m) (q:=sB E a (m+1)) (fun j _ hj=>qA.2 (qA.1 hj).succ) (hr l i hw) (qA.2 ⟨l,hl,hw⟩) (by
     cases hb:sB E a m i with
     | false=>rfl
     | true=>exact absurd (qA.1 hb) h2)
    omega
theorem short {E:Nat->Nat->Prop} {a n:Nat} (ha:a < n) (hE:∀ i k,E i k->k < n) {l i:Nat} (h:W E l a i):∃ q,q < n/\W E q a i:=by
 have hi:i < n:=by
  cases l with
  | zero=>cases (h:a=i); exact ha
  | succ l=>obtain ⟨c,_,e⟩:=h; exact hE _ _ e
 have key:S E a (n - 1) i:=by
  rcases grow ha hE (n - 1) with g|g
  ·exact g l i h
  ·exact qA.1 (Lr (by omega) i hi)
 obtain ⟨q,h1,h2⟩:=key
 exact ⟨q,by omega,h2⟩
theorem P9 {E:Nat->Nat->Prop} {a n:Nat} (ha:a < n) (hE:∀ i k,E i k->k < n) {l i:Nat} (h:W E l a i):dst E a i < n:=by
 obtain ⟨q,h1,h2⟩:=short ha hE h
 exact Nat.lt_of_le_of_lt (sG h2) h1
theorem Ly {E:Nat->Nat->Prop} {n:Nat} (hs:∀ a b,E a b->E b a) (hE:∀ i k,E i k->k < n) (h0:∀ i,i < n->dst E 0 i < 64) {a b:Nat} (ha:a < n) (hb:b < n):dst E a b < n :=
 P9 ha hE (((jG (h0 a ha)).rev hs).app (jG (h0 b hb)))
end B3
end
section
open Go Go.Eng Go.Proofs G1 G3 EV0 B1 B2
set_option maxRecDepth 100000
namespace S1
structure Of where
 links:Sq Int
 codes:Sq B
def inL (z:Int):SV:=.cons (.int .i64 z) .nil
def inE (s:Sq Int):SV:=.slice 1 s.n fun i=>inL (s.f i)
def ofL (o:Of):SV:=.cons (inE o.links) (.cons (stE o.codes) .nil)
def ofE (l:Sq Of):SV:=.slice 2 l.n fun i=>ofL (l.f i)
theorem tM (k:Keep) (hp:List (Nat×aG)) (m:Nat) (x:Int):sub k hp (m+3) (inL x) (inL x):=⟨⟨rfl,rfl⟩,trivial⟩
theorem eH (k:Keep) (hp:List (Nat×aG)) (m:Nat) (x:Of) (hk:loose k=true):sub k hp (m+10) (ofL x) (ofL x) :=
 ⟨⟨hk,rfl,rfl,fun (j:Nat) (_:j < x.links.n)=>Or.inl (tM k hp (m+5) _)⟩,⟨hk,rfl,rfl,fun (j:Nat) (_:j < x.codes.n)=>Or.inl (bX k hp (m+4) _)⟩,trivial⟩
def inD (s:SV):Option (Sq Int):=sqD (fun c=>aP (aJ c 0)) s
def sqT {T:Type} (d:T) (g:SV->Option T) (s:SV):T:=match g s with
 | some x=>x
 | none=>d
def ofD (s:SV):Option (Sq Of):=sqD (fun c=>⟨sqT ⟨0,fun _=>0⟩ inD (aJ c 0),sqT ⟨0,fun _=>[]⟩ stD (aJ c 1)⟩) s
def EO (l:Sq Of) (i k:Nat):Prop:=i < l.n/\∃ j,j < (l.f i).links.n/\(l.f i).links.f j=(k:Int)
structure Ac (l:Sq Of):Prop where
 n:l.n<=64
 ln:∀ i,i < l.n->(l.f i).links.n<=1000000
 lk:∀ i,i < l.n->∀ j,j < (l.f i).links.n->0<=(l.f i).links.f j/\(l.f i).links.f j < (l.n:Int)
theorem Ac.lt {l:Sq Of} (h:Ac l) {i k:Nat} (e:EO l i k):k < l.n:=by
 obtain ⟨hi,j,hj,e⟩:=e
 have:=(h.lk i hi j hj).2
 omega
class Zr {T:Type} (g:T->SV):Prop where
 p:∀ (k:Keep) (hp:List (Nat×aG)) (m:Nat) (x:T),loose k=true->sub k hp (m+30) (g x) (g x)
theorem zz {T:Type} {g:T->SV} [Zr g] {k:Keep} {hp:List (Nat×aG)} {m n:Nat} {f:Nat->T} (h:loose k=true):∀ j,j < n->oQ k (sub k hp (m+30)) (g (f j)) (g (f j)):=fun j _=>Or.inl (Zr.p k hp m (f j) h)
instance:Zr ofL:=⟨fun k hp m x h=>eH k hp (m+20) x h⟩
end S1
end
section
open Go Go.Eng Go.Proofs G7 G4 L3 L10 G1 G3 EV0 S1
set_option maxRecDepth 100000
namespace S10
structure Rn where
 id:B
 kind:Int
 owner:Int
 ring:Pts
 names:Sq Nm
 ended : Int
structure Sr where
 id:B
 owner:Int
 line:Pts
 names:Sq Nm
 ended : Int
structure Bu where
 id:B
 owner:Int
 ring:Pts
 ended : Int
structure Dr where
 id:B
 bld:B
 str:B
 owner:Int
 num:Hn
 pt:Pt
 frm:Int
 ended : Int
 after:Sq B
 why:Int
 office:Int
 veil:B
structure Un where
 id:B
 door:B
 txt:B
 frm:Int
 ended : Int
 why:Int
structure Sta where
 regions:Sq Rn
 streets:Sq Sr
 buildings:Sq Bu
 doors:Sq Dr
 units:Sq Un
 merged:Pts
 rulings:Pts
def rnL (x:Rn):SV:=.cons (.str x.id) (.cons (.int .i64 x.kind) (.cons (.int .i64 x.owner) (.cons (rgE x.ring) (.cons (nmE x.names) (.cons (.int .i64 x.ended) .nil)))))
def srL (x:Sr):SV:=.cons (.str x.id) (.cons (.int .i64 x.owner) (.cons (rgE x.line) (.cons (nmE x.names) (.cons (.int .i64 x.ended) .nil))))
def buL (x:Bu):SV:=.cons (.str x.id) (.cons (.int .i64 x.owner) (.cons (rgE x.ring) (.cons (.int .i64 x.ended) .nil)))
def drL (x:Dr):SV:=.cons (.str x.id) (.cons (.str x.bld) (.cons (.str x.str) (.cons (.int .i64 x.owner) (hnC x.num (.cons (.int .i64 x.pt.1) (.cons (.int .i64 x.pt.2) (.cons (.int .i64 x.frm) (.cons (.int .i64 x.ended) (.cons (stE x.after) (.cons (.int .i64 x.why) (.cons (.int .i64 x.office) (.cons (.str x.veil) .nil))))))))))))
def unL (x:Un):SV:=.cons (.str x.id) (.cons (.str x.door) (.cons (.str x.txt) (.cons (.int .i64 x.frm) (.cons (.int .i64 x.ended) (.cons (.int .i64 x.why) .nil)))))
def rnE (s:Sq Rn):SV:=.slice 6 s.n fun i=>rnL (s.f i)
def srE (s:Sq Sr):SV:=.slice 5 s.n fun i=>srL (s.f i)
def buE (s:Sq Bu):SV:=.slice 4 s.n fun i=>buL (s.f i)
def drE (s:Sq Dr):SV:=.slice 16 s.n fun i=>drL (s.f i)
def unE (s:Sq Un):SV:=.slice 6 s.n fun i=>unL (s.f i)
def W8 (s:Sta):SV:=.cons (rnE s.regions) (.cons (srE s.streets) (.cons (buE s.buildings) (.cons (drE s.doors) (.cons (unE s.units) (.cons (rgE s.merged) (.cons (rgE s.rulings) .nil))))))
def kM (s:Sta):SV:=.agg (W8 s)
theorem iE (k:Keep) (hp:List (Nat×aG)) (m:Nat) (x:Rn) (hk:loose k=true):sub k hp (m+20) (rnL x) (rnL x):=by
 repeat' (first|exact hk|apply And.intro|exact trivial|exact rfl|exact lz fun _=>rfl)
theorem iF (k:Keep) (hp:List (Nat×aG)) (m:Nat) (x:Sr) (hk:loose k=true):sub k hp (m+20) (srL x) (srL x):=by
 repeat' (first|exact hk|apply And.intro|exact trivial|exact rfl|exact lz fun _=>rfl)
theorem iD (k:Keep) (hp:List (Nat×aG)) (m:Nat) (x:Bu) (hk:loose k=true):sub k hp (m+20) (buL x) (buL x):=by
 repeat' (first|exact hk|apply And.intro|exact trivial|exact rfl|exact lz fun _=>rfl)
theorem fT (k:Keep) (hp:List (Nat×aG)) (m:Nat) (x:Dr) (hk:loose k=true):sub k hp (m+30) (drL x) (drL x):=by
 repeat' (first|exact hk|apply And.intro|exact trivial|exact rfl|exact lz fun _=>rfl)
theorem Xa (k:Keep) (hp:List (Nat×aG)) (m:Nat) (x:Un):sub k hp (m+20) (unL x) (unL x):=by
 repeat' (first|apply And.intro|exact trivial|exact rfl|exact lz fun _=>rfl)
def Fw (s:SV):Pts:=sqT ⟨0,fun _=>(0,0)⟩ pW s
def rnD (s:SV):Option (Sq Rn):=sqD (fun c=>⟨bH (aJ c 0),aP (aJ c 1),aP (aJ c 2),Fw (aJ c 3),sqT ⟨0,fun _=>⟨[],0,[]⟩⟩ nmD (aJ c 4),aP (aJ c 5)⟩) s
def srD (s:SV):Option (Sq Sr):=sqD (fun c=>⟨bH (aJ c 0),aP (aJ c 1),Fw (aJ c 2),sqT ⟨0,fun _=>⟨[],0,[]⟩⟩ nmD (aJ c 3),aP (aJ c 4)⟩) s
def buD (s:SV):Option (Sq Bu):=sqD (fun c=>⟨bH (aJ c 0),aP (aJ c 1),Fw (aJ c 2),aP (aJ c 3)⟩) s
def drD (s:SV):Option (Sq Dr):=sqD (fun c=>⟨bH (aJ c 0),bH (aJ c 1),bH (aJ c 2),aP (aJ c 3),hnA c 4,(aP (aJ c 8),aP (aJ c 9)),aP (aJ c 10),aP (aJ c 11),sqT ⟨0,fun _=>[]⟩ stD (aJ c 12),aP (aJ c 13),aP (aJ c 14),bH (aJ c 15)⟩) s
def unD (s:SV):Option (Sq Un):=sqD (fun c=>⟨bH (aJ c 0),bH (aJ c 1),bH (aJ c 2),aP (aJ c 3),aP (aJ c 4),aP (aJ c 5)⟩) s
def rF:SV->Option Sta
 | .agg c=>match rnD (aJ c 0),srD (aJ c 1),buD (aJ c 2),drD (aJ c 3),unD (aJ c 4),pW (aJ c 5),pW (aJ c 6) with
  | some a,some b,some c,some d,some e,some f,some g=>some ⟨a,b,c,d,e,f,g⟩
  | _,_,_,_,_,_,_=>none
 | _=>none
structure okR (x:Rn):Prop where
 id:okT x.id
 ring:x.ring.n<=1000000
 names:okS x.names okN
structure wR (x:Sr):Prop where
 id:okT x.id
 line:x.line.n<=1000000
 names:okS x.names okN
structure okB (x:Bu):Prop where
 id:okT x.id
 ring:x.ring.n<=1000000
structure okD (x:Dr):Prop where
 id:okT x.id
 bld:okT x.bld
 str:okT x.str
 num:okH x.num
 after:okS x.after okT
 veil:okT x.veil
structure okU (x:Un):Prop where
 id:okT x.id
 door:okT x.door
 txt:okT x.txt
structure kJ (s:Sta):Prop where
 regions:okS s.regions okR
 streets:okS s.streets wR
 buildings:okS s.buildings okB
 doors:okS s.doors okD
 units:okS s.units okU
 merged:s.merged.n<=1000000
 rulings:s.rulings.n<=1000000
instance:Zr rnL:=⟨fun k hp m x h=>iE k hp (m+10) x h⟩
instance:Zr srL:=⟨fun k hp m x h=>iF k hp (m+10) x h⟩
instance:Zr buL:=⟨fun k hp m x h=>iD k hp (m+10) x h⟩
instance:Zr drL:=⟨fun k hp m x h=>fT k hp (m+0) x h⟩
end S10
end
section
open Go Go.Eng Go.Proofs F1 F6 G7 G4 L3 L10 G1 G3 EV0 S1 S10
set_option maxRecDepth 100000
namespace S11
def g58:List Nat:=[0,2,1,3]
def c58:aH :=
 .seq (.region g58 [(zo 2 (.box 55 (.s 0))),(zo 3 (.move cF))]) (.seq (.region g58 [(fa 4 0 2),(ld 5 4),(ld 6 1),(zo 7 (.bin (.eql) (.s 5) (.s 6))),(mv 3 7)]) .ret)
theorem e58:aI Tryz.prog 58 g58 [] [] []=some (c58,[.slot 3],8):=by kernel_rfl
def drP (c:B) (x:Dr):Bool:=decide (x.id=c)
def dr0:Eng.Spec where
 X:=Dr×B
 args:=fun x=>.cons (.agg (drL x.1)) (.cons (.cptr (.cons (.str x.2) .nil)) .nil)
 pre:=fun x=>okD x.1
 res:=fun x=>.bool (drP x.2 x.1)
 inst:=fun
  | .cons (.agg c) (.cons (.cptr (.cons (.str z) _)) _)=>some (⟨bH (aJ c 0),bH (aJ c 1),bH (aJ c 2),aP (aJ c 3),hnA c 4,(aP (aJ c 8),aP (aJ c 9)),aP (aJ c 10),aP (aJ c 11),sqT ⟨0,fun _=>[]⟩ stD (aJ c 12),aP (aJ c 13),aP (aJ c 14),bH (aJ c 15)⟩,z)
  | _=>none
theorem P7:dr0.Ok Tryz.prog 58:=by
 refine Eng.Spec.okR e58 .nil (fun _=>[]) (fun _ _=>aA.nil) ?_
 rintro ⟨x,c⟩ _
 refine ⟨trivial,?_⟩
 repeat' (first|apply And.intro|exact trivial|exact rfl|exact lz fun _=>rfl)
def g78:List Nat:=[7,9,1,0,16,5,8,4]
def c78:aH :=
 .seq (.region g78 [(zo 4 (.move (cj 0)))]) (.seq (.seq (.region g78 [(mv 6 0),(zo 7 (.lenSl (.s 6))),(zo 8 (.move (cj 0)))]) (.block 0 (.loop 0 [9,10,5,11,12,13,14,15,16,17,4,18,8] (.seq (.region g78 [(zo 9 (.bin (.lss) (.s 8) (.s 7)))]) (.seq (.cond (.s 9) .skip (.exit 0)) (.seq (.block 1 (.seq (.region g78 [(mv 10 8),(mv 5 10)]) (.seq (.region g78 [(mv 11 1),(mv 12 0),(mv 13 5),(zo 14 (.idxSl 16 (.s 12) (.s 13))),(zo 15 (.load 16 true (.s 14))),(zo 16 (.call (.s 11) [.s 15]))]) (.cond (.s 16) (.seq (.region g78 [(mv 17 5),(mv 4 17)]) .ret) .skip)))) (.region g78 [(zo 18 (.bin (.add) (.s 8) (cj 1))),(mv 8 18)]))))))) (.seq (.region g78 [(zo 4 (.move (cj (-1))))]) .ret))
theorem e78:aI Tryz.prog 78 g78 [] [] []=some (c78,[.slot 4],19):=by kernel_rfl
def g57:List Nat:=[0,1,4]
def c57:aH :=
 .seq (.region g57 [(zo 4 (.move (cj 0)))]) (.seq (.region g57 [(mv 5 0),(mv 6 1),(zo 7 (.call (.c (.fn 78)) [.s 5,.s 6])),(mv 4 7)]) .ret)
theorem e57:aI Tryz.prog 57 g57 [] [] []=some (c57,[.slot 4],8):=by kernel_rfl
def drI:Eng.Spec where
 X:=Sq Dr×B
 args:=fun x=>.cons (drE x.1) (.cons (.fn 58 (.cons (.cptr (.cons (.str x.2) .nil)) .nil)) .nil)
 pre:=fun x=>okS x.1 okD
 res:=fun x=>.int .i64 (aZ (fun i=>drP x.2 (x.1.f i)) x.1.n)
 inst:=fun
  | .cons a (.cons (.fn _ (.cons (.cptr (.cons c _)) _)) .nil)=>match drD a,oK c with
   | some r,some c=>some (r,c)
   | _,_=>none
  | _=>none
theorem P8:drI.Ok Tryz.prog 78:=by
 refine Eng.Spec.okR e78 .nil (fun _=>[(58,.p dr0)]) (fun _ _=>aA.p P7 aA.nil) ?_
 rintro ⟨r,c⟩ ⟨(hn:r.n<=1000000),(hel:∀ i,i < r.n->okD (r.f i))⟩
 refine ⟨trivial,?_⟩
 repeat' (first|apply And.intro|exact trivial|exact rfl|exact lz fun _=>rfl|exact S1.zz rfl)
 refine ⟨⟨Nat,fun i=>i<=r.n/\orB (fun i=>drP c (r.f i)) i=false,fun i=>[(8,.int .i64 (i:Int))],fun _=>[],fun i=>r.n - i⟩,0,⟨Nat.zero_le _,rfl⟩,?_,?_⟩
 ·repeat' (first|apply And.intro|exact trivial|exact rfl|exact lz fun _=>rfl|exact S1.zz rfl)
 rintro (i:Nat) ⟨(hi:i<=r.n),(hf:orB (fun i=>drP c (r.f i)) i=false)⟩
 repeat' (first|apply And.intro|exact trivial|exact rfl|exact lz fun _=>rfl|exact S1.zz rfl)
 ·refine fun (h:decide ((i:Int) < (r.n:Int))=true)=>?_
  have hi1:(i:Int) < (r.n:Int):=of_decide_eq_true h
  have hil:i < r.n:=by omega
  have hi0:(0:Int)<=(i:Int):=by omega
  have hok:=hel i hil
  have b1:-9223372036854775808<=(i:Int)+1:=by omega
  have b2:(i:Int)+1<=9223372036854775807:=by omega
  repeat' (first|with_reducible exact hi1|with_reducible exact hi0|apply And.intro|exact trivial|exact rfl|exact lz fun _=>rfl|exact hok)
  ·refine fun (hc:drP c (r.f i)=true)=>?_
   have e:(i:Int)=aZ (fun i=>drP c (r.f i)) r.n:=(cI hf hc hil).symm
   repeat' (first|exact e|apply And.intro|exact trivial|exact rfl|exact lz fun _=>rfl)
  ·refine fun (hc:drP c (r.f i)=false)=>?_
   have hf1:orB (fun i=>drP c (r.f i)) (i+1)=false:=by
    simp only [orB]
    rw [hf]
    exact hc
   repeat' (first|with_reducible exact b1|with_reducible exact b2|apply And.intro|exact trivial|exact rfl|exact lz fun _=>rfl)
   refine Exists.intro (i+1) ?_
   refine And.intro (And.intro hil hf1) ?_
   repeat' (first|apply And.intro|exact trivial|exact rfl|exact lz fun _=>rfl|exact S1.zz rfl)
   show r.n - (i+1) < r.n - i
   omega
 ·refine fun (h:decide ((i:Int) < (r.n:Int))=false)=>?_
  have hi1:¬ (i:Int) < (r.n:Int):=of_decide_eq_false h
  have e:i=r.n:=by omega
  have ef:-1=aZ (fun i=>drP c (r.f i)) r.n:=by rw [<- e,cA hf]
  repeat' (first|exact ef|apply And.intro|exact trivial|exact rfl|exact lz fun _=>rfl)
def drS:Eng.Spec where
 X:=Sq Dr×B
 args:=drI.args
 pre:=fun x=>okS x.1 okD
 res:=drI.res
 inst:=drI.inst
theorem Hv:drS.Ok Tryz.prog 57:=by
 refine Eng.Spec.okR e57 .nil (fun _=>[(78,.p drI)]) (fun _ _=>aA.p P8 aA.nil) ?_
 rintro ⟨r,c⟩ ⟨(hn:r.n<=1000000),(hel:∀ i,i < r.n->okD (r.f i))⟩
 refine ⟨trivial,?_⟩
 repeat' (first|exact hn|exact hel|apply And.intro|exact trivial|exact rfl|exact lz fun _=>rfl|exact S1.zz rfl)
def g100:List Nat:=[0,2,1,3]
def c100:aH :=
 .seq (.region g100 [(zo 2 (.box 72 (.s 0))),(zo 3 (.move cF))]) (.seq (.region g100 [(fa 4 0 2),(ld 5 4),(ld 6 1),(zo 7 (.bin (.eql) (.s 5) (.s 6))),(mv 3 7)]) .ret)
theorem e100:aI Tryz.prog 100 g100 [] [] []=some (c100,[.slot 3],8):=by kernel_rfl
def buP (c:B) (x:Bu):Bool:=decide (x.id=c)
def bu0:Eng.Spec where
 X:=Bu×B
 args:=fun x=>.cons (.agg (buL x.1)) (.cons (.cptr (.cons (.str x.2) .nil)) .nil)
 pre:=fun x=>okB x.1
 res:=fun x=>.bool (buP x.2 x.1)
 inst:=fun
  | .cons (.agg c) (.cons (.cptr (.cons (.str z) _)) _)=>some (⟨bH (aJ c 0),aP (aJ c 1),Fw (aJ c 2),aP (aJ c 3)⟩,z)
  | _=>none
theorem Po:bu0.Ok Tryz.prog 100:=by
 refine Eng.Spec.okR e100 .nil (fun _=>[]) (fun _ _=>aA.nil) ?_
 rintro ⟨x,c⟩ _
 refine ⟨trivial,?_⟩
 repeat' (first|apply And.intro|exact trivial|exact rfl|exact lz fun _=>rfl)
def g161:List Nat:=[7,9,1,0,16,5,8,4]
def c161:aH :=
 .seq (.region g161 [(zo 4 (.move (cj 0)))]) (.seq (.seq (.region g161 [(mv 6 0),(zo 7 (.lenSl (.s 6))),(zo 8 (.move (cj 0)))]) (.block 0 (.loop 0 [9,10,5,11,12,13,14,15,16,17,4,18,8] (.seq (.region g161 [(zo 9 (.bin (.lss) (.s 8) (.s 7)))]) (.seq (.cond (.s 9) .skip (.exit 0)) (.seq (.block 1 (.seq (.region g161 [(mv 10 8),(mv 5 10)]) (.seq (.region g161 [(mv 11 1),(mv 12 0),(mv 13 5),(zo 14 (.idxSl 4 (.s 12) (.s 13))),(zo 15 (.load 4 true (.s 14))),(zo 16 (.call (.s 11) [.s 15]))]) (.cond (.s 16) (.seq (.region g161 [(mv 17 5),(mv 4 17)]) .ret) .skip)))) (.region g161 [(zo 18 (.bin (.add) (.s 8) (cj 1))),(mv 8 18)]))))))) (.seq (.region g161 [(zo 4 (.move (cj (-1))))]) .ret))
theorem e161:aI Tryz.prog 161 g161 [] [] []=some (c161,[.slot 4],19):=by kernel_rfl
def g99:List Nat:=[0,1,4]
def c99:aH :=
 .seq (.region g99 [(zo 4 (.move (cj 0)))]) (.seq (.region g99 [(mv 5 0),(mv 6 1),(zo 7 (.call (.c (.fn 161)) [.s 5,.s 6])),(mv 4 7)]) .ret)
theorem e99:aI Tryz.prog 99 g99 [] [] []=some (c99,[.slot 4],8):=by kernel_rfl
def buI:Eng.Spec where
 X:=Sq Bu×B
 args:=fun x=>.cons (buE x.1) (.cons (.fn 100 (.cons (.cptr (.cons (.str x.2) .nil)) .nil)) .nil)
 pre:=fun x=>okS x.1 okB
 res:=fun x=>.int .i64 (aZ (fun i=>buP x.2 (x.1.f i)) x.1.n)
 inst:=fun
  | .cons a (.cons (.fn _ (.cons (.cptr (.cons c _)) _)) .nil)=>match buD a,oK c with
   | some r,some c=>some (r,c)
   | _,_=>none
  | _=>none
theorem Pq:buI.Ok Tryz.prog 161:=by
 refine Eng.Spec.okR e161 .nil (fun _=>[(100,.p bu0)]) (fun _ _=>aA.p Po aA.nil) ?_
 rintro ⟨r,c⟩ ⟨(hn:r.n<=1000000),(hel:∀ i,i < r.n->okB (r.f i))⟩
 refine ⟨trivial,?_⟩
 repeat' (first|apply And.intro|exact trivial|exact rfl|exact lz fun _=>rfl|exact S1.zz rfl)
 refine ⟨⟨Nat,fun i=>i<=r.n/\orB (fun i=>buP c (r.f i)) i=false,fun i=>[(8,.int .i64 (i:Int))],fun _=>[],fun i=>r.n - i⟩,0,⟨Nat.zero_le _,rfl⟩,?_,?_⟩
 ·repeat' (first|apply And.intro|exact trivial|exact rfl|exact lz fun _=>rfl|exact S1.zz rfl)
 rintro (i:Nat) ⟨(hi:i<=r.n),(hf:orB (fun i=>buP c (r.f i)) i=false)⟩
 repeat' (first|apply And.intro|exact trivial|exact rfl|exact lz fun _=>rfl|exact S1.zz rfl)
 ·refine fun (h:decide ((i:Int) < (r.n:Int))=true)=>?_
  have hi1:(i:Int) < (r.n:Int):=of_decide_eq_true h
  have hil:i < r.n:=by omega
  have hi0:(0:Int)<=(i:Int):=by omega
  have hok:=hel i hil
  have b1:-9223372036854775808<=(i:Int)+1:=by omega
  have b2:(i:Int)+1<=9223372036854775807:=by omega
  repeat' (first|with_reducible exact hi1|with_reducible exact hi0|apply And.intro|exact trivial|exact rfl|exact lz fun _=>rfl|exact hok)
  ·refine fun (hc:buP c (r.f i)=true)=>?_
   have e:(i:Int)=aZ (fun i=>buP c (r.f i)) r.n:=(cI hf hc hil).symm
   repeat' (first|exact e|apply And.intro|exact trivial|exact rfl|exact lz fun _=>rfl)
  ·refine fun (hc:buP c (r.f i)=false)=>?_
   have hf1:orB (fun i=>buP c (r.f i)) (i+1)=false:=by
    simp only [orB]
    rw [hf]
    exact hc
   repeat' (first|with_reducible exact b1|with_reducible exact b2|apply And.intro|exact trivial|exact rfl|exact lz fun _=>rfl)
   refine Exists.intro (i+1) ?_
   refine And.intro (And.intro hil hf1) ?_
   repeat' (first|apply And.intro|exact trivial|exact rfl|exact lz fun _=>rfl|exact S1.zz rfl)
   show r.n - (i+1) < r.n - i
   omega
 ·refine fun (h:decide ((i:Int) < (r.n:Int))=false)=>?_
  have hi1:¬ (i:Int) < (r.n:Int):=of_decide_eq_false h
  have e:i=r.n:=by omega
  have ef:-1=aZ (fun i=>buP c (r.f i)) r.n:=by rw [<- e,cA hf]
  repeat' (first|exact ef|apply And.intro|exact trivial|exact rfl|exact lz fun _=>rfl)
def buS:Eng.Spec where
 X:=Sq Bu×B
 args:=buI.args
 pre:=fun x=>okS x.1 okB
 res:=buI.res
 inst:=buI.inst
theorem Hi:buS.Ok Tryz.prog 99:=by
 refine Eng.Spec.okR e99 .nil (fun _=>[(161,.p buI)]) (fun _ _=>aA.p Pq aA.nil) ?_
 rintro ⟨r,c⟩ ⟨(hn:r.n<=1000000),(hel:∀ i,i < r.n->okB (r.f i))⟩
 refine ⟨trivial,?_⟩
 repeat' (first|exact hn|exact hel|apply And.intro|exact trivial|exact rfl|exact lz fun _=>rfl|exact S1.zz rfl)
def g102:List Nat:=[0,2,1,3]
def c102:aH :=
 .seq (.region g102 [(zo 2 (.box 70 (.s 0))),(zo 3 (.move cF))]) (.seq (.region g102 [(fa 4 0 2),(ld 5 4),(ld 6 1),(zo 7 (.bin (.eql) (.s 5) (.s 6))),(mv 3 7)]) .ret)
theorem e102:aI Tryz.prog 102 g102 [] [] []=some (c102,[.slot 3],8):=by kernel_rfl
def srP (c:B) (x:Sr):Bool:=decide (x.id=c)
def sr0:Eng.Spec where
 X:=Sr×B
 args:=fun x=>.cons (.agg (srL x.1)) (.cons (.cptr (.cons (.str x.2) .nil)) .nil)
 pre:=fun x=>wR x.1
 res:=fun x=>.bool (srP x.2 x.1)
 inst:=fun
  | .cons (.agg c) (.cons (.cptr (.cons (.str z) _)) _)=>some (⟨bH (aJ c 0),aP (aJ c 1),Fw (aJ c 2),sqT ⟨0,fun _=>⟨[],0,[]⟩⟩ nmD (aJ c 3),aP (aJ c 4)⟩,z)
  | _=>none
theorem Si:sr0.Ok Tryz.prog 102:=by
 refine Eng.Spec.okR e102 .nil (fun _=>[]) (fun _ _=>aA.nil) ?_
 rintro ⟨x,c⟩ _
 refine ⟨trivial,?_⟩
 repeat' (first|apply And.intro|exact trivial|exact rfl|exact lz fun _=>rfl)
def g162:List Nat:=[7,9,1,0,16,5,8,4]
def c162:aH :=
 .seq (.region g162 [(zo 4 (.move (cj 0)))]) (.seq (.seq (.region g162 [(mv 6 0),(zo 7 (.lenSl (.s 6))),(zo 8 (.move (cj 0)))]) (.block 0 (.loop 0 [9,10,5,11,12,13,14,15,16,17,4,18,8] (.seq (.region g162 [(zo 9 (.bin (.lss) (.s 8) (.s 7)))]) (.seq (.cond (.s 9) .skip (.exit 0)) (.seq (.block 1 (.seq (.region g162 [(mv 10 8),(mv 5 10)]) (.seq (.region g162 [(mv 11 1),(mv 12 0),(mv 13 5),(zo 14 (.idxSl 5 (.s 12) (.s 13))),(zo 15 (.load 5 true (.s 14))),(zo 16 (.call (.s 11) [.s 15]))]) (.cond (.s 16) (.seq (.region g162 [(mv 17 5),(mv 4 17)]) .ret) .skip)))) (.region g162 [(zo 18 (.bin (.add) (.s 8) (cj 1))),(mv 8 18)]))))))) (.seq (.region g162 [(zo 4 (.move (cj (-1))))]) .ret))
theorem e162:aI Tryz.prog 162 g162 [] [] []=some (c162,[.slot 4],19):=by kernel_rfl
def g101:List Nat:=[0,1,4]
def c101:aH :=
 .seq (.region g101 [(zo 4 (.move (cj 0)))]) (.seq (.region g101 [(mv 5 0),(mv 6 1),(zo 7 (.call (.c (.fn 162)) [.s 5,.s 6])),(mv 4 7)]) .ret)
theorem e101:aI Tryz.prog 101 g101 [] [] []=some (c101,[.slot 4],8):=by kernel_rfl
def srI:Eng.Spec where
 X:=Sq Sr×B
 args:=fun x=>.cons (srE x.1) (.cons (.fn 102 (.cons (.cptr (.cons (.str x.2) .nil)) .nil)) .nil)
 pre:=fun x=>okS x.1 wR
 res:=fun x=>.int .i64 (aZ (fun i=>srP x.2 (x.1.f i)) x.1.n)
 inst:=fun
  | .cons a (.cons (.fn _ (.cons (.cptr (.cons c _)) _)) .nil)=>match srD a,oK c with
   | some r,some c=>some (r,c)
   | _,_=>none
  | _=>none
theorem Sk:srI.Ok Tryz.prog 162:=by
 refine Eng.Spec.okR e162 .nil (fun _=>[(102,.p sr0)]) (fun _ _=>aA.p Si aA.nil) ?_
 rintro ⟨r,c⟩ ⟨(hn:r.n<=1000000),(hel:∀ i,i < r.n->wR (r.f i))⟩
 refine ⟨trivial,?_⟩
 repeat' (first|apply And.intro|exact trivial|exact rfl|exact lz fun _=>rfl|exact S1.zz rfl)
 refine ⟨⟨Nat,fun i=>i<=r.n/\orB (fun i=>srP c (r.f i)) i=false,fun i=>[(8,.int .i64 (i:Int))],fun _=>[],fun i=>r.n - i⟩,0,⟨Nat.zero_le _,rfl⟩,?_,?_⟩
 ·repeat' (first|apply And.intro|exact trivial|exact rfl|exact lz fun _=>rfl|exact S1.zz rfl)
 rintro (i:Nat) ⟨(hi:i<=r.n),(hf:orB (fun i=>srP c (r.f i)) i=false)⟩
 repeat' (first|apply And.intro|exact trivial|exact rfl|exact lz fun _=>rfl|exact S1.zz rfl)
 ·refine fun (h:decide ((i:Int) < (r.n:Int))=true)=>?_
  have hi1:(i:Int) < (r.n:Int):=of_decide_eq_true h
  have hil:i < r.n:=by omega
  have hi0:(0:Int)<=(i:Int):=by omega
  have hok:=hel i hil
  have b1:-9223372036854775808<=(i:Int)+1:=by omega
  have b2:(i:Int)+1<=9223372036854775807:=by omega
  repeat' (first|with_reducible exact hi1|with_reducible exact hi0|apply And.intro|exact trivial|exact rfl|exact lz fun _=>rfl|exact hok)
  ·refine fun (hc:srP c (r.f i)=true)=>?_
   have e:(i:Int)=aZ (fun i=>srP c (r.f i)) r.n:=(cI hf hc hil).symm
   repeat' (first|exact e|apply And.intro|exact trivial|exact rfl|exact lz fun _=>rfl)
  ·refine fun (hc:srP c (r.f i)=false)=>?_
   have hf1:orB (fun i=>srP c (r.f i)) (i+1)=false:=by
    simp only [orB]
    rw [hf]
    exact hc
   repeat' (first|with_reducible exact b1|with_reducible exact b2|apply And.intro|exact trivial|exact rfl|exact lz fun _=>rfl)
   refine Exists.intro (i+1) ?_
   refine And.intro (And.intro hil hf1) ?_
   repeat' (first|apply And.intro|exact trivial|exact rfl|exact lz fun _=>rfl|exact S1.zz rfl)
   show r.n - (i+1) < r.n - i
   omega
 ·refine fun (h:decide ((i:Int) < (r.n:Int))=false)=>?_
  have hi1:¬ (i:Int) < (r.n:Int):=of_decide_eq_false h
  have e:i=r.n:=by omega
  have ef:-1=aZ (fun i=>srP c (r.f i)) r.n:=by rw [<- e,cA hf]
  repeat' (first|exact ef|apply And.intro|exact trivial|exact rfl|exact lz fun _=>rfl)
def srS:Eng.Spec where
 X:=Sq Sr×B
 args:=srI.args
 pre:=fun x=>okS x.1 wR
 res:=srI.res
 inst:=srI.inst
theorem Ki:srS.Ok Tryz.prog 101:=by
 refine Eng.Spec.okR e101 .nil (fun _=>[(162,.p srI)]) (fun _ _=>aA.p Sk aA.nil) ?_
 rintro ⟨r,c⟩ ⟨(hn:r.n<=1000000),(hel:∀ i,i < r.n->wR (r.f i))⟩
 refine ⟨trivial,?_⟩
 repeat' (first|exact hn|exact hel|apply And.intro|exact trivial|exact rfl|exact lz fun _=>rfl|exact S1.zz rfl)
end S11
end
section
open Go Go.Eng Go.Proofs F1 F6 F10 G7 G4 L3 L10 G1 G3 EV0 S1 S10 S11
set_option maxRecDepth 100000
namespace S12
attribute [local irreducible] lY
def g37:List Nat:=[0,1,2,3,4]
def c37:aH :=
 .seq (.region g37 [(zo 2 (.box 30 (.s 0))),(zo 3 (.box 9 (.s 1))),(zo 4 (.move (cj 0)))]) (.seq (.region g37 [(fa 5 3 2),(ld 6 5),(zo 7 (.mkfn 58 [.s 3])),(zo 8 (.call (.c (.fn 57)) [.s 6,.s 7])),(mv 4 8)]) .ret)
theorem e37:aI Tryz.prog 37 g37 [] [] []=some (c37,[.slot 4],9):=by kernel_rfl
def fdV (s:Sta) (id:B):Int:=aZ (fun i=>drP id (s.doors.f i)) s.doors.n
def fdS:Eng.Spec where
 X:=Sta×B
 args:=fun x=>.cons (kM x.1) (.cons (.str x.2) .nil)
 pre:=fun x=>okS x.1.doors okD
 res:=fun x=>.int .i64 (fdV x.1 x.2)
 inst:=EV0.two rF oK
theorem Dz:fdS.Ok Tryz.prog 37:=by
 refine Eng.Spec.okR e37 .nil (fun _=>[(57,.p drS)]) (fun _ _=>aA.p Hv aA.nil) ?_
 rintro ⟨s,id⟩ ⟨(hn:s.doors.n<=1000000),(hel:∀ i,i < s.doors.n->okD (s.doors.f i))⟩
 refine ⟨trivial,?_⟩
 repeat' (first|exact hn|exact hel|apply And.intro|exact trivial|exact rfl|exact lz fun _=>rfl|exact S1.zz rfl)
def g67:List Nat:=[0,1,2,3,4]
def c67:aH :=
 .seq (.region g67 [(zo 2 (.box 30 (.s 0))),(zo 3 (.box 9 (.s 1))),(zo 4 (.move (cj 0)))]) (.seq (.region g67 [(fa 5 2 2),(ld 6 5),(zo 7 (.mkfn 100 [.s 3])),(zo 8 (.call (.c (.fn 99)) [.s 6,.s 7])),(mv 4 8)]) .ret)
theorem e67:aI Tryz.prog 67 g67 [] [] []=some (c67,[.slot 4],9):=by kernel_rfl
def fbV (s:Sta) (id:B):Int:=aZ (fun i=>buP id (s.buildings.f i)) s.buildings.n
def fbS:Eng.Spec where
 X:=Sta×B
 args:=fun x=>.cons (kM x.1) (.cons (.str x.2) .nil)
 pre:=fun x=>okS x.1.buildings okB
 res:=fun x=>.int .i64 (fbV x.1 x.2)
 inst:=EV0.two rF oK
theorem Uc:fbS.Ok Tryz.prog 67:=by
 refine Eng.Spec.okR e67 .nil (fun _=>[(99,.p buS)]) (fun _ _=>aA.p Hi aA.nil) ?_
 rintro ⟨s,id⟩ ⟨(hn:s.buildings.n<=1000000),(hel:∀ i,i < s.buildings.n->okB (s.buildings.f i))⟩
 refine ⟨trivial,?_⟩
 repeat' (first|exact hn|exact hel|apply And.intro|exact trivial|exact rfl|exact lz fun _=>rfl|exact S1.zz rfl)
def g68:List Nat:=[0,1,2,3,4]
def c68:aH :=
 .seq (.region g68 [(zo 2 (.box 30 (.s 0))),(zo 3 (.box 9 (.s 1))),(zo 4 (.move (cj 0)))]) (.seq (.region g68 [(fa 5 1 2),(ld 6 5),(zo 7 (.mkfn 102 [.s 3])),(zo 8 (.call (.c (.fn 101)) [.s 6,.s 7])),(mv 4 8)]) .ret)
theorem e68:aI Tryz.prog 68 g68 [] [] []=some (c68,[.slot 4],9):=by kernel_rfl
def fsV (s:Sta) (id:B):Int:=aZ (fun i=>srP id (s.streets.f i)) s.streets.n
def fsS:Eng.Spec where
 X:=Sta×B
 args:=fun x=>.cons (kM x.1) (.cons (.str x.2) .nil)
 pre:=fun x=>okS x.1.streets wR
 res:=fun x=>.int .i64 (fsV x.1 x.2)
 inst:=EV0.two rF oK
theorem Uf:fsS.Ok Tryz.prog 68:=by
 refine Eng.Spec.okR e68 .nil (fun _=>[(101,.p srS)]) (fun _ _=>aA.p Ki aA.nil) ?_
 rintro ⟨s,id⟩ ⟨(hn:s.streets.n<=1000000),(hel:∀ i,i < s.streets.n->wR (s.streets.f i))⟩
 refine ⟨trivial,?_⟩
 repeat' (first|exact hn|exact hel|apply And.intro|exact trivial|exact rfl|exact lz fun _=>rfl|exact S1.zz rfl)
def g65:List Nat:=[1,0,2,6]
def c65:aH :=
 .seq (.region g65 [(zo 6 (.move cF))]) (.seq (.region g65 [(mv 7 0),(mv 8 1),(zo 9 (.bin (.geq) (.s 7) (.s 8))),(mv 10 9),(mg 11 10 true 0),(mg 12 10 true 2),(zg 13 10 true (.bin (.leq) (.s 11) (.s 12))),(zo 14 (.pick (.s 10) (.s 13) cF)),(mv 6 14)]) .ret)
theorem e65:aI Tryz.prog 65 g65 [] [] []=some (c65,[.slot 6],15):=by kernel_rfl
def Mk:Eng.Spec where
 X:=Int×Int×Int
 args:=fun x=>.cons (.int .i64 x.1) (.cons (.int .i64 x.2.1) (.cons (.int .i64 x.2.2) .nil))
 pre:=fun _=>True
 res:=fun x=>.bool (bI x.1 x.2.1 x.2.2)
 inst:=fun
  | .cons (.int _ a) (.cons (.int _ b) (.cons (.int _ c) _))=>some (a,b,c)
  | _=>none
theorem Io:Mk.Ok Tryz.prog 65:=by
 refine Eng.Spec.okR e65 .nil (fun _=>[]) (fun _ _=>aA.nil) ?_
 rintro ⟨a,b,c⟩ _
 have e:aE (decide (b<=a)) (.s 13) cF (decide (a<=c)) false=bI a b c:=by rw [aF]; rfl
 refine ⟨trivial,?_⟩
 repeat' (first|exact e|apply And.intro|exact trivial|exact rfl|exact lz fun _=>rfl|exact S1.zz rfl)
def g44:List Nat:=[0,1,2,6]
def c44:aH :=
 .seq (.region g44 [(zo 6 (.move cF))]) (.seq (.region g44 [(mv 7 0),(zo 8 (.call (.c (.fn 65)) [.s 7,cj 0,cj 63])),(mv 9 8),(mg 10 9 true 1),(zg 11 9 true (.call (.c (.fn 65)) [.s 10,cj (-1),cj 100000])),(zo 12 (.pick (.s 9) (.s 11) cF)),(mv 13 12),(mg 14 13 true 2),(zg 15 13 true (.call (.c (.fn 65)) [.s 14,cj 0,cj 100000])),(zo 16 (.pick (.s 13) (.s 15) cF)),(mv 6 16)]) .ret)
theorem e44:aI Tryz.prog 44 g44 [] [] []=some (c44,[.slot 6],17):=by kernel_rfl
def jV (a b c:Int):Bool:=(bI a 0 63 && bI b (-1) 100000) && bI c 0 100000
def Rz:Eng.Spec where
 X:=Int×Int×Int
 args:=fun x=>.cons (.int .i64 x.1) (.cons (.int .i64 x.2.1) (.cons (.int .i64 x.2.2) .nil))
 pre:=fun _=>True
 res:=fun x=>.bool (jV x.1 x.2.1 x.2.2)
 inst:=Mk.inst
theorem Jl:Rz.Ok Tryz.prog 44:=by
 refine Eng.Spec.okR e44 .nil (fun _=>[(65,.p Mk)]) (fun _ _=>aA.p Io aA.nil) ?_
 rintro ⟨a,b,c⟩ _
 have e:aE (aE (bI a 0 63) (.s 11) cF (bI b (-1) 100000) false) (.s 15) cF (bI c 0 100000) false=jV a b c:=by rw [aF,aF]; rfl
 refine ⟨trivial,?_⟩
 repeat' (first|exact e|apply And.intro|exact trivial|exact rfl|exact lz fun _=>rfl|exact S1.zz rfl|refine gd ?_)
def g46:List Nat:=[1,0,3,4]
def c46:aH :=
 .seq (.region g46 [(zo 3 (.box 93 (.s 1))),(zo 4 (.move cF))]) (.seq (.region g46 [(mv 5 0),(fa 6 0 3),⟨none,none,.store 1 (.s 6) (.s 5),[]⟩]) (.seq (.region g46 [(zo 7 (.load 18 true (.s 3))),(zo 8 (.call (.c (.fn 66)) [.s 7])),(mv 4 8)]) .ret))
theorem e46:aI Tryz.prog 46 g46 [] [] []=some (c46,[.slot 4],9):=by kernel_rfl
def mdV (k:Int) (e:Ev):Bool:=lY { e with kind:=k }
def mdS:Eng.Spec where
 X:=Int×Ev
 args:=fun x=>.cons (.int .i64 x.1) (.cons (evE x.2) .nil)
 pre:=fun x=>okV x.2
 res:=fun x=>.bool (mdV x.1 x.2)
 inst:=EV0.two tY evD
theorem Ou:mdS.Ok Tryz.prog 46:=by
 refine Eng.Spec.okR e46 .nil (fun _=>[(66,.p Qg)]) (fun _ _=>aA.p Ib aA.nil) ?_
 rintro ⟨k,e⟩ (h:okV e)
 have h2:okV { e with kind:=k }:=⟨h.id,h.oth,h.txt,h.ids,h.names,h.num,h.path,h.list⟩
 refine ⟨trivial,?_⟩
 repeat' (first|exact h2|apply And.intro|exact trivial|exact rfl|exact lz fun _=>rfl|exact S1.zz rfl)
end S12
end
section
namespace Go.Eng
open Go Go.RowKit
def bZ.ren (S:bZ) (Y:Type) (post:S.X->Y->Prop) (res:S.X->Y->SV) (h1:S.X->Y->List (Nat×aG)):bZ :=
 { X:=S.X,Y:=Y,args:=S.args,pre:=S.pre,h0:=S.h0,nx0:=S.nx0,post:=post,res:=res,h1:=h1,nx1:=S.nx1,fresh:=S.fresh }
def Spec.mof (S:Spec) (Y:Type) (post:S.X->Y->Prop) (res:S.X->Y->SV):bZ :=
 { X:=S.X,Y:=Y,args:=S.args,pre:=S.pre,h0:=fun _=>[],nx0:=0,post:=post,res:=res,h1:=fun _ _=>[],nx1:=0,fresh:=S.fresh }
theorem Spec.wM {P:Program} {f:Nat} {S:Spec} (h:S.Ok P f) {Y:Type} {post:S.X->Y->Prop} {res:S.X->Y->SV} (hy:∀ x,S.pre x->∃ y,post x y/\S.res x=res x y):(S.mof Y post res).Ok P f:=by
 refine ⟨h.call,?_⟩
 intro x w μ vs T U hU hg hh hp hR
 replace hh:aL (bT w T U μ 0) μ [] 0 w:=hh
 replace hR:R (aC (bT w T U μ 0) μ [] w) (S.args x) vs:=hR
 have hno:∀ id p,μ id≠some p:=by
  intro id p e
  by_cases hn:id < FB
  ·exact absurd (hh.nx _ _ e hn) (Nat.not_lt_zero _)
  ·obtain ⟨o,ho⟩:=hh.fam _ _ e (Nat.not_lt.1 hn)
   rw [eP] at ho
   cases ho
 have hU':∀ b,(aC (bT w T U μ 0) μ [] w).U b->b < w.heap.size/\Plain w b:=fun b hb=>⟨hb.1,hb.2.2.2⟩
 have hR':R (eM (aC (bT w T U μ 0) μ [] w).U w) (S.args x) vs :=
  cJ (E:=aC (bT w T U μ 0) μ [] w) (E':=eM (aC (bT w T U μ 0) μ [] w).U w) ⟨⟨fun _ hb=>hb,fun _ _=>rfl⟩,fun id p e=>absurd e (hno id p)⟩ hR
 obtain ⟨y,py,ey⟩:=hy x hp
 refine (h.does x w vs _ hU' hg.gok hp hR').mono ?_
 intro e w' he
 cases e with
 | returned v =>
  obtain ⟨k1,k2⟩:=he
  rw [ey] at k1
  refine ⟨y,μ,py,?_,?_⟩
  ·refine ⟨⟨fun id o e=>(by cases e),fun id o e=>?_⟩,fun i i' o o' b c c' e=>?_,fun i o b c e=>?_,fun i o e=>(by cases e),hh.nx,hh.fam,fun _ _ e=>e,⟨k2.os,k2.tape,k2.output,k2.size,fun b hb _=>k2.block b hb,k2.drawn⟩⟩
   ·change hget [] id=some o at e
    rw [eP] at e; cases e
   ·change hget [] i=some o at e
    rw [eP] at e; cases e
   ·change hget [] i=some o at e
    rw [eP] at e; cases e
  ·refine cJ (E:=eM (Ct S.fresh (aC (bT w T U μ 0) μ [] w).U w w') w') (E':=aC (bT w T (Ufresh S.fresh U) μ 0) μ [] w') ⟨⟨?_,fun _ _=>rfl⟩,fun id p e=>(by cases e)⟩ k1
   intro b hb
   rcases hb with ⟨hf,hb⟩|⟨hb1,hb2,hb3⟩
   ·refine ⟨Nat.lt_of_lt_of_le hb.1 k2.size,?_,fun id o c e=>(by change hget [] id=some o at e; rw [eP] at e; cases e),fun ds e=>hb.2.2.2 ds ((k2.block b hb.1).symm.trans e)⟩
    rcases hb.2.1 with h1|h1|h1
    ·exact .inl ⟨hf,h1⟩
    ·exact .inr (.inl h1)
    ·exact .inr (.inr h1)
   ·exact ⟨hb2,.inr (.inr hb1),fun id o c e=>(by change hget [] id=some o at e; rw [eP] at e; cases e),hb3⟩
 | panicked c=>exact he
 | outgrown=>exact he
end Go.Eng
end
section
open Go Go.Eng Go.Proofs F1 F6 F10 G7 G4 L3 L10 G1 G3 EV0 S1 S10 S11 S12
set_option maxRecDepth 100000
namespace S13
attribute [local irreducible] lY
def Ue:bZ:=Qg.mof Bool (fun e y=>y=lY e) (fun _ y=>.bool y)
theorem Me:Ue.Ok Tryz.prog 66:=Spec.wM Ib (fun e _=>⟨lY e,rfl,rfl⟩)
def M3 (l:Sq Nm):Ev:={ kind:=3,day:=0,a:=0,b:=0,off:=0,id:=[120],oth:=[],txt:=[],ids:=⟨0,fun _=>[]⟩,names:=l,num:=⟨0,[],0,0⟩,pt:=(0,0),path:=⟨0,fun _=>(0,0)⟩,list:=⟨0,fun _=>⟨[],⟨0,[],0,0⟩,(0,0)⟩⟩ }
def rB (l:Sq Nm):Bool:=decide ((l.n:Int)=0) || lY (M3 l)
def g45:List Nat:=[0,2]
def c45:aH :=
 .seq (.region g45 [(zo 2 (.move cF))]) (.seq (.region g45 [(mv 3 0),(zo 4 (.lenSl (.s 3))),(zo 5 (.bin (.eql) (.s 4) (cj 0))),(mv 6 5),(mg 7 6 false 0),(zg 8 6 false (.build zEv [(0,1,cj 3),(5,1,.c (.str [120])),(9,1,.s 7)])),(zg 9 6 false (.call (.c (.fn 66)) [.s 8])),(zo 10 (.pick (.s 6) cT (.s 9))),(mv 2 10)]) .ret)
theorem e45:aI Tryz.prog 45 g45 [] [] []=some (c45,[.slot 2],11):=by kernel_rfl
def Vg:Eng.Spec where
 X:=Sq Nm
 args:=fun x=>.cons (nmE x) .nil
 pre:=fun x=>okS x okN
 res:=fun x=>.bool (rB x)
 inst:=EV0.one nmD
theorem Rk:Vg.Ok Tryz.prog 45:=by
 refine Eng.Spec.okR e45 .nil (fun _=>[(66,.m Ue)]) (fun _ _=>aA.m Me aA.nil) ?_
 rintro l ⟨(hn:l.n<=1000000),(hel:∀ i,i < l.n->okN (l.f i))⟩
 refine ⟨trivial,?_⟩
 have hv:okV (M3 l):=⟨(by decide:([120]:B).length<=1000000),(by decide:([]:B).length<=1000000),(by decide:([]:B).length<=1000000),⟨Nat.zero_le _,fun i h=>absurd h (Nat.not_lt_zero i)⟩,⟨hn,hel⟩,(by decide:([]:B).length<=1000000),Nat.zero_le _,⟨Nat.zero_le _,fun i h=>absurd h (Nat.not_lt_zero i)⟩⟩
 repeat' (first|exact hn|exact hel|apply And.intro|exact trivial|exact rfl|exact lz fun _=>rfl)
 ·refine fun (hc:decide ((l.n:Int)=0)=false)=>?_
  repeat' (first|apply And.intro|exact trivial|exact rfl|exact lz fun _=>rfl)
  refine Exists.intro (M3 l) (Exists.intro [] ?_)
  repeat' (first|exact hv|apply And.intro|exact trivial|exact rfl|exact lz fun _=>rfl)
  rintro (y:Bool) (hy:y=lY (M3 l))
  have e1:aE (decide ((l.n:Int)=0)) cT (.s 9) true y=rB l:=by unfold rB; rw [aD,hy]
  have e2:y=rB l:=by unfold rB; rw [hc,hy]; rfl
  repeat' (first|exact e1|exact e2|apply And.intro|exact trivial|exact rfl|exact lz fun _=>rfl)
 ·refine fun (hc:decide ((l.n:Int)=0)=!false)=>?_
  have e1:true=rB l:=by unfold rB; rw [hc]; rfl
  repeat' (first|exact e1|exact hc|apply And.intro|exact trivial|exact rfl|exact lz fun _=>rfl)
end S13
end
