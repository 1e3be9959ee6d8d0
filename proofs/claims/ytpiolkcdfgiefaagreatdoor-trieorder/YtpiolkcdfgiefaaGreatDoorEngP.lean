/- A part of the proof. -/
import Derived.Test.YtpiolkcdfgiefaaGreatDoorEngI
namespace Go.Eng
open Go Go.RowKit
def oU:List (Nat×Nat)->Nat->Nat->Bool
 | [],_,_=>false
 | (a,b)::r,c,h=>bif Nat.beq a c then bif Nat.beq b h then true else oU r c h else oU r c h
def jP (c h:Nat) (l:List (Nat×Nat)):List (Nat×Nat):=bif oU l c h then l else (c,h)::l
def lV:SV->SV->List (Nat×Nat)->List (Nat×Nat)
 | .own h _,.own c _,l=>jP c h l
 | .osl h _ _ _,.osl c _ _ _,l=>jP c h l
 | .osl h _ _ _,.lsl c _ _,l=>jP c h l
 | .lsl h _ _,.lsl c _ _,l=>jP c h l
 | .oel h _ _ _,.oel c _ _ _,l=>jP c h l
 | .mref h,.mref c,l=>jP c h l
 | .fown h _ _,.fown c _ _,l=>jP c h l
 | .fmref h _,.fmref c _,l=>jP c h l
 | .flsl h _ _ _,.flsl c _ _ _,l=>jP c h l
 | .foel h _ _ _ _,.foel c _ _ _ _,l=>jP c h l
 | .csl h _,.csl c _,l=>jP c h l
 | .yield h,.yield c,l=>jP c h l
 | .cons a b,.cons a' b',l=>lV b b' (lV a a' l)
 | .ints _ _ _ a,.ints _ _ _ b,l=>lV a b l
 | .agg a,.agg b,l=>lV a b l
 | .tup a,.tup b,l=>lV a b l
 | .fn _ a,.fn _ b,l=>lV a b l
 | _,_,l=>l
def E1 (fr:List (Nat×SV)):List (Nat×SV)->List (Nat×Nat)->List (Nat×Nat)
 | [],l=>l
 | (s,sv)::r,l=>E1 fr r (lV sv (look fr s) l)
def rW (hp hp':List (Nat×aT)):List (Nat×Nat)->List (Nat×Nat)->List (Nat×Nat)
 | [],l=>l
 | (c,h)::r,l=>match get? hp' h,get? hp c with
  | some (.cells _ a),some (.cells _ b)=>rW hp hp' r (lV a b l)
  | some (.iter a _ _ _),some (.iter b _ _ _)=>rW hp hp' r (lV a b l)
  | _,_=>rW hp hp' r l
def rV (hp:List (Nat×aT)):List (Nat×aT)->List (Nat×Nat)->List (Nat×Nat)
 | [],l=>l
 | (h,.fam _)::r,l=>match get? hp h with
  | some (.fam _)=>rV hp r (jP h h l)
  | _=>rV hp r l
 | _::r,l=>rV hp r l
def pins:List Nat->List (Nat×Nat)
 | []=>[]
 | n::r=>jP n n (pins r)
def vO (l:List (Nat×Nat)):List Nat->Bool
 | []=>true
 | n::r=>bif oU l n n then vO l r else false
def Cw (bnd:Nat) (hp:List (Nat×aT)):List (Nat×aT)->List (Nat×Nat)->List (Nat×Nat)
 | [],l=>l
 | (h,_)::r,l=>bif Nat.blt h bnd then match get? hp h with
   | some _=>Cw bnd hp r (jP h h l)
   | none=>Cw bnd hp r l
  else Cw bnd hp r l
def Cn (bnd:Nat):List (Nat×Nat)->Bool
 | []=>true
 | (c,h)::r=>bif Nat.blt h bnd then bif Nat.beq c h then Cn bnd r else false else Cn bnd r
def rX (np:List Nat) (bnd:Nat) (st st':St):List (Nat×Nat) :=
 let p0:=E1 st.fr st'.fr (Cw bnd st.hp st'.hp (pins np));let p1:=rW st.hp st'.hp p0 p0
 rV st.hp st'.hp (rW st.hp st'.hp p1 p1)
def Cf:List (Nat×Nat)->Nat->Bool
 | [],_=>false
 | (a,_)::r,c=>bif Nat.beq a c then true else Cf r c
def C5:List (Nat×Nat)->Nat->Bool
 | [],_=>false
 | (_,b)::r,h=>bif Nat.beq b h then true else C5 r h
def jT (nx:Nat):List (Nat×Nat)->Bool
 | []=>true
 | (c,h)::r=>bif Cf r c then false else bif C5 r h then false else bif Nat.blt h nx then bif Nat.blt h FB then bif Nat.blt c FB then jT nx r else false else false else false
def C7 (k:Keep) (hp:List (Nat×aT)) (fr:List (Nat×SV)):List (Nat×SV)->Prop
 | []=>True
 | (s,.gd _ _ _)::r=>False/\C7 k hp fr r/\s=s
 | (s,sv)::r=>sub k hp 200 (look fr s) sv/\C7 k hp fr r
def lG (k:Keep) (hp:List (Nat×aT)):aT->aT->Prop
 | .cells T l,.cells T' l'=>T=T'/\sub k hp 200 l l'
 | .arr T sz len enc,.arr T' sz' len' enc'=>T=T'/\sz=sz'/\len=len'/\∀ i,i < len->oP k (sub k hp 200) (enc i) (enc' i)
 | .obj o,.obj o'=>o=o'
 | .snap o,.snap o'=>o=o'
 | .map V kk l clock ev _,.map V' kk' l' clock' ev' _=>kk=kk'/\clock=clock'/\l.length=l'.length/\∀ (i:Nat) (x:cC×V×Nat) (y:cC×V'×Nat),l[i]?=some x->l'[i]?=some y->x.1=y.1/\x.2.2=y.2.2/\sub k hp 200 (ev x.2.1) (ev' y.2.1)
 | .iter src since seen last,.iter src' since' seen' last'=>sub k hp 200 src src'/\since=since'/\seen=seen'/\last=last'
 | .hid l p,.hid l' p'=>k.recs=true/\l=l'/\p=p'
 | _,_=>False
def iT (k:Keep) (hp:List (Nat×aT)):aT->aT->Prop
 | .gone,o'=>o'=.gone
 | .hid _ _,_=>False
 | o,o'=>lG k hp o o'
def back:List (Nat×Nat)->Nat->Option Nat
 | [],_=>none
 | (c,b)::r,h=>bif Nat.beq b h then some c else back r h
def sI (k:Keep) (nx:Nat) (prs:List (Nat×Nat)) (hp:List (Nat×aT)):List (Nat×aT)->Prop
 | []=>True
 | (h,.fam f')::r=>(match back prs h with
  | some c=>match get? hp c with
   | some (.fam f)=>∀ i,iT k hp (f i) (f' i)
   | _=>False
  | none=>bif Nat.blt h nx then bif Nat.blt h FB then ∀ i,f' i=.gone else False else False)/\sI k nx prs hp r
 | (h,.arr T' sz' len' enc')::r=>(match back prs h with
  | some c=>match get? hp c with
   | some o=>lG k hp o (.arr T' sz' len' enc')
   | none=>bif Nat.blt h nx then bif Nat.blt h FB then len'=0 else False else False
  | none=>bif Nat.blt h nx then bif Nat.blt h FB then len'=0 else False else False)/\sI k nx prs hp r
 | (h,o')::r=>(match back prs h with
  | some c=>match get? hp c with
   | some o=>lG k hp o o'
   | none=>False
  | none=>False)/\sI k nx prs hp r
def uO (hp hp':List (Nat×aT)):List (Nat×Nat)->Bool
 | []=>true
 | (c,d)::r=>match get? hp c with
  | some (.fam _)=>match get? hp' d with
   | some (.fam _)=>uO hp hp' r
   | _=>false
  | _=>uO hp hp' r
theorem Ce {hp hp':List (Nat×aT)}:∀ {prs:List (Nat×Nat)},uO hp hp' prs=true->∀ c d f,(c,d)∈prs->get? hp c=some (.fam f)->∃ f',get? hp' d=some (.fam f'):=by
 intro prs;induction prs with
 | nil=>intro _ c d f hm; cases hm
 | cons p r ih =>
  obtain ⟨a,b⟩:=p;intro hk c d f hm hg;simp only [uO] at hk;rcases aI.1 hm with e|e
  ·cases e;rw [hg] at hk;simp only at hk;split at hk
   ·rename_i f' hf'; exact ⟨f',hf'⟩
   ·cases hk
  ·split at hk
   ·split at hk
    ·exact ih hk _ _ _ e hg
    ·cases hk
   ·exact ih hk _ _ _ e hg
def sH:List Nat->Nat->(Nat->Prop)->Prop
 | [],n,k=>k n
 | c::r,n,k=>bif Nat.beq n c then k c else sH r n k
theorem R1 (n:Nat) (k:Nat->Prop):∀ l,sH l n k=k n:=by
 intro l;induction l with
 | nil=>rfl
 | cons c r ih =>
  simp only [sH,ih];cases h:Nat.beq n c with
  | true=>rw [cQ h]; rfl
  | false=>rfl
def iP (n:Nat) (k:Nat->Prop):Prop :=
 bif Nat.blt n 8 then sH [0,1,2,3,4,5,6,7] n k else
 bif Nat.blt n 16 then sH [8,9,10,11,12,13,14,15] n k else
 bif Nat.blt n 24 then sH [16,17,18,19,20,21,22,23] n k else
 bif Nat.blt n 32 then sH [24,25,26,27,28,29,30,31] n k else
 bif Nat.blt n 40 then sH [32,33,34,35,36,37,38,39] n k else
 bif Nat.blt n 48 then sH [40,41,42,43,44,45,46,47] n k else
 bif Nat.blt n 56 then sH [48,49,50,51,52,53,54,55] n k else
 bif Nat.blt n 64 then sH [56,57,58,59,60,61,62,63] n k else
 bif Nat.blt n 72 then sH [64,65,66,67,68,69,70,71] n k else
 k n
theorem kF (n:Nat) (k:Nat->Prop):iP n k=k n:=by
 simp only [iP,R1,Bool.cond_self]
def Am:List (Nat×Nat)->(List (Nat×Nat)->Prop)->Prop
 | [],k=>k []
 | (a,b)::r,k=>iP a fun a=>iP b fun b=>Am r fun r=>k ((a,b)::r)
theorem Nx:∀ (l:List (Nat×Nat)) (k:List (Nat×Nat)->Prop),Am l k=k l:=by
 intro l;induction l with
 | nil=>intro k; rfl
 | cons p r ih=>intro k; simp only [Am,kF,ih]
abbrev PK:=List (Nat×Nat)->Prop
def iB (c h:Nat) (l:List (Nat×Nat)) (k:PK):Prop:=iP c fun c=>iP h fun h=>bif oU l c h then k l else k ((c,h)::l)
theorem qB (c h:Nat) (l:List (Nat×Nat)) (k:PK):iB c h l k=k (jP c h l):=by
 simp only [iB,kF,jP];cases oU l c h <;> rfl
def jU:SV->SV->List (Nat×Nat)->PK->Prop
 | .own h _,.own c _,l,k=>iB c h l k
 | .osl h _ _ _,.osl c _ _ _,l,k=>iB c h l k
 | .osl h _ _ _,.lsl c _ _,l,k=>iB c h l k
 | .lsl h _ _,.lsl c _ _,l,k=>iB c h l k
 | .oel h _ _ _,.oel c _ _ _,l,k=>iB c h l k
 | .mref h,.mref c,l,k=>iB c h l k
 | .fown h _ _,.fown c _ _,l,k=>iB c h l k
 | .fmref h _,.fmref c _,l,k=>iB c h l k
 | .flsl h _ _ _,.flsl c _ _ _,l,k=>iB c h l k
 | .foel h _ _ _ _,.foel c _ _ _ _,l,k=>iB c h l k
 | .csl h _,.csl c _,l,k=>iB c h l k
 | .yield h,.yield c,l,k=>iB c h l k
 | .cons a b,.cons a' b',l,k=>jU a a' l fun l=>jU b b' l k
 | .ints _ _ _ a,.ints _ _ _ b,l,k=>jU a b l k
 | .agg a,.agg b,l,k=>jU a b l k
 | .tup a,.tup b,l,k=>jU a b l k
 | .fn _ a,.fn _ b,l,k=>jU a b l k
 | _,_,l,k=>k l
theorem vN:∀ (s t:SV) (l:List (Nat×Nat)) (k:PK),jU s t l k=k (lV s t l):=by
 intro s;induction s with
 | cons a b iha ihb=>intro t l k; cases t <;> simp only [jU,lV,iha,ihb]
 | ints q n f a ih=>intro t l k; cases t <;> simp only [jU,lV,ih]
 | agg a ih=>intro t l k; cases t <;> simp only [jU,lV,ih]
 | tup a ih=>intro t l k; cases t <;> simp only [jU,lV,ih]
 | fn f a ih=>intro t l k; cases t <;> simp only [jU,lV,ih]
 | _=>intro t l k; cases t <;> simp only [jU,lV,qB]
def zU (fr:List (Nat×SV)):List (Nat×SV)->List (Nat×Nat)->PK->Prop
 | [],l,k=>k l
 | (s,sv)::r,l,k=>jU sv (look fr s) l fun l=>zU fr r l k
theorem Kb (fr:List (Nat×SV)):∀ (r:List (Nat×SV)) (l:List (Nat×Nat)) (k:PK),zU fr r l k=k (E1 fr r l):=by
 intro r;induction r with
 | nil=>intro l k; rfl
 | cons p r ih=>intro l k; simp only [zU,E1,vN,ih]
def oY (hp hp':List (Nat×aT)):List (Nat×Nat)->List (Nat×Nat)->PK->Prop
 | [],l,k=>k l
 | (c,h)::r,l,k=>match get? hp' h,get? hp c with
  | some (.cells _ a),some (.cells _ b)=>jU a b l fun l=>oY hp hp' r l k
  | some (.iter a _ _ _),some (.iter b _ _ _)=>jU a b l fun l=>oY hp hp' r l k
  | _,_=>oY hp hp' r l k
theorem A9 (hp hp':List (Nat×aT)):∀ (r l:List (Nat×Nat)) (k:PK),oY hp hp' r l k=k (rW hp hp' r l):=by
 intro r;induction r with
 | nil=>intro l k; rfl
 | cons p r ih =>
  intro l k;simp only [oY,rW];split <;> simp only [vN,ih]
def pT (hp:List (Nat×aT)):List (Nat×aT)->List (Nat×Nat)->PK->Prop
 | [],l,k=>k l
 | (h,.fam _)::r,l,k=>match get? hp h with
  | some (.fam _)=>iB h h l fun l=>pT hp r l k
  | _=>pT hp r l k
 | _::r,l,k=>pT hp r l k
theorem zD (hp:List (Nat×aT)):∀ (r:List (Nat×aT)) (l:List (Nat×Nat)) (k:PK),pT hp r l k=k (rV hp r l):=by
 intro r;induction r with
 | nil=>intro l k; rfl
 | cons p r ih =>
  intro l k;obtain ⟨h,o⟩:=p;cases o <;> simp only [pT,rV,ih];split <;> simp only [qB]
def Hh:List Nat->PK->Prop
 | [],k=>k []
 | n::r,k=>Hh r fun l=>iB n n l k
theorem Hi:∀ (l:List Nat) (k:PK),Hh l k=k (pins l):=by
 intro l;induction l with
 | nil=>intro k; rfl
 | cons n r ih=>intro k; simp only [Hh,pins,ih,qB]
def yE (bnd:Nat) (hp:List (Nat×aT)):List (Nat×aT)->List (Nat×Nat)->PK->Prop
 | [],l,k=>k l
 | (h,_)::r,l,k=>bif Nat.blt h bnd then match get? hp h with
   | some _=>iB h h l fun l=>yE bnd hp r l k
   | none=>yE bnd hp r l k
  else yE bnd hp r l k
theorem Ox (bnd:Nat) (hp:List (Nat×aT)):∀ (r:List (Nat×aT)) (l:List (Nat×Nat)) (k:PK),yE bnd hp r l k=k (Cw bnd hp r l):=by
 intro r;induction r with
 | nil=>intro l k; rfl
 | cons p r ih =>
  intro l k;obtain ⟨h,o⟩:=p;simp only [yE,Cw];cases Nat.blt h bnd with
  | true =>
   simp only [cond_true];split <;> simp only [qB,ih]
  | false=>simp only [cond_false,ih]
def Kc (np:List Nat) (bnd:Nat) (st st':St) (k:PK):Prop :=
 Hh np fun l0=>yE bnd st.hp st'.hp l0 fun l1=>zU st.fr st'.fr l1 fun p0=>oY st.hp st'.hp p0 p0 fun p1=>oY st.hp st'.hp p1 p1 fun p2=>pT st.hp st'.hp p2 k
theorem Ow (np:List Nat) (bnd:Nat) (st st':St) (k:PK):Kc np bnd st st' k=k (rX np bnd st st'):=by
 simp only [Kc,Hi,Ox,Kb,A9,zD,rX]
def Ba (np:List Nat) (sv want:SV) (hp hp':List (Nat×aT)) (k:PK):Prop :=
 Hh np fun l0=>jU want sv l0 fun p0=>oY hp hp' p0 p0 fun p1=>oY hp hp' p1 p1 fun p2=>pT hp hp' p2 k
def mM (np:List Nat) (bnd:Nat) (st st':St):Prop :=
 Kc np bnd st st' fun prs =>
 bif jT st'.nx prs then
  bif uO st.hp st'.hp prs then
   bif vO prs np then
    bif Cn bnd prs then
     bif Nat.ble bnd st'.nx then
      C7 (.keep prs) st.hp st.fr st'.fr/\sI (.keep prs) st'.nx prs st.hp st'.hp
     else False
    else False
   else False
  else False
 else False
theorem Gd {c h:Nat}:∀ {l:List (Nat×Nat)},oU l c h=true->(c,h)∈l:=by
 intro l;induction l with
 | nil=>intro e; cases e
 | cons p r ih =>
  obtain ⟨a,b⟩:=p;intro e;simp only [oU] at e;cases h1:Nat.beq a c with
  | false=>simp only [h1,cond_false] at e; exact aK _ (ih e)
  | true =>
   cases h2:Nat.beq b h with
   | false=>simp only [h1,h2,cond_true,cond_false] at e; exact aK _ (ih e)
   | true=>rw [nbeq h1,nbeq h2]; exact aQ ..
theorem Bb {l:List (Nat×Nat)}:∀ {n:List Nat},vO l n=true->∀ i,i∈n->(i,i)∈l:=by
 intro n;induction n with
 | nil=>intro _ i h; cases h
 | cons n r ih =>
  intro e i h;simp only [vO] at e;cases h1:oU l n n with
  | false=>simp [h1] at e
  | true =>
   simp only [h1,cond_true] at e;rcases aI.1 h with hi|hi
   ·subst hi; exact Gd h1
   ·exact ih e i hi
def sC (C:Ctx):Prop:=∀ id p,C.pin id=some p->fbase id∈C.np\/(id < C.bnd/\id < FB)
theorem Ol {bnd:Nat}:∀ {l:List (Nat×Nat)},Cn bnd l=true->∀ c h,(c,h)∈l->h < bnd->c=h:=by
 intro l;induction l with
 | nil=>intro _ c h hm; cases hm
 | cons p r ih =>
  obtain ⟨a,b⟩:=p;intro e c h hm hlt;simp only [Cn] at e;cases h1:Nat.blt b bnd with
  | false =>
   simp only [h1,cond_false] at e;rcases aI.1 hm with hh|hh
   ·obtain ⟨_,rfl⟩:=Prod.mk.inj hh;have:Nat.blt h bnd=true:=cZ hlt;rw [h1] at this; cases this
   ·exact ih e c h hh hlt
  | true =>
   simp only [h1,cond_true] at e;cases h2:Nat.beq a b with
   | false=>simp [h2] at e
   | true =>
    simp only [h2,cond_true] at e;rcases aI.1 hm with hh|hh
    ·cases hh; exact cQ h2
    ·exact ih e c h hh hlt
theorem Ny {l:List (Nat×Nat)} {c:Nat}:Cf l c=true ↔ ∃ h,(c,h)∈l:=by
 induction l with
 | nil=>simp [Cf]
 | cons p r ih =>
  obtain ⟨a,b⟩:=p;simp only [Cf];cases hb:Nat.beq a c with
  | true=>have:=nbeq hb; subst this; simp
  | false =>
   have hne:a≠c:=fun e=>by subst e; simp [Nat.beq_refl] at hb
   simp only [cond_false,ih];constructor
   ·rintro ⟨h,hh⟩; exact ⟨h,aK _ hh⟩
   ·rintro ⟨h,hh⟩;rcases aI.1 hh with e|e
    ·cases e; exact absurd rfl hne
    ·exact ⟨h,e⟩
theorem O3 {l:List (Nat×Nat)} {h:Nat}:C5 l h=true ↔ ∃ c,(c,h)∈l:=by
 induction l with
 | nil=>simp [C5]
 | cons p r ih =>
  obtain ⟨a,b⟩:=p;simp only [C5];cases hb:Nat.beq b h with
  | true=>have:=nbeq hb; subst this; simp
  | false =>
   have hne:b≠h:=fun e=>by subst e; simp [Nat.beq_refl] at hb
   simp only [cond_false,ih];constructor
   ·rintro ⟨c,hh⟩; exact ⟨c,aK _ hh⟩
   ·rintro ⟨c,hh⟩;rcases aI.1 hh with e|e
    ·cases e; exact absurd rfl hne
    ·exact ⟨c,e⟩
theorem wW {nx c h:Nat} {r:List (Nat×Nat)} (hk:jT nx ((c,h)::r)=true):(∀ h',(c,h') ∉ r)/\(∀ c',(c',h) ∉ r)/\(h < nx/\h < FB/\c < FB)/\jT nx r=true:=by
 simp only [jT] at hk;cases h1:Cf r c with
 | true=>simp [h1] at hk
 | false =>
  cases h2:C5 r h with
  | true=>simp [h1,h2] at hk
  | false =>
   cases h3:Nat.blt h nx with
   | false=>simp [h1,h2,h3] at hk
   | true =>
    cases h4:Nat.blt h FB with
    | false=>simp [h1,h2,h3,h4] at hk
    | true =>
    cases h5:Nat.blt c FB with
    | false=>simp [h1,h2,h3,h4,h5] at hk
    | true =>
    simp only [h1,h2,h3,h4,h5,cond_false,cond_true] at hk;refine ⟨fun h' hm=>?_,fun c' hm=>?_,⟨?_,?_,?_⟩,hk⟩
    ·have:=Ny.2 ⟨h',hm⟩; rw [h1] at this; cases this
    ·have:=O3.2 ⟨c',hm⟩; rw [h2] at this; cases this
    ·exact aM (n:=h+1) h3
    ·exact aM (n:=h+1) h4
    ·exact aM (n:=c+1) h5
theorem get?_mem {l:List (Nat×Nat)} {c h:Nat} (hg:get? l c=some h):(c,h)∈l:=by
 induction l with
 | nil=>cases hg
 | cons p r ih =>
  obtain ⟨a,b⟩:=p;rw [get?_cons] at hg;split at hg
  ·rename_i e; subst e; cases hg; exact aQ ..
  ·exact aK _ (ih hg)
theorem get?_none {l:List (Nat×Nat)} {c:Nat} (hg:get? l c=none) (h:Nat):(c,h) ∉ l:=by
 induction l with
 | nil=>intro hm; cases hm
 | cons p r ih =>
  obtain ⟨a,b⟩:=p;rw [get?_cons] at hg;split at hg
  ·cases hg
  ·rename_i hne;intro hm;rcases aI.1 hm with e|e
   ·cases e; exact hne rfl
   ·exact ih hg e
theorem back_mem {l:List (Nat×Nat)} {c h:Nat} (hg:back l h=some c):(c,h)∈l:=by
 induction l with
 | nil=>cases hg
 | cons p r ih =>
  obtain ⟨a,b⟩:=p;simp only [back] at hg;cases hb:Nat.beq b h with
  | true=>have:=nbeq hb; subst this; simp at hg; subst hg; simp
  | false=>simp only [hb,cond_false] at hg; exact aK _ (ih hg)
theorem pE {nx:Nat}:∀ {l:List (Nat×Nat)},jT nx l=true->(∀ c h h',(c,h)∈l->(c,h')∈l->h=h')/\(∀ c c' h,(c,h)∈l->(c',h)∈l->c=c')/\(∀ c h,(c,h)∈l->h < nx/\h < FB/\c < FB):=by
 intro l;induction l with
 | nil=>intro _; exact ⟨(fun _ _ _ h=>by cases h),(fun _ _ _ h=>by cases h),(fun _ _ h=>by cases h)⟩
 | cons p r ih =>
  obtain ⟨a,b⟩:=p;intro hk;obtain ⟨k1,k2,k3,k4⟩:=wW hk;obtain ⟨i1,i2,i3⟩:=ih k4;refine ⟨?_,?_,?_⟩
  ·intro c h h' m1 m2;rcases aI.1 m1 with e1|e1 <;> rcases aI.1 m2 with e2|e2
   ·cases e1; cases e2; rfl
   ·cases e1; exact absurd e2 (k1 _)
   ·cases e2; exact absurd e1 (k1 _)
   ·exact i1 _ _ _ e1 e2
  ·intro c c' h m1 m2;rcases aI.1 m1 with e1|e1 <;> rcases aI.1 m2 with e2|e2
   ·cases e1; cases e2; rfl
   ·cases e1; exact absurd e2 (k2 _)
   ·cases e2; exact absurd e1 (k2 _)
   ·exact i2 _ _ _ e1 e2
  ·intro c h m;rcases aI.1 m with e|e
   ·cases e; exact k3
   ·exact i3 _ _ e
theorem lQ {nx:Nat} {l:List (Nat×Nat)} (hk:jT nx l=true) {c h:Nat} (hm:(c,h)∈l):back l h=some c:=by
 induction l with
 | nil=>cases hm
 | cons p r ih =>
  obtain ⟨a,b⟩:=p;obtain ⟨k1,k2,k3,k4⟩:=wW hk;simp only [back];rcases aI.1 hm with e|e
  ·cases e; simp [Nat.beq_refl]
  ·have hne:b≠h:=by rintro rfl; exact k2 _ e
   have hb:Nat.beq b h=false:=by
    cases hb:Nat.beq b h with
    | false=>rfl
    | true=>exact absurd (nbeq hb) hne
   simp only [hb,cond_false];exact ih k4 e
theorem get?_of_mem {nx:Nat} {l:List (Nat×Nat)} (hk:jT nx l=true) {c h:Nat} (hm:(c,h)∈l):get? l c=some h:=by
 obtain ⟨f1,_,_⟩:=pE hk;cases hg:get? l c with
 | none=>exact absurd hm (get?_none hg h)
 | some x=>rw [f1 _ _ _ (get?_mem hg) hm]
section
variable {C:Ctx}
theorem xD {k:Keep} {hp:List (Nat×aT)} {o o':aT} (h:lG k hp o o'):(solid? o=some o/\solid? o'=some o')\/(solid? o=none/\solid? o'=none):=by
 cases o <;> cases o' <;> first
  | exact .inl ⟨rfl,rfl⟩
  | exact h.elim
  | (obtain ⟨rfl,rfl,rfl,h⟩:=h
     rename_i len _ _;rcases gR len with e|e
     ·subst e; exact .inr ⟨pX,pX⟩
     ·exact .inl ⟨dJ e,dJ e⟩)
theorem Kt {k:Keep} {hp:List (Nat×aT)} {o:aT} {f:Nat->aT}:¬ lG k hp o (.fam f):=by
 cases o <;> exact fun h=>h
theorem H6 {k:Keep} {hp:List (Nat×aT)} {o:aT} {f:Nat->aT}:¬ lG k hp (.fam f) o:=by
 cases o <;> exact fun h=>h
theorem uX {k:Keep} {hp:List (Nat×aT)} {o o':aT} (hn:∀ l p,o≠.hid l p) (h:lG k hp o o'):(eT? o=some o/\eT? o'=some o')\/(eT? o=none/\eT? o'=none):=by
 have h1:eT? o=solid? o:=by cases o <;> first|rfl|exact absurd rfl (hn _ _)
 have h2:eT? o'=solid? o':=by
  cases o' <;> first
   | rfl
   | (cases o <;> first|exact absurd rfl (hn _ _)|exact h.elim)
 rw [h1,h2];exact xD h
theorem Bi {k:Keep} {hp:List (Nat×aT)} {o o':aT} (hg:o≠.gone) (h:iT k hp o o'):lG k hp o o'/\∀ l p,o≠.hid l p:=by
 cases o <;> first
  | exact ⟨h,fun _ _ e=>by cases e⟩
  | exact absurd rfl hg
  | exact h.elim
theorem Pe {k:Keep} {nx:Nat} {prs:List (Nat×Nat)} {hp:List (Nat×aT)}:∀ {hp':List (Nat×aT)},sI k nx prs hp hp'->∀ h o',get? hp' h=some o' ->
  (∃ f',o'=.fam f'/\((∃ c f,back prs h=some c/\get? hp c=some (.fam f)/\∀ i,iT k hp (f i) (f' i))\/(back prs h=none/\h < nx/\h < FB/\∀ i,f' i=.gone))) \/
  (∃ c o,back prs h=some c/\get? hp c=some o/\lG k hp o o')\/(∃ T sz enc,o'=.arr T sz 0 enc/\h < nx/\h < FB):=by
 intro hp';induction hp' with
 | nil=>intro _ h o' hg; cases hg
 | cons p r ih =>
  obtain ⟨h0,o0⟩:=p;intro hs h o' hg;rw [get?_cons] at hg;have plain:(∀ f',o0≠.fam f')->((match back prs h0 with
    | some c=>match get? hp c with
     | some o=>lG k hp o o0
     | none=>False
    | none=>False)/\sI k nx prs hp r) ->
    (∃ f',o'=.fam f'/\((∃ c f,back prs h=some c/\get? hp c=some (.fam f)/\∀ i,iT k hp (f i) (f' i))\/(back prs h=none/\h < nx/\h < FB/\∀ i,f' i=.gone))) \/
    (∃ c o,back prs h=some c/\get? hp c=some o/\lG k hp o o')\/(∃ T sz enc,o'=.arr T sz 0 enc/\h < nx/\h < FB):=by
   intro _ hs;split at hg
   ·rename_i e;subst e;cases hg;have h1:=hs.1;split at h1
    ·rename_i c hc;split at h1
     ·rename_i o ho;exact .inr (.inl ⟨c,o,hc,ho,h1⟩)
     ·exact h1.elim
    ·exact h1.elim
   ·exact ih hs.2 h o' hg
  cases o0 with
  | fam f0 =>
   simp only [sI] at hs;split at hg
   ·rename_i e;subst e;cases hg;left;refine ⟨f0,rfl,?_⟩;have h1:=hs.1;split at h1
    ·rename_i c hc;split at h1
     ·rename_i f hf;exact .inl ⟨c,f,hc,hf,h1⟩
     ·exact h1.elim
    ·rename_i hb;cases h2:Nat.blt h0 nx with
     | false=>simp [h2] at h1
     | true =>
      cases h3:Nat.blt h0 FB with
      | false=>simp [h2,h3] at h1
      | true =>
       simp only [h2,h3,cond_true] at h1;exact .inr ⟨hb,aM (n:=h0+1) h2,aM (n:=h0+1) h3,h1⟩
   ·exact ih hs.2 h o' hg
  | arr T' sz' len' enc' =>
   simp only [sI] at hs;split at hg
   ·rename_i e;subst e;cases hg;have ghost:(bif Nat.blt h0 nx then bif Nat.blt h0 FB then len'=0 else False else False)->∃ T sz enc,aT.arr T' sz' len' enc'=.arr T sz 0 enc/\h0 < nx/\h0 < FB:=by
     intro h1;cases h2:Nat.blt h0 nx with
     | false=>simp [h2] at h1
     | true =>
      cases h3:Nat.blt h0 FB with
      | false=>simp [h2,h3] at h1
      | true =>
       simp only [h2,h3,cond_true] at h1;subst h1;exact ⟨_,_,_,rfl,aM (n:=h0+1) h2,aM (n:=h0+1) h3⟩
    have h1:=hs.1;split at h1
    ·rename_i c hc;split at h1
     ·rename_i o ho;exact .inr (.inl ⟨c,o,hc,ho,h1⟩)
     ·exact .inr (.inr (ghost h1))
    ·exact .inr (.inr (ghost h1))
   ·exact ih hs.2 h o' hg
  | _=>simp only [sI] at hs; exact plain (by simp) hs
theorem Pk {E E':Env} {k:Keep} {hp:List (Nat×aT)} (hsub:∀ s t vs,sub k hp 200 s t->R E s vs->R E' t vs) {V V':Type} {ev:V->SV} {ev':V'->SV} :
  ∀ (l:List (cC×V×Nat)) (l':List (cC×V'×Nat)) (es:List MapEntry),l.length=l'.length ->
   (∀ (i:Nat) (x:cC×V×Nat) (y:cC×V'×Nat),l[i]?=some x->l'[i]?=some y->x.1=y.1/\x.2.2=y.2.2/\sub k hp 200 (ev x.2.1) (ev' y.2.1))->jH E ev l es->jH E' ev' l' es:=by
 intro l;induction l with
 | nil =>
  intro l' es hl _ he;cases l' with
  | nil=>exact he
  | cons y r=>simp at hl
 | cons x r ih =>
  intro l' es hl h he;cases l' with
  | nil=>simp at hl
  | cons y r' =>
   obtain ⟨e,t,h1,h2,h3,h4,h5⟩:=he;obtain ⟨a1,a2,a3⟩:=h 0 x y rfl rfl;refine ⟨e,t,h1,a1 ▸ h2,hsub _ _ _ a3 h3,a2 ▸ h4,ih r' t (by simpa using hl) (fun i x' y' hx hy=>h (i+1) x' y' (by simpa using hx) (by simpa using hy)) h5⟩
theorem yL {E E':Env} {k:Keep} {hp:List (Nat×aT)} (hle:loose k=true->E.LeU E') (hsub:∀ s t vs,sub k hp 200 s t->R E s vs->R E' t vs) (hH:k.recs=true->∀ l p x,E.H l p x->E'.H l p x) {o o':aT} (h3:lG k hp o o') {cp:Nat} {x:Obj} (e3:HR E o cp x):HR E' o' cp x:=by
 cases o <;> cases o' <;> simp only [lG] at h3 <;> try exact h3.elim
 ·obtain ⟨rfl,h3⟩:=h3;obtain ⟨cs,k1,k2⟩:=e3;exact ⟨cs,k1,hsub _ _ _ h3 k2⟩
 ·obtain ⟨rfl,rfl,rfl,h3⟩:=h3;obtain ⟨cs,k1,k2,k3,k4⟩:=e3;refine ⟨cs,k1,k2,k3,fun q hq=>?_⟩;obtain ⟨xs,y1,y2,y3⟩:=k4 q hq;exact ⟨xs,oP.sound hle hsub _ _ _ (h3 q hq) y1,y2,y3⟩
 ·subst h3; exact e3
 ·subst h3; exact e3
 ·obtain ⟨rfl,rfl,h4,h5⟩:=h3;obtain ⟨k0,es,k1,k2⟩:=e3;refine ⟨fun y hy=>?_,es,k1,Pk hsub _ _ _ h4 h5 k2⟩;obtain ⟨i,hi⟩:=kM hy;have hlt:=(aR.1 hi).1;have hx:=aH (h4 ▸ hlt);rw [<- (h5 i _ y hx hi).1];exact k0 _ (eV hx)
 ·obtain ⟨h4,rfl,rfl,rfl⟩:=h3;obtain ⟨r,k1,k2⟩:=e3;exact ⟨r,hsub _ _ _ h4 k1,k2⟩
 ·obtain ⟨h4,rfl,rfl⟩:=h3;exact hH h4 _ _ _ e3
def Pair (prs:List (Nat×Nat)) (n m:Nat):Prop :=
 (n < FB/\m < FB/\(m,n)∈prs)\/∃ h c i,n=fid h i/\m=fid c i/\(c,h)∈prs
theorem Ff (bnd:Nat) {μ:Nat->Option (Nat×Nat)} {hp hp':List (Nat×aT)} {nx nx':Nat} {w:World} (h:bO C μ hp nx w) {prs:List (Nat×Nat)} (hk:jT nx' prs=true) (hfam:uO hp hp' prs=true) {k:Keep} (hs:sI k nx' prs hp hp')
  (hlow:∀ c h,(c,h)∈prs->h < bnd->c=h) (hbn:bnd<=nx') :
  ∃ μ':Nat->Option (Nat×Nat),
   (∀ n o',hget hp' n=some o'->∃ m o,Pair prs n m/\hget hp m=some o/\μ' n=μ m/\lG k hp o o') /\
   (∀ id id' p,get? prs id=some id'->μ id=some p->μ' id'=some p) /\
   (∀ c d i p,get? prs c=some d->μ (fid c i)=some p->μ' (fid d i)=some p) /\
   (∀ n p,μ' n=some p->n < FB->n < nx') /\
   (∀ n p,μ' n=some p->FB<=n->∃ o,hget hp' n=some o) /\
   (∀ id o,get? hp' id=some o->id < nx'/\id < FB) /\
   (∀ n n' m,Pair prs n m->Pair prs n' m->n=n') /\
   (∀ m n o,hget hp m=some o->kept (.keep prs) (fbase m)=false->¬ Pair prs n m) /\
   (∀ n,n < bnd->n < FB->μ' n=μ n):=by
 obtain ⟨f1,f2,f3⟩:=pE hk;have hget':=fun h o'=>Pe hs h o';have bk:∀ {c d:Nat},(c,d)∈prs->back prs d=some c:=fun hm=>lQ hk hm;have pinj:∀ n n' m,Pair prs n m->Pair prs n' m->n=n':=by
  rintro n n' m (⟨a1,a2,a3⟩|⟨d,c,i,rfl,rfl,a3⟩) (⟨b1,b2,b3⟩|⟨d',c',i',rfl,e,b3⟩)
  ·exact f1 _ _ _ a3 b3
  ·have:=dO c' i'; omega
  ·have:=dO c i; omega
  ·obtain ⟨e1,e2⟩:=Lw (f3 _ _ a3).2.2 (f3 _ _ b3).2.2 e;subst e1 e2;rw [f1 _ _ _ a3 b3]
 -- members of families
 have mem:∀ d i o',d < FB->hget hp' (fid d i)=some o'->∃ c o,(c,d)∈prs/\hget hp (fid c i)=some o/\lG k hp o o':=by
  intro d i o' hd hg;have hg0:=hg;have h1:¬ fid d i < FB:=bJ.2 (dO d i);simp only [hget,h1,if_false,gW i hd,fR i hd] at hg;split at hg
  ·rename_i f' hf';have e:=solid?_self (eT?_solid hg);rcases hget' d _ hf' with ⟨f'',e1,h2⟩|⟨c,o,e1,e2,e3⟩|⟨_,_,_,e1,_⟩
   ·cases e1;rcases h2 with ⟨c,f,hb,hf,hall⟩|⟨_,_,_,hall⟩
    ·have hm:=back_mem hb;have hi:=hall i;have hfi:f i≠.gone:=by
      intro e4;rw [e4] at hi;simp only [iT] at hi;rw [hi] at hg;cases hg
     obtain ⟨hso,hnh⟩:=Bi hfi hi;refine ⟨c,f i,hm,?_,by rw [e]; exact hso⟩;rw [kH (f3 _ _ hm).2.2 hf];rcases uX hnh hso with q|q
     ·exact q.1
     ·rw [q.2] at hg; cases hg
    ·rw [hall i] at hg; cases hg
   ·exact absurd e3 Kt
   ·cases e1
  ·cases hg
 refine ⟨fun n=>if n < FB then (match back prs n with
   | some c=>μ c
   | none=>if n < bnd then μ n else none) else match hget hp' n with
  | some _=>(back prs (n % FB)).bind fun c=>μ (fid c (n / FB - 1))
  | none=>none,?_,?_,?_,?_,?_,?_,pinj,?_,?_⟩
 ·intro n o' hg;by_cases hn:n < FB
  ·rw [fH hn] at hg;simp only [aD] at hg;obtain ⟨o1,g1,g2⟩:=hg;have e:=solid?_self g2;subst e;rcases hget' n _ g1 with ⟨f',e1,_⟩|⟨c,o,e1,e2,e3⟩|⟨T,sz,enc,e1,_⟩
   ·subst e1; cases g2
   ·have hm:=back_mem e1;have hso:solid? o=some o:=by
     rcases xD e3 with q|q
     ·exact q.1
     ·rw [q.2] at g2; cases g2
    refine ⟨c,o,.inl ⟨hn,(f3 _ _ hm).2.2,hm⟩,kR (f3 _ _ hm).2.2 e2 hso,?_,e3⟩;simp [hn,e1]
   ·rw [e1,pX] at g2; cases g2
  ·have e:=nJ (bJ.1 hn);have hlt:n % FB < FB:=Nat.mod_lt _ Ig;rw [<- e] at hg;obtain ⟨c,o,hm,ho,hso⟩:=mem _ _ _ hlt hg;refine ⟨fid c (n / FB - 1),o,.inr ⟨n % FB,c,n / FB - 1,e.symm,rfl,hm⟩,ho,?_,hso⟩;rw [e] at hg;simp [hn,hg,bk hm]
 ·intro id id' p hp1 hm;have hmem:=get?_mem hp1;have hlt:=(f3 _ _ hmem).2.1;simp [hlt,bk hmem,hm]
 ·intro c d i p hp1 hm;have hmem:=get?_mem hp1;have hd:=(f3 _ _ hmem).2.1;have hc:=(f3 _ _ hmem).2.2;have h1:¬ fid d i < FB:=bJ.2 (dO d i);obtain ⟨o,ho⟩:=h.fam _ _ hm (dO c i);have hgd:∃ o',hget hp' (fid d i)=some o':=by
   -- the family stands on the other side,too
   have h2:¬ fid c i < FB:=bJ.2 (dO c i);simp only [hget,h2,if_false,gW i hc,fR i hc] at ho;split at ho
   ·rename_i f hf;cases hgd:get? hp' d with
    | none=>obtain ⟨f',e⟩:=Ce hfam _ _ _ hmem hf; rw [hgd] at e; cases e
    | some o' =>
     rcases hget' d _ hgd with ⟨f',e1,h3⟩|⟨c',o2,e1,e2,e3⟩|⟨T,sz,enc,e1,_⟩
     ·subst e1;rcases h3 with ⟨c',f2,hb,hf2,hall⟩|⟨hb,_⟩
      ·rw [bk hmem] at hb;cases hb;rw [hf] at hf2;cases hf2;have hi:=hall i;obtain ⟨hso,hnh⟩:=Bi (by intro e; rw [e] at ho; cases ho) hi;refine ⟨f' i,by
        rw [kH hd hgd];rcases uX hnh hso with q|q
        ·exact q.2
        ·rw [q.1] at ho; cases ho⟩
      ·rw [bk hmem] at hb; cases hb
     ·rw [bk hmem] at e1;cases e1;rw [hf] at e2;cases e2;exact absurd e3 H6
     ·obtain ⟨f',e⟩:=Ce hfam _ _ _ hmem hf;rw [hgd,e1] at e;cases e
   ·cases ho
  obtain ⟨o',ho'⟩:=hgd;simp [h1,ho',gW i hd,fR i hd,bk hmem,hm]
 ·intro n p hm hn;simp only [hn,if_true] at hm;split at hm
  ·rename_i c hb;exact (f3 _ _ (back_mem hb)).1
  ·split at hm
   ·omega
   ·cases hm
 ·intro n p hm hn;have h1:¬ n < FB:=bJ.2 hn;simp only [h1,if_false] at hm;split at hm
  ·rename_i o ho; exact ⟨o,ho⟩
  ·cases hm
 ·intro id o hg;rcases hget' id o hg with ⟨f',_,⟨c,f,hb,_,_⟩|⟨_,h1,h2,_⟩⟩|⟨c,o,e1,_,_⟩|⟨_,_,_,_,h1,h2⟩
  ·have:=f3 _ _ (back_mem hb); exact ⟨this.1,this.2.1⟩
  ·exact ⟨h1,h2⟩
  ·have:=f3 _ _ (back_mem e1); exact ⟨this.1,this.2.1⟩
  ·exact ⟨h1,h2⟩
 ·rintro m n o ho hkp (⟨a1,a2,a3⟩|⟨d,c,i,rfl,rfl,a3⟩)
  ·simp only [fbase,a2,if_true,kept,Keep.keep] at hkp;cases hg:get? prs m with
   | none=>exact get?_none hg n a3
   | some x=>simp [hg] at hkp
  ·have hc:=(f3 _ _ a3).2.2;have h2:¬ fid c i < FB:=bJ.2 (dO c i);simp only [fbase,h2,if_false,gW i hc,kept,Keep.keep] at hkp;cases hg:get? prs c with
   | none=>exact get?_none hg d a3
   | some x=>simp [hg] at hkp
 ·intro n h1 h2;simp only [h2,if_true];split
  ·rename_i c hb;rw [hlow _ _ (back_mem hb) h1]
  ·simp [h1]
theorem sub_pos {μ μ':Nat->Option (Nat×Nat)} {hp hp':List (Nat×aT)} {nx nx':Nat} {w:World} (h:bO C μ hp nx w) {prs:List (Nat×Nat)} (hk:jT nx' prs=true) {k:Keep}
  (k1:∀ n o',hget hp' n=some o'->∃ m o,Pair prs n m/\hget hp m=some o/\μ' n=μ m/\lG k hp o o') :
  ∀ id p q,μ' id=some p->FB<=id->hget hp' id=some (.obj q)->p.1=id / FB - 1:=by
 intro id p q e hge g;obtain ⟨m,o,hp1,ho,em,hso⟩:=k1 id _ g;rcases hp1 with ⟨a1,_,_⟩|⟨d,c,i,rfl,rfl,a3⟩
 ·omega
 ·obtain ⟨_,hd,hc⟩:=(pE hk).2.2 _ _ a3;have ho':∃ q',o=.obj q':=by
   cases o <;> simp only [lG] at hso <;> exact ⟨_,rfl⟩
  obtain ⟨q',rfl⟩:=ho';have:=h.pos _ p q' (em ▸ e) (dO c i) ho;rw [fR i hc] at this;rw [fR i hd];exact this
end
end Go.Eng
