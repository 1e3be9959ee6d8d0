/- A part of the proof. -/
import Derived.Test.YtpiolkcdfgiefaaGreatDoorEngI
section
namespace Go.Eng
open Go Go.RowKit
def pD:List (Nat×Nat)->Nat->Nat->Bool
 | [],_,_=>false
 | (a,b)::r,c,h=>bif Nat.beq a c then bif Nat.beq b h then true else pD r c h else pD r c h
def iE(c h:Nat)(l:List (Nat×Nat)):List (Nat×Nat):=bif pD l c h then l else (c,h)::l
def kT:SV->SV->List (Nat×Nat)->List (Nat×Nat)
 |.own h _,.own c _,l=>iE c h l
 |.osl h _ _ _,.osl c _ _ _,l=>iE c h l
 |.osl h _ _ _,.lsl c _ _,l=>iE c h l
 |.lsl h _ _,.lsl c _ _,l=>iE c h l
 |.oel h _ _ _,.oel c _ _ _,l=>iE c h l
 |.mref h,.mref c,l=>iE c h l
 |.fown h _ _,.fown c _ _,l=>iE c h l
 |.fmref h _,.fmref c _,l=>iE c h l
 |.flsl h _ _ _,.flsl c _ _ _,l=>iE c h l
 |.foel h _ _ _ _,.foel c _ _ _ _,l=>iE c h l
 |.csl h _,.csl c _,l=>iE c h l
 |.yield h,.yield c,l=>iE c h l
 |.cons a b,.cons a' b',l=>kT b b' (kT a a' l)
 |.ints _ _ _ a,.ints _ _ _ b,l=>kT a b l
 |.agg a,.agg b,l=>kT a b l
 |.tup a,.tup b,l=>kT a b l
 |.fn _ a,.fn _ b,l=>kT a b l
 |_,_,l=>l
def E6(fr:List (Nat×SV)):List (Nat×SV)->List (Nat×Nat)->List (Nat×Nat)
 | [],l=>l
 | (s,sv)::r,l=>E6 fr r (kT sv (look fr s) l)
def rA(hp hp':List (Nat×aL)):List (Nat×Nat)->List (Nat×Nat)->List (Nat×Nat)
 | [],l=>l
 | (c,h)::r,l=>match get? hp' h,get? hp c with
  |some (.cells _ a),some (.cells _ b)=>rA hp hp' r (kT a b l)
  |some (.iter a _ _ _),some (.iter b _ _ _)=>rA hp hp' r (kT a b l)
  |_,_=>rA hp hp' r l
def qZ(hp:List (Nat×aL)):List (Nat×aL)->List (Nat×Nat)->List (Nat×Nat)
 | [],l=>l
 | (h,.fam _)::r,l=>match get? hp h with
  |some (.fam _)=>qZ hp r (iE h h l)
  |_=>qZ hp r l
 |_::r,l=>qZ hp r l
def pins:List Nat->List (Nat×Nat)
 | []=>[]
 |n::r=>iE n n (pins r)
def uX(l:List (Nat×Nat)):List Nat->Bool
 | []=>true
 |n::r=>bif pD l n n then uX l r else false
def Cv(bnd:Nat)(hp:List (Nat×aL)):List (Nat×aL)->List (Nat×Nat)->List (Nat×Nat)
 | [],l=>l
 | (h,_)::r,l=>bif Nat.blt h bnd then match get? hp h with
   |some _=>Cv bnd hp r (iE h h l)
   |none=>Cv bnd hp r l
  else Cv bnd hp r l
def Cm(bnd:Nat):List (Nat×Nat)->Bool
 | []=>true
 | (c,h)::r=>bif Nat.blt h bnd then bif Nat.beq c h then Cm bnd r else false else Cm bnd r
def rB(np:List Nat)(bnd:Nat)(st st':St):List (Nat×Nat) :=
 let p0:=E6 st.fr st'.fr (Cv bnd st.hp st'.hp (pins np));let p1:=rA st.hp st'.hp p0 p0
 qZ st.hp st'.hp (rA st.hp st'.hp p1 p1)
def Cd:List (Nat×Nat)->Nat->Bool
 | [],_=>false
 | (a,_)::r,c=>bif Nat.beq a c then true else Cd r c
def C4:List (Nat×Nat)->Nat->Bool
 | [],_=>false
 | (_,b)::r,h=>bif Nat.beq b h then true else C4 r h
def iG(nx:Nat):List (Nat×Nat)->Bool
 | []=>true
 | (c,h)::r=>bif Cd r c then false else bif C4 r h then false else bif Nat.blt h nx then bif Nat.blt h FB then bif Nat.blt c FB then iG nx r else false else false else false
def C6(k:Keep)(hp:List (Nat×aL))(fr:List (Nat×SV)):List (Nat×SV)->Prop
 | []=>True
 | (s,.gd _ _ _)::r=>False/\C6 k hp fr r/\s=s
 | (s,sv)::r=>sub k hp 200 (look fr s) sv/\C6 k hp fr r
def kC(k:Keep)(hp:List (Nat×aL)):aL->aL->Prop
 |.cells T l,.cells T' l'=>T=T'/\sub k hp 200 l l'
 |.arr T sz len enc,.arr T' sz' len' enc'=>T=T'/\sz=sz'/\len=len'/\∀i,i<len->lM k (sub k hp 200) (enc i) (enc' i)
 |.obj o,.obj o'=>o=o'
 |.snap o,.snap o'=>o=o'
 |.map V kk l clock ev _,.map V' kk' l' clock' ev' _=>kk=kk'/\clock=clock'/\l.length=l'.length/\∀(i:Nat) (x:bQ×V×Nat) (y:bQ×V'×Nat),l[i]?=some x->l'[i]?=some y->x.1=y.1/\x.2.2=y.2.2/\sub k hp 200 (ev x.2.1) (ev' y.2.1)
 |.iter src since seen last,.iter src' since' seen' last'=>sub k hp 200 src src'/\since=since'/\seen=seen'/\last=last'
 |.hid l p,.hid l' p'=>k.recs=true/\l=l'/\p=p'
 |_,_=>False
def gQ(k:Keep)(hp:List (Nat×aL)):aL->aL->Prop
 |.gone,o'=>o'=.gone
 |.hid _ _,_=>False
 |o,o'=>kC k hp o o'
def back:List (Nat×Nat)->Nat->Option Nat
 | [],_=>none
 | (c,b)::r,h=>bif Nat.beq b h then some c else back r h
def rN(k:Keep)(nx:Nat)(prs:List (Nat×Nat))(hp:List (Nat×aL)):List (Nat×aL)->Prop
 | []=>True
 | (h,.fam f')::r=>(match back prs h with
  |some c=>match get? hp c with
   |some (.fam f)=>∀i,gQ k hp (f i) (f' i)
   |_=>False
  |none=>bif Nat.blt h nx then bif Nat.blt h FB then ∀i,f' i=.gone else False else False)/\rN k nx prs hp r
 | (h,.arr T' sz' len' enc')::r=>(match back prs h with
  |some c=>match get? hp c with
   |some o=>kC k hp o (.arr T' sz' len' enc')
   |none=>bif Nat.blt h nx then bif Nat.blt h FB then len'=0 else False else False
  |none=>bif Nat.blt h nx then bif Nat.blt h FB then len'=0 else False else False)/\rN k nx prs hp r
 | (h,o')::r=>(match back prs h with
  |some c=>match get? hp c with
   |some o=>kC k hp o o'
   |none=>False
  |none=>False)/\rN k nx prs hp r
def tX(hp hp':List (Nat×aL)):List (Nat×Nat)->Bool
 | []=>true
 | (c,d)::r=>match get? hp c with
  |some (.fam _)=>match get? hp' d with
   |some (.fam _)=>tX hp hp' r
   |_=>false
  |_=>tX hp hp' r
theorem Cc{hp hp':List (Nat×aL)}:∀{prs:List (Nat×Nat)},tX hp hp' prs=true->∀c d f,(c,d)∈prs->get? hp c=some (.fam f)->∃f',get? hp' d=some (.fam f'):=by
 intro prs;induction prs with
 |nil=>simp
 |cons p r ih =>
  grind[tX]
def rM:List Nat->Nat->(Nat->Prop)->Prop
 | [],n,k=>k n
 |c::r,n,k=>bif Nat.beq n c then k c else rM r n k
theorem Tt(n:Nat)(k:Nat->Prop):∀l,rM l n k=k n:=by
 intro l;induction l with
 |nil=>rfl
 |cons c r ih =>
  grind[rM,Nat.eq_of_beq_eq_true]
def gN(n:Nat)(k:Nat->Prop):Prop :=
 bif Nat.blt n 8 then rM [0,1,2,3,4,5,6,7] n k else
 bif Nat.blt n 16 then rM [8,9,10,11,12,13,14,15] n k else
 bif Nat.blt n 24 then rM [16,17,18,19,20,21,22,23] n k else
 bif Nat.blt n 32 then rM [24,25,26,27,28,29,30,31] n k else
 bif Nat.blt n 40 then rM [32,33,34,35,36,37,38,39] n k else
 bif Nat.blt n 48 then rM [40,41,42,43,44,45,46,47] n k else
 bif Nat.blt n 56 then rM [48,49,50,51,52,53,54,55] n k else
 bif Nat.blt n 64 then rM [56,57,58,59,60,61,62,63] n k else
 bif Nat.blt n 72 then rM [64,65,66,67,68,69,70,71] n k else
 k n
theorem iW(n:Nat)(k:Nat->Prop):gN n k=k n:=by
 simp_all[gN,Tt,Bool.cond_self]
def Ag:List (Nat×Nat)->(List (Nat×Nat)->Prop)->Prop
 | [],k=>k []
 | (a,b)::r,k=>gN a λa=>gN b λb=>Ag r λr=>k ((a,b)::r)
theorem Oj:∀(l:List (Nat×Nat)) (k:List (Nat×Nat)->Prop),Ag l k=k l:=by
 intro l;induction l with
 |nil=>intro k; rfl
 |cons p r ih=>grind[Ag,iW]
abbrev PK:=List (Nat×Nat)->Prop
def fX(c h:Nat)(l:List (Nat×Nat))(k:PK):Prop:=gN c λc=>gN h λh=>bif pD l c h then k l else k ((c,h)::l)
theorem pA(c h:Nat)(l:List (Nat×Nat))(k:PK):fX c h l k=k (iE c h l):=by
 grind[fX,iW,iE]
def iH:SV->SV->List (Nat×Nat)->PK->Prop
 |.own h _,.own c _,l,k=>fX c h l k
 |.osl h _ _ _,.osl c _ _ _,l,k=>fX c h l k
 |.osl h _ _ _,.lsl c _ _,l,k=>fX c h l k
 |.lsl h _ _,.lsl c _ _,l,k=>fX c h l k
 |.oel h _ _ _,.oel c _ _ _,l,k=>fX c h l k
 |.mref h,.mref c,l,k=>fX c h l k
 |.fown h _ _,.fown c _ _,l,k=>fX c h l k
 |.fmref h _,.fmref c _,l,k=>fX c h l k
 |.flsl h _ _ _,.flsl c _ _ _,l,k=>fX c h l k
 |.foel h _ _ _ _,.foel c _ _ _ _,l,k=>fX c h l k
 |.csl h _,.csl c _,l,k=>fX c h l k
 |.yield h,.yield c,l,k=>fX c h l k
 |.cons a b,.cons a' b',l,k=>iH a a' l λl=>iH b b' l k
 |.ints _ _ _ a,.ints _ _ _ b,l,k=>iH a b l k
 |.agg a,.agg b,l,k=>iH a b l k
 |.tup a,.tup b,l,k=>iH a b l k
 |.fn _ a,.fn _ b,l,k=>iH a b l k
 |_,_,l,k=>k l
theorem uW:∀(s t:SV) (l:List (Nat×Nat)) (k:PK),iH s t l k=k (kT s t l):=by
 intro s;induction s with
 |cons a b iha ihb=>intro t l k; cases t<;>simp only[iH,kT,iha,ihb]
 |ints q n f a ih=>intro t l k; cases t<;>simp only[iH,kT,ih]
 |agg a ih=>intro t l k; cases t<;>simp only[iH,kT,ih]
 |tup a ih=>intro t l k; cases t<;>simp only[iH,kT,ih]
 |fn f a ih=>intro t l k; cases t<;>simp only[iH,kT,ih]
 |_=>intro t l k; cases t<;>simp only[iH,kT,pA]
def zJ(fr:List (Nat×SV)):List (Nat×SV)->List (Nat×Nat)->PK->Prop
 | [],l,k=>k l
 | (s,sv)::r,l,k=>iH sv (look fr s) l λl=>zJ fr r l k
theorem Kg(fr:List (Nat×SV)):∀(r:List (Nat×SV)) (l:List (Nat×Nat)) (k:PK),zJ fr r l k=k (E6 fr r l):=by
 intro r;induction r with
 |nil=>intro l k; rfl
 |cons p r ih=>grind[zJ,E6,uW]
def oB(hp hp':List (Nat×aL)):List (Nat×Nat)->List (Nat×Nat)->PK->Prop
 | [],l,k=>k l
 | (c,h)::r,l,k=>match get? hp' h,get? hp c with
  |some (.cells _ a),some (.cells _ b)=>iH a b l λl=>oB hp hp' r l k
  |some (.iter a _ _ _),some (.iter b _ _ _)=>iH a b l λl=>oB hp hp' r l k
  |_,_=>oB hp hp' r l k
theorem Ay(hp hp':List (Nat×aL)):∀(r l:List (Nat×Nat)) (k:PK),oB hp hp' r l k=k (rA hp hp' r l):=by
 intro r;induction r with
 |nil=>intro l k; rfl
 |cons p r ih =>
  grind[oB,rA,uW]
def oO(hp:List (Nat×aL)):List (Nat×aL)->List (Nat×Nat)->PK->Prop
 | [],l,k=>k l
 | (h,.fam _)::r,l,k=>match get? hp h with
  |some (.fam _)=>fX h h l λl=>oO hp r l k
  |_=>oO hp r l k
 |_::r,l,k=>oO hp r l k
theorem yN(hp:List (Nat×aL)):∀(r:List (Nat×aL)) (l:List (Nat×Nat)) (k:PK),oO hp r l k=k (qZ hp r l):=by
 intro r;induction r with
 |nil=>intro l k; rfl
 |cons p r ih =>
  intro l k;obtain⟨h,o⟩:=p;cases o<;>simp only[oO,qZ,ih]
  grind[pA]
def Hh:List Nat->PK->Prop
 | [],k=>k []
 |n::r,k=>Hh r λl=>fX n n l k
theorem Hi:∀(l:List Nat) (k:PK),Hh l k=k (pins l):=by
 intro l;induction l with
 |nil=>intro k; rfl
 |cons n r ih=>grind[Hh,pins,pA]
def xQ(bnd:Nat)(hp:List (Nat×aL)):List (Nat×aL)->List (Nat×Nat)->PK->Prop
 | [],l,k=>k l
 | (h,_)::r,l,k=>bif Nat.blt h bnd then match get? hp h with
   |some _=>fX h h l λl=>xQ bnd hp r l k
   |none=>xQ bnd hp r l k
  else xQ bnd hp r l k
theorem Ph(bnd:Nat)(hp:List (Nat×aL)):∀(r:List (Nat×aL)) (l:List (Nat×Nat)) (k:PK),xQ bnd hp r l k=k (Cv bnd hp r l):=by
 intro r;induction r with
 |nil=>intro l k; rfl
 |cons p r ih =>
  intro l k;obtain⟨h,o⟩:=p;simp only[xQ,Cv];cases Nat.blt h bnd with
  |true =>
   simp only[cond_true]
   grind[pA]
  |false=>simp[*]
def Kh(np:List Nat)(bnd:Nat)(st st':St)(k:PK):Prop :=
 Hh np λl0=>xQ bnd st.hp st'.hp l0 λl1=>zJ st.fr st'.fr l1 λp0=>oB st.hp st'.hp p0 p0 λp1=>oB st.hp st'.hp p1 p1 λp2=>oO st.hp st'.hp p2 k
theorem Pg(np:List Nat)(bnd:Nat)(st st':St)(k:PK):Kh np bnd st st' k=k (rB np bnd st st'):=by
 simp only[Kh,Hi,Ph,Kg,Ay,yN,rB]
def Az(np:List Nat)(sv want:SV)(hp hp':List (Nat×aL))(k:PK):Prop :=
 Hh np λl0=>iH want sv l0 λp0=>oB hp hp' p0 p0 λp1=>oB hp hp' p1 p1 λp2=>oO hp hp' p2 k
def lI(np:List Nat)(bnd:Nat)(st st':St):Prop :=
 Kh np bnd st st' λprs =>
 bif iG st'.nx prs then
  bif tX st.hp st'.hp prs then
   bif uX prs np then
    bif Cm bnd prs then
     bif Nat.ble bnd st'.nx then
      C6 (.keep prs) st.hp st.fr st'.fr/\rN (.keep prs) st'.nx prs st.hp st'.hp
     else False
    else False
   else False
  else False
 else False
theorem Gf{c h:Nat}:∀{l:List (Nat×Nat)},pD l c h=true->(c,h)∈l:=by
 intro l;induction l with
 |nil=>intro e; cases e
 |cons p r ih =>
  obtain⟨a,b⟩:=p;intro e;simp only[pD]at e;cases h1:Nat.beq a c with
  |false=>grind
  |true =>
   cases h2:Nat.beq b h with
   |false=>grind
   |true=>simp_all
theorem A2{l:List (Nat×Nat)}:∀{n:List Nat},uX l n=true->∀i,i∈n->(i,i)∈l:=by
 intro n;induction n with
 |nil=>simp
 |cons n r ih =>
  simp_all[uX,List.mem_cons,Gf]
def rH(C:Ctx):Prop:=∀id p,C.pin id=some p->fbase id∈C.np\/(id<C.bnd/\id<FB)
theorem O1{bnd:Nat}:∀{l:List (Nat×Nat)},Cm bnd l=true->∀c h,(c,h)∈l->h<bnd->c=h:=by
 intro l;induction l with
 |nil=>simp
 |cons p r ih =>
  obtain⟨a,b⟩:=p;intro e c h hm hlt;simp only[Cm]at e;cases h1:Nat.blt b bnd with
  |false =>
   simp only[h1,cond_false]at e;rcases aR.1 hm with hh|hh
   .obtain ⟨_,rfl⟩:=Prod.mk.inj hh
    grind[Nat.blt,Nat.ble_eq_true_of_le]
   grind
  |true =>
   simp only[h1,cond_true]at e;cases h2:Nat.beq a b with
   |false=>grind
   |true =>
    simp only[h2,cond_true]at e
    grind[Nat.eq_of_beq_eq_true]
theorem Om{l:List (Nat×Nat)}{c:Nat}:Cd l c=true↔∃h,(c,h)∈l:=by
 induction l with
 |nil=>simp[Cd]
 |cons p r ih =>
  obtain⟨a,b⟩:=p;simp only[Cd];cases hb:Nat.beq a c with
  |true=>simp_all
  |false =>
   have hne:a≠c:=(by grind[Nat.beq_refl])
   grind
theorem Pq{l:List (Nat×Nat)}{h:Nat}:C4 l h=true↔∃c,(c,h)∈l:=by
 induction l with
 |nil=>simp[C4]
 |cons p r ih =>
  obtain⟨a,b⟩:=p;simp only[C4];cases hb:Nat.beq b h with
  |true=>simp_all
  |false =>
   have hne:b≠h:=(by grind[Nat.beq_refl])
   grind
theorem wH{nx c h:Nat}{r:List (Nat×Nat)}(hk:iG nx ((c,h)::r)=true):(∀h',(c,h')∉r)/\(∀c',(c',h)∉r)/\(h<nx/\h<FB/\c<FB)/\iG nx r=true:=by
 simp only[iG]at hk;cases h1:Cd r c with
 |true=>grind
 |false =>
  cases h2:C4 r h with
  |true=>grind
  |false =>
   cases h3:Nat.blt h nx with
   |false=>grind
   |true =>
    cases h4:Nat.blt h FB with
    |false=>grind
    |true =>
    cases h5:Nat.blt c FB with
    |false=>grind
    |true =>
    simp only[h1,h2,h3,h4,h5,cond_false,cond_true]at hk;refine⟨λh' hm=>?_,λc' hm=>?_,⟨?_,?_,?_⟩,hk⟩
    .grind [Om]
    .grind [Pq]
    .simp_all
    .simp_all
    simp_all
theorem get?_mem{l:List (Nat×Nat)}{c h:Nat}(hg:get? l c=some h):(c,h)∈l:=by
 induction l with
 |nil=>cases hg
 |cons p r ih =>
  grind[get?_cons]
theorem get?_none{l:List (Nat×Nat)}{c:Nat}(hg:get? l c=none)(h:Nat):(c,h)∉l:=by
 induction l with
 |nil=>simp
 |cons p r ih =>
  obtain⟨a,b⟩:=p;rw[get?_cons]at hg
  grind
theorem back_mem{l:List (Nat×Nat)}{c h:Nat}(hg:back l h=some c):(c,h)∈l:=by
 induction l with
 |nil=>cases hg
 |cons p r ih =>
  obtain⟨a,b⟩:=p;simp only[back]at hg;cases hb:Nat.beq b h with
  |true=>simp_all
  |false=>grind
theorem oG{nx:Nat}:∀{l:List (Nat×Nat)},iG nx l=true->(∀c h h',(c,h)∈l->(c,h')∈l->h=h')/\(∀c c' h,(c,h)∈l->(c',h)∈l->c=c')/\(∀c h,(c,h)∈l->h<nx/\h<FB/\c<FB):=by
 intro l;induction l with
 |nil=>simp
 |cons p r ih =>
  obtain⟨a,b⟩:=p;intro hk;obtain⟨k1,k2,k3,k4⟩:=wH hk
  grind
theorem kL{nx:Nat}{l:List (Nat×Nat)}(hk:iG nx l=true){c h:Nat}(hm:(c,h)∈l):back l h=some c:=by
 induction l with
 |nil=>cases hm
 |cons p r ih =>
  obtain⟨a,b⟩:=p;obtain⟨k1,k2,k3,k4⟩:=wH hk;simp only[back];rcases aR.1 hm with e|e
  .simp_all
  .have hne:b≠h:=by grind
   have hb:Nat.beq b h=false:=by
    grind[nbeq]
   simp[*]
theorem get?_of_mem{nx:Nat}{l:List (Nat×Nat)}(hk:iG nx l=true){c h:Nat}(hm:(c,h)∈l):get? l c=some h:=by
 obtain⟨f1,_,_⟩:=oG hk;cases hg:get? l c with
 |none=>grind[get?_none]
 |some x=>rw[f1 _ _ _ (get?_mem hg) hm]
section
variable {C:Ctx}
theorem wP{k:Keep}{hp:List (Nat×aL)}{o o':aL}(h:kC k hp o o'):(solid? o=some o/\solid? o'=some o')\/(solid? o=none/\solid? o'=none):=by
 cases o<;>cases o'<;>first
  |exact .inl ⟨rfl,rfl⟩
  |exact h.elim
  | (obtain⟨rfl,rfl,rfl,h⟩:=h
     grind[Nat.eq_zero_or_pos,rE,cL])
theorem Kx{k:Keep}{hp:List (Nat×aL)}{o:aL}{f:Nat->aL}:¬kC k hp o (.fam f):=by
 cases o<;>exact λh=>h
theorem H6{k:Keep}{hp:List (Nat×aL)}{o:aL}{f:Nat->aL}:¬kC k hp (.fam f) o:=by
 cases o<;>exact λh=>h
theorem uF{k:Keep}{hp:List (Nat×aL)}{o o':aL}(hn:∀l p,o≠.hid l p)(h:kC k hp o o'):(dX? o=some o/\dX? o'=some o')\/(dX? o=none/\dX? o'=none):=by
 have h1:dX? o=solid? o:=by cases o<;>first|rfl|grind
 have h2:dX? o'=solid? o':=by
  cases o'<;>first
   |rfl
   | (cases o<;>first|exact absurd rfl (hn _ _)|exact h.elim)
 grind[wP]
theorem Bc{k:Keep}{hp:List (Nat×aL)}{o o':aL}(hg:o≠.gone)(h:gQ k hp o o'):kC k hp o o'/\∀l p,o≠.hid l p:=by
 cases o<;>first
  |exact⟨h,λ_ _ e=>by cases e⟩
  |exact absurd rfl hg
  |exact h.elim
theorem P0{k:Keep}{nx:Nat}{prs:List (Nat×Nat)}{hp:List (Nat×aL)}:∀{hp':List (Nat×aL)},rN k nx prs hp hp'->∀h o',get? hp' h=some o' ->
  (∃f',o'=.fam f'/\((∃c f,back prs h=some c/\get? hp c=some (.fam f)/\∀i,gQ k hp (f i) (f' i))\/(back prs h=none/\h<nx/\h<FB/\∀i,f' i=.gone))) \/
  (∃c o,back prs h=some c/\get? hp c=some o/\kC k hp o o')\/(∃T sz enc,o'=.arr T sz 0 enc/\h<nx/\h<FB):=by
 intro hp';induction hp' with
 |nil=>intro _ h o' hg; cases hg
 |cons p r ih =>
  obtain⟨h0,o0⟩:=p;intro hs h o' hg;rw[get?_cons]at hg;have plain:(∀f',o0≠.fam f')->((match back prs h0 with
    |some c=>match get? hp c with
     |some o=>kC k hp o o0
     |none=>False
    |none=>False)/\rN k nx prs hp r) ->
    (∃f',o'=.fam f'/\((∃c f,back prs h=some c/\get? hp c=some (.fam f)/\∀i,gQ k hp (f i) (f' i))\/(back prs h=none/\h<nx/\h<FB/\∀i,f' i=.gone))) \/
    (∃c o,back prs h=some c/\get? hp c=some o/\kC k hp o o')\/(∃T sz enc,o'=.arr T sz 0 enc/\h<nx/\h<FB):=by
   grind
  cases o0 with
  |fam f0 =>
   simp only[rN]at hs;split at hg
   .rename_i e;subst e;cases hg;left;refine⟨f0,rfl,?_⟩;have h1:=hs.1;split at h1
    .grind
    simp_all
   grind
  |arr T' sz' len' enc' =>
   simp only[rN]at hs;split at hg
   .rename_i e;subst e;cases hg;have ghost:(bif Nat.blt h0 nx then bif Nat.blt h0 FB then len'=0 else False else False)->∃T sz enc,aL.arr T' sz' len' enc'=.arr T sz 0 enc/\h0<nx/\h0<FB:=by
     simp_all
    grind
   grind
  |_=>simp only[rN]at hs; exact plain (by simp) hs
theorem P6{E E':Env}{k:Keep}{hp:List (Nat×aL)}(hsub:∀s t vs,sub k hp 200 s t->R E s vs->R E' t vs){V V':Type}{ev:V->SV}{ev':V'->SV} :
  ∀(l:List (bQ×V×Nat)) (l':List (bQ×V'×Nat)) (es:List MapEntry),l.length=l'.length ->
   (∀(i:Nat) (x:bQ×V×Nat) (y:bQ×V'×Nat),l[i]?=some x->l'[i]?=some y->x.1=y.1/\x.2.2=y.2.2/\sub k hp 200 (ev x.2.1) (ev' y.2.1))->hZ E ev l es->hZ E' ev' l' es:=by
 intro l;induction l with
 |nil =>
  intro l' es hl _ he;cases l' with
  |nil=>exact he
  |cons y r=>simp at hl
 |cons x r ih =>
  intro l' es hl h he;cases l' with
  |nil=>simp at hl
  |cons y r' =>
   obtain⟨e,t,h1,h2,h3,h4,h5⟩:=he;obtain⟨a1,a2,a3⟩:=h 0 x y rfl rfl;refine⟨e,t,h1,a1▸h2,hsub _ _ _ a3 h3,a2▸h4,ih r' t (by grind) (λi x' y' hx hy=>h (i+1) x' y' (by simp[*]) (by simp[*])) h5⟩
theorem xX{E E':Env}{k:Keep}{hp:List (Nat×aL)}(hle:loose k=true->E.LeU E')(hsub:∀s t vs,sub k hp 200 s t->R E s vs->R E' t vs)(hH:k.recs=true->∀l p x,E.H l p x->E'.H l p x){o o':aL}(h3:kC k hp o o'){cp:Nat}{x:Obj}(e3:HR E o cp x):HR E' o' cp x:=by
 cases o<;>cases o'<;>simp only[kC]at h3<;>try exact h3.elim
 .obtain ⟨rfl,h3⟩:=h3;obtain⟨cs,k1,k2⟩:=e3;exact⟨cs,k1,hsub _ _ _ h3 k2⟩
 .obtain ⟨rfl,rfl,rfl,h3⟩:=h3;obtain⟨cs,k1,k2,k3,k4⟩:=e3;refine⟨cs,k1,k2,k3,λq hq=>?_⟩
  grind[lM.sound]
 .subst h3; exact e3
 .subst h3; exact e3
 .obtain ⟨rfl,rfl,h4,h5⟩:=h3;obtain⟨k0,es,k1,k2⟩:=e3;refine⟨λy hy=>?_,es,k1,P6 hsub _ _ _ h4 h5 k2⟩;obtain⟨i,hi⟩:=jE hy;have hlt:=(bZ.1 hi).1;have hx:=aM (h4▸hlt);rw[<- (h5 i _ y hx hi).1];exact k0 _ (jF hx)
 .obtain ⟨h4,rfl,rfl,rfl⟩:=h3;obtain⟨r,k1,k2⟩:=e3;exact⟨r,hsub _ _ _ h4 k1,k2⟩
 .obtain ⟨h4,rfl,rfl⟩:=h3;exact hH h4 _ _ _ e3
def Pair(prs:List (Nat×Nat))(n m:Nat):Prop :=
 (n<FB/\m<FB/\(m,n)∈prs)\/∃h c i,n=fid h i/\m=fid c i/\(c,h)∈prs
theorem Fj(bnd:Nat){μ:Nat->Option (Nat×Nat)}{hp hp':List (Nat×aL)}{nx nx':Nat}{w:World}(h:bD C μ hp nx w){prs:List (Nat×Nat)}(hk:iG nx' prs=true)(hfam:tX hp hp' prs=true){k:Keep}(hs:rN k nx' prs hp hp')
  (hlow:∀c h,(c,h)∈prs->h<bnd->c=h) (hbn:bnd<=nx') :
  ∃μ':Nat->Option (Nat×Nat),
   (∀n o',hget hp' n=some o'->∃m o,Pair prs n m/\hget hp m=some o/\μ' n=μ m/\kC k hp o o') /\
   (∀id id' p,get? prs id=some id'->μ id=some p->μ' id'=some p) /\
   (∀c d i p,get? prs c=some d->μ (fid c i)=some p->μ' (fid d i)=some p) /\
   (∀n p,μ' n=some p->n<FB->n<nx') /\
   (∀n p,μ' n=some p->FB<=n->∃o,hget hp' n=some o) /\
   (∀id o,get? hp' id=some o->id<nx'/\id<FB) /\
   (∀n n' m,Pair prs n m->Pair prs n' m->n=n') /\
   (∀m n o,hget hp m=some o->kept (.keep prs) (fbase m)=false->¬Pair prs n m) /\
   (∀n,n<bnd->n<FB->μ' n=μ n):=by
 obtain⟨f1,f2,f3⟩:=oG hk;have hget':=λh o'=>P0 hs h o';have bk:∀{c d:Nat},(c,d)∈prs->back prs d=some c:=λhm=>kL hk hm;have pinj:∀n n' m,Pair prs n m->Pair prs n' m->n=n':=by
  rintro n n' m (⟨a1,a2,a3⟩|⟨d,c,i,rfl,rfl,a3⟩) (⟨b1,b2,b3⟩|⟨d',c',i',rfl,e,b3⟩)
  .grind
  .grind [cQ]
  .grind [cQ]
  grind[Lr]
 -- members of families
 have mem:∀d i o',d<FB->hget hp' (fid d i)=some o'->∃c o,(c,d)∈prs/\hget hp (fid c i)=some o/\kC k hp o o':=by
  intro d i o' hd hg;have hg0:=hg;have h1:¬fid d i<FB:=bJ.2 (cQ d i);simp only[hget,h1,if_false,gF i hd,fE i hd]at hg;split at hg
  .rename_i f' hf';have e:=solid?_self (dX?_solid hg);rcases hget' d _ hf' with⟨f'',e1,h2⟩|⟨c,o,e1,e2,e3⟩|⟨_,_,_,e1,_⟩
   .cases e1;rcases h2 with⟨c,f,hb,hf,hall⟩|⟨_,_,_,hall⟩
    .have hm:=back_mem hb;have hi:=hall i;have hfi:f i≠.gone:=by
      intro e4;rw[e4]at hi;simp only[gQ]at hi;rw[hi]at hg;cases hg
     obtain⟨hso,hnh⟩:=Bc hfi hi
     grind[iZ,uF]
    .rw [hall i]at hg; cases hg
   .exact absurd e3 Kx
   .cases e1
  .cases hg
 refine⟨λn=>if n<FB then (match back prs n with
   |some c=>μ c
   |none=>if n<bnd then μ n else none)else match hget hp' n with
  |some _=>(back prs (n%FB)).bind λc=>μ (fid c (n/FB-1))
  |none=>none,?_,?_,?_,?_,?_,?_,pinj,?_,?_⟩
 .intro n o' hg;by_cases hn:n<FB
  .rw [fF hn]at hg;simp only[aD]at hg;obtain⟨o1,g1,g2⟩:=hg;have e:=solid?_self g2;subst e;rcases hget' n _ g1 with⟨f',e1,_⟩|⟨c,o,e1,e2,e3⟩|⟨T,sz,enc,e1,_⟩
   .subst e1; cases g2
   .have hm:=back_mem e1;have hso:solid? o=some o:=by
     grind[wP]
    refine⟨c,o,.inl ⟨hn,(f3 _ _ hm).2.2,hm⟩,jL (f3 _ _ hm).2.2 e2 hso,?_,e3⟩
    grind
   grind[rE]
  .have e:=nI (bJ.1 hn);have hlt:n%FB<FB:=Nat.mod_lt _ P7;rw[<- e]at hg;obtain⟨c,o,hm,ho,hso⟩:=mem _ _ _ hlt hg;refine⟨fid c (n/FB-1),o,.inr ⟨n%FB,c,n/FB-1,e.symm,rfl,hm⟩,ho,?_,hso⟩
   grind
 .intro id id' p hp1 hm;have hmem:=get?_mem hp1
  grind
 .intro c d i p hp1 hm;have hmem:=get?_mem hp1;have hd:=(f3 _ _ hmem).2.1;have hc:=(f3 _ _ hmem).2.2;have h1:¬fid d i<FB:=bJ.2 (cQ d i);obtain⟨o,ho⟩:=h.fam _ _ hm (cQ c i);have hgd:∃o',hget hp' (fid d i)=some o':=by
   -- the family stands on the other side,too
   have h2:¬fid c i<FB:=bJ.2 (cQ c i);simp only[hget,h2,if_false,gF i hc,fE i hc]at ho;split at ho
   .rename_i f hf;cases hgd:get? hp' d with
    |none=>grind[Cc]
    |some o' =>
     rcases hget' d _ hgd with⟨f',e1,h3⟩|⟨c',o2,e1,e2,e3⟩|⟨T,sz,enc,e1,_⟩
     .subst e1;rcases h3 with⟨c',f2,hb,hf2,hall⟩|⟨hb,_⟩
      .rw [bk hmem]at hb;cases hb;rw[hf]at hf2;cases hf2;have hi:=hall i;obtain⟨hso,hnh⟩:=Bc (by intro e; rw[e]at ho; cases ho) hi
       grind[iZ,uF]
      grind
     .grind [H6]
     grind[Cc]
   .cases ho
  obtain⟨o',ho'⟩:=hgd;simp[h1,ho',gF i hd,fE i hd,bk hmem,hm]
 .intro n p hm hn;simp only[hn,if_true]at hm
  grind[back_mem]
 .grind
 .grind [back_mem]
 .rintro m n o ho hkp (⟨a1,a2,a3⟩|⟨d,c,i,rfl,rfl,a3⟩)
  .simp only [fbase,a2,if_true,kept,Keep.keep]at hkp;cases hg:get? prs m with
   |none=>grind[get?_none]
   |some x=>grind
  .have hc:=(f3 _ _ a3).2.2;have h2:¬fid c i<FB:=bJ.2 (cQ c i);simp only[fbase,h2,if_false,gF i hc,kept,Keep.keep]at hkp;cases hg:get? prs c with
   |none=>grind[get?_none]
   |some x=>grind
 .intro n h1 h2;simp only[h2,if_true]
  grind[back_mem]
theorem sub_pos{μ μ':Nat->Option (Nat×Nat)}{hp hp':List (Nat×aL)}{nx nx':Nat}{w:World}(h:bD C μ hp nx w){prs:List (Nat×Nat)}(hk:iG nx' prs=true){k:Keep}
  (k1:∀n o',hget hp' n=some o'->∃m o,Pair prs n m/\hget hp m=some o/\μ' n=μ m/\kC k hp o o') :
  ∀id p q,μ' id=some p->FB<=id->hget hp' id=some (.obj q)->p.1=id/FB-1:=by
 intro id p q e hge g;obtain⟨m,o,hp1,ho,em,hso⟩:=k1 id _ g;rcases hp1 with⟨a1,_,_⟩|⟨d,c,i,rfl,rfl,a3⟩
 .omega
 .obtain ⟨_,hd,hc⟩:=(oG hk).2.2 _ _ a3;have ho':∃q',o=.obj q':=by
   cases o<;>simp only[kC]at hso<;>exact⟨_,rfl⟩
  obtain⟨q',rfl⟩:=ho';have:=h.pos _ p q' (em▸e) (cQ c i) ho
  grind[fE]
end
end Go.Eng
end
section
set_option maxHeartbeats 10000000
namespace Go.Eng
open Go Go.RowKit
def rnS(l:List (Nat×Nat)):SV->SV
 |.own id off=>bif Nat.blt id FB then .own ((get? l id).getD 0) off else .junk
 |.osl id sz lo n=>bif Nat.blt id FB then .osl ((get? l id).getD 0) sz lo n else .junk
 |.lsl id sz n=>bif Nat.blt id FB then .lsl ((get? l id).getD 0) sz n else .junk
 |.oel id sz i off=>bif Nat.blt id FB then .oel ((get? l id).getD 0) sz i off else .junk
 |.mref id=>bif Nat.blt id FB then .mref ((get? l id).getD 0)else .junk
 |.fown h i off=>bif Nat.blt h FB then .fown ((get? l h).getD 0) i off else .junk
 |.fmref h i=>bif Nat.blt h FB then .fmref ((get? l h).getD 0) i else .junk
 |.flsl h i sz n=>bif Nat.blt h FB then .flsl ((get? l h).getD 0) i sz n else .junk
 |.foel h i sz k off=>bif Nat.blt h FB then .foel ((get? l h).getD 0) i sz k off else .junk
 |.csl id n=>bif Nat.blt id FB then .csl ((get? l id).getD 0) n else .junk
 |.slice sz n enc=>.slice sz n (λi=>rnS l (enc i))
 |.slit sz els=>.slit sz (rnS l els)
 |.cptr c=>.cptr (rnS l c)
 |.cons a b=>.cons (rnS l a) (rnS l b)
 |.ints k n f t=>.ints k n f (rnS l t)
 |.agg a=>.agg (rnS l a)
 |.tup a=>.tup (rnS l a)
 |.fn f a=>.fn f (rnS l a)
 |.junk=>.junk
 |.val v=>.val v
 |.int k n=>.int k n
 |.bool b=>.bool b
 |.str s=>.str s
 |.nilsl=>.nilsl
 |.nil=>.nil
 |.yield id=>bif Nat.blt id FB then .yield ((get? l id).getD 0)else .junk
 |.gd _ _ _=>.junk
def rnO(l r:List (Nat×Nat)):aL->aL
 |.cells T c=>.cells T (rnS l c)
 |.arr T sz n enc=>.arr T sz n (λi=>rnS l (enc i))
 |.obj o=>.obj o
 |.snap o=>.snap o
 |.map V kk es clock ev iv=>.map V kk es clock (λv=>rnS l (ev v)) (λs=>iv (rnS r s))
 |.iter src a b c=>.iter (rnS l src) a b c
 |.fam f=>.fam (λi=>rnO l r (f i))
 |.hid a b=>.hid a b
 |.gone=>.gone
theorem Uy(l r:List (Nat×Nat))(o:aL):solid? (rnO l r o)=(solid? o).map (rnO l r):=by
 cases o<;>first
  |rfl
  |grind[rnO,solid?]
theorem Pr(l r:List (Nat×Nat))(o:aL):dX? (rnO l r o)=(dX? o).map (rnO l r):=by
 cases o<;>first
  |rfl
  |grind[rnO,dX?,solid?]
theorem X8(l:List (Nat×Nat)):∀s:SV,(rnS l s).len=s.len:=by
 intro s;induction s with
 |cons a b _ ih=>simp[rnS,SV.len,ih]
 |ints k n f t ih=>simp[rnS,SV.len,ih]
 |own id off=>simp only[rnS]; cases Nat.blt id FB<;>rfl
 |osl id=>simp only[rnS]; cases Nat.blt id FB<;>rfl
 |lsl id=>simp only[rnS]; cases Nat.blt id FB<;>rfl
 |oel id=>simp only[rnS]; cases Nat.blt id FB<;>rfl
 |mref id=>simp only[rnS]; cases Nat.blt id FB<;>rfl
 |fown id=>simp only[rnS]; cases Nat.blt id FB<;>rfl
 |fmref id=>simp only[rnS]; cases Nat.blt id FB<;>rfl
 |flsl id=>simp only[rnS]; cases Nat.blt id FB<;>rfl
 |foel id=>simp only[rnS]; cases Nat.blt id FB<;>rfl
 |csl id=>simp only[rnS]; cases Nat.blt id FB<;>rfl
 |yield id=>simp only[rnS]; cases Nat.blt id FB<;>rfl
 |_=>rfl
structure RnE(l:List (Nat×Nat))(E E':Env):Prop where
 μ:∀id p,id<FB->E.μ id=some p->E'.μ ((get? l id).getD 0)=some p
 fam:∀h i p,h<FB->E.μ (fid h i)=some p->E'.μ (fid ((get? l h).getD 0) i)=some p
 U:∀b,E.U b->E'.U b
 w:E'.w=E.w
 H:∀l p o,E.H l p o->E'.H l p o
theorem kO{a b:Nat}(h:Nat.blt a b=true):a<b:=aQ (n:=a+1) h
theorem Qg{l:List (Nat×Nat)}{E E':Env}(hE:RnE l E E')(s:SV):(∀vs,R E s vs->R E' (rnS l s) vs)/\(∀a sz i,RE E s a sz i->RE E' (rnS l s) a sz i):=by
 induction s with
 |own id off =>
  refine⟨?_,(by grind[rnS,RE])⟩;rintro vs ⟨b,c,h1,h2⟩;simp only[rnS];cases hb:Nat.blt id FB with
  |true=>exact⟨b,c,hE.μ _ _ (kO hb) h1,h2⟩
  |false=>exact⟨_,h2⟩
 |osl id sz lo n =>
  refine⟨?_,(by grind[rnS,RE])⟩;intro vs h;simp only[rnS];cases hb:Nat.blt id FB with
  |true =>
   rcases h with h|⟨h0,b,c,h1,h2⟩
   .exact .inl h
   .exact .inr ⟨h0,b,c,hE.μ _ _ (kO hb) h1,h2⟩
  |false =>
   rcases h with⟨_,_,_,h⟩|⟨h0,b,c,h1,h2,_⟩
   .exact ⟨_,h⟩
   .exact ⟨_,h2⟩
 |lsl id sz n =>
  refine⟨?_,(by grind[rnS,RE])⟩;intro vs h;simp only[rnS];cases hb:Nat.blt id FB with
  |true =>
   rcases h with h|⟨h0,b,c,h1,h2⟩
   .exact .inl h
   .exact .inr ⟨h0,b,c,hE.μ _ _ (kO hb) h1,h2⟩
  |false =>
   rcases h with⟨_,_,h⟩|⟨h0,b,c,h1,h2,_⟩
   .exact ⟨_,h⟩
   .exact ⟨_,h2⟩
 |oel id sz i off =>
  refine⟨?_,(by grind[rnS,RE])⟩;rintro vs ⟨b,c,h1,h2⟩;simp only[rnS];cases hb:Nat.blt id FB with
  |true=>exact⟨b,c,hE.μ _ _ (kO hb) h1,h2⟩
  |false=>exact⟨_,h2⟩
 |mref id =>
  refine⟨?_,(by grind[rnS,RE])⟩;rintro vs ⟨b,c,h1,h2⟩;simp only[rnS];cases hb:Nat.blt id FB with
  |true=>exact⟨b,c,hE.μ _ _ (kO hb) h1,h2⟩
  |false=>exact⟨_,h2⟩
 |yield id =>
  refine⟨?_,(by grind[rnS,RE])⟩;rintro vs ⟨b,c,h1,h2⟩;simp only[rnS];cases hb:Nat.blt id FB with
  |true=>exact⟨b,c,hE.μ _ _ (kO hb) h1,h2⟩
  |false=>exact⟨_,h2⟩
 |fown id i off =>
  refine⟨?_,(by grind[rnS,RE])⟩;rintro vs ⟨b,c,h1,h2⟩;simp only[rnS];cases hb:Nat.blt id FB with
  |true=>exact⟨b,c,hE.fam _ _ _ (kO hb) h1,h2⟩
  |false=>exact⟨_,h2⟩
 |fmref id i =>
  refine⟨?_,(by grind[rnS,RE])⟩;rintro vs ⟨b,c,h1,h2⟩;simp only[rnS];cases hb:Nat.blt id FB with
  |true=>exact⟨b,c,hE.fam _ _ _ (kO hb) h1,h2⟩
  |false=>exact⟨_,h2⟩
 |csl id n =>
  refine⟨?_,(by grind[rnS,RE])⟩;rintro vs ⟨b,c,h1,h2⟩;simp only[rnS];cases hb:Nat.blt id FB with
  |true=>exact⟨b,c,hE.μ _ _ (kO hb) h1,h2⟩
  |false=>exact⟨_,h2⟩
 |foel id i sz k off =>
  refine⟨?_,(by grind[rnS,RE])⟩;rintro vs ⟨b,c,h1,h2⟩;simp only[rnS];cases hb:Nat.blt id FB with
  |true=>exact⟨b,c,hE.fam _ _ _ (kO hb) h1,h2⟩
  |false=>exact⟨_,h2⟩
 |flsl id i sz n =>
  refine⟨?_,(by grind[rnS,RE])⟩;intro vs h;simp only[rnS];cases hb:Nat.blt id FB with
  |true =>
   rcases h with h|⟨b,c,h1,h2⟩
   .exact .inl h
   .exact .inr ⟨b,c,hE.fam _ _ _ (kO hb) h1,h2⟩
  |false =>
   rcases h with⟨_,_,h⟩|⟨b,c,h1,h2,_⟩
   .exact ⟨_,h⟩
   .exact ⟨_,h2⟩
 |slice sz n enc ih =>
  refine⟨?_,(by grind[RE,rnS])⟩;intro vs h;simp only[R,rnS]at h ⊢;obtain⟨a,cap,h1,h2,h3⟩:=h;refine⟨a,cap,h1,h2,λi hi=>?_⟩;obtain⟨b,off,cs,e,u,r,ln,hh⟩:=h3 i hi;exact⟨b,off,cs,e,hE.U b u,(ih i).1 _ r,ln,by rw[hE.w]; exact hh⟩
 |slit sz els ih =>
  grind[RE,rnS,R,X8]
 |cptr cells ih =>
  refine⟨?_,(by grind[RE,rnS])⟩;intro vs h;simp only[R,rnS]at h ⊢;obtain⟨b,off,cs,h1,h2,h3,h4⟩:=h;exact⟨b,off,cs,h1,hE.U b h2,ih.1 _ h3,by rw[hE.w]; exact h4⟩
 |cons h t ihh iht =>
  refine⟨?_,?_⟩
  .grind [R,rnS]
  .intro a sz i h;simp only[RE,rnS]at h ⊢;obtain⟨⟨b,off,cs,e,u,r,ln,hh⟩,h2⟩:=h;exact⟨⟨b,off,cs,e,hE.U b u,ihh.1 _ r,ln,by rw[hE.w]; exact hh⟩,iht.2 _ _ _ h2⟩
 |ints k n f t ih =>
  grind[RE,R,rnS]
 |agg l ih =>
  grind[RE,rnS,R]
 |tup l ih =>
  grind[RE,rnS,R]
 |fn f l ih =>
  grind[RE,rnS,R]
 |_=>exact⟨λvs h=>by simpa only[R,rnS]using h,λ_ _ _ h=>by simp[RE,rnS]⟩
theorem Qf{l:List (Nat×Nat)}{E E':Env}(hE:RnE l E E'){s:SV}{vs:List Value}(h:R E s vs):R E' (rnS l s) vs:=(Qg hE s).1 vs h
theorem Vs{l:List (Nat×Nat)}{E E':Env}(hE:RnE l E E'){V:Type}{ev:V->SV}:∀{es:List (bQ×V×Nat)} {ms:List MapEntry},hZ E ev es ms->hZ E' (λv=>rnS l (ev v)) es ms:=by
 intro es;induction es with
 |nil=>intro ms h; exact h
 |cons x r ih =>
  intro ms h;obtain⟨e,t,h1,h2,h3,h4,h5⟩:=h;exact⟨e,t,h1,h2,Qf hE h3,h4,ih h5⟩
theorem aDu{l r:List (Nat×Nat)}{E E':Env}(hE:RnE l E E'){o:aL}{c:Nat}{x:Obj}(h:HR E o c x):HR E' (rnO l r o) c x:=by
 cases o with
 |cells T l=>obtain⟨cs,h1,h2⟩:=h; exact⟨cs,h1,Qf hE h2⟩
 |arr T sz len enc =>
  obtain⟨cs,h1,h2,h3,h4⟩:=h;refine⟨cs,h1,h2,h3,λi hi=>?_⟩
  grind[Qf]
 |obj o'=>exact h
 |snap o'=>exact h
 |hid a b=>exact hE.H _ _ _ h
 |map V kk l clock ev iv=>obtain⟨h0,es,h1,h2⟩:=h; exact⟨h0,es,h1,Vs hE h2⟩
 |iter src since seen last=>obtain⟨r,h1,h2⟩:=h; exact⟨r,Qf hE h1,h2⟩
 |fam f=>exact h
 |gone=>exact h
def numb:List Nat->Nat->List (Nat×Nat)
 | [],_=>[]
 |m::r,j=>(m,j)::numb r (j+1)
def names(ids:List Nat)(j nx1 nx:Nat):List (Nat×Nat) :=
 match ids with
 |m::r=>(j,m)::names r (j+1) nx1 nx
 | []=>news (nx1-j) j nx
where
 news:Nat->Nat->Nat->List (Nat×Nat)
  |0,_,_=>[]
  |f+1,j,nx=>(j,nx)::news f (j+1) (nx+1)
def flip:List (Nat×Nat)->List (Nat×Nat)
 | []=>[]
 | (a,b)::r=>(b,a)::flip r
def yL(l r:List (Nat×Nat)):List (Nat×aL)->List (Nat×aL)
 | []=>[]
 | (j,o)::t=>((get? l j).getD 0,rnO l r o)::yL l r t
def Fa(ids:List Nat):List (Nat×aL)->List (Nat×aL)
 | []=>[]
 | (n,o)::t=>bif dU ids n then Fa ids t else (n,o)::Fa ids t
def zS:List (Nat×aL)->List (Nat×aL)->List (Nat×aL)
 | [],l=>l
 |x::r,l=>x::zS r l
def named(l:List (Nat×Nat)):Nat->Bool
 |0=>true
 |n+1=>match get? l n with
  |some _=>named l n
  |none=>false
def zH(l:List (Nat×Nat)):List Nat->Nat->Bool
 | [],_=>true
 |m::r,j=>match get? l j with
  |some x=>bif Nat.beq x m then zH l r (j+1)else false
  |none=>false
def wG(l:List (Nat×Nat))(nx0 nx:Nat):Bool :=
 match l with
 | []=>true
 | (j,n)::r=>bif Nat.blt j nx0 then wG r nx0 nx else bif Nat.ble nx n then wG r nx0 nx else false
def Ix(hp:List (Nat×aL))(nx:Nat)(ids:List Nat)(h0:List (Nat×aL))(nx0 nx1:Nat):Bool :=
 let l:=names ids 0 nx1 nx;let nx':=nx+(nx1-nx0)
 bif Nat.beq ids.length nx0 then bif iG nx0 (numb ids 0)then bif tX hp h0 (numb ids 0)then bif iG nx' l then
  bif named l nx1 then bif zH l ids 0 then bif wG l nx0 nx then bif Nat.ble nx nx' then true
  else false else false else false else false else false else false else false else false
def zB(tab:List (Nat×fV))(st:St)(f:Nat)(args:SV)(k:SV->St->Prop):Prop :=
 match get? tab f with
 |some (.m S)=>∃x ids,
   bif Ix st.hp st.nx ids (S.h0 x) S.nx0 S.nx1 then
    S.pre x/\sub ⟨numb ids 0,match S.fresh with|true=>false|false=>true,true,false⟩ st.hp 200 args (S.args x) /\
    rN ⟨numb ids 0,match S.fresh with|true=>false|false=>true,true,false⟩ S.nx0 (numb ids 0) st.hp (S.h0 x) /\
    ∀y,S.post x y->Ag (names ids 0 S.nx1 st.nx) λnm=>Ag (flip nm) λfl=>k (rnS nm (S.res x y))
     ⟨st.fr,zS (yL nm fl (S.h1 x y)) (Fa ids st.hp),st.nx+(S.nx1-S.nx0)⟩
   else False
 |_=>False
theorem Cp{l:List (Nat×Nat)}:∀{n:Nat},named l n=true->∀j,j<n->∃m,get? l j=some m:=by
 intro n;induction n with
 |zero=>omega
 |succ n ih =>
  intro e j h;simp only[named]at e;split at e
  .rename_i x hx;by_cases hj:j=n
   .simp [*]
   .exact ih e j (by omega)
  .cases e
theorem Hc:∀{ids:List Nat} {j m k:Nat},(m,k)∈numb ids j->∃i,k=j+i/\ids[i]?=some m:=by
 intro ids;induction ids with
 |nil=>intro j m k h; cases h
 |cons a r ih =>
  intro j m k h;rcases aR.1 h with e|e
  .simp_all
  .obtain ⟨i,rfl,hi⟩:=ih e
   grind
theorem Xy:∀{ids:List Nat} {j i m:Nat},ids[i]?=some m->(m,j+i)∈numb ids j:=by
 intro ids;induction ids with
 |nil=>simp
 |cons a r ih =>
  intro j i m h;cases i with
  |zero=>grind[numb]
  |succ i =>
   have:=ih (j:=j+1) (i:=i) (m:=m) (by simpa using h);rw[Nat.add_assoc,Nat.add_comm 1 i]at this;exact aW _ this
theorem sO{l:List (Nat×Nat)}:∀{ids:List Nat} {j i m:Nat},zH l ids j=true->ids[i]?=some m->get? l (j+i)=some m:=by
 intro ids;induction ids with
 |nil=>simp
 |cons a r ih =>
  intro j i m e h;simp only[zH]at e;split at e
  .rename_i x hx;cases hb:Nat.beq x a with
   |false=>grind
   |true =>
    simp only[hb,cond_true]at e
    grind[nbeq]
  .cases e
theorem sP{nx0 nx:Nat}:∀{l:List (Nat×Nat)},wG l nx0 nx=true->∀j n,(j,n)∈l->nx0<=j->nx<=n:=by
 intro l;induction l with
 |nil=>simp
 |cons p r ih =>
  obtain⟨a,b⟩:=p;intro e j n hm hj;simp only[wG]at e;cases h1:Nat.blt a nx0 with
  |true =>
   simp only[h1,cond_true]at e;rcases aR.1 hm with e2|e2
   .cases e2; have:=kO h1; omega
   grind
  |false =>
   cases h2:Nat.ble nx b with
   |false=>grind
   |true =>
    simp only[h1,h2,cond_false,cond_true]at e
    grind[Nat.le_of_ble_eq_true]
theorem get?_app(a b:List (Nat×aL))(n:Nat):get? (zS a b) n=match get? a n with|some o=>some o|none=>get? b n:=by
 induction a with
 |nil=>rfl
 |cons p r ih =>
  grind[zS,get?_cons]
theorem get?_rm(ids:List Nat)(hp:List (Nat×aL))(n:Nat):get? (Fa ids hp) n=if dU ids n=true then none else get? hp n:=by
 induction hp with
 |nil=>simp[Fa,get?]
 |cons p r ih =>
  obtain⟨k,v⟩:=p;simp only[Fa];cases h:dU ids k with
  |true =>
   simp only[cond_true,ih,get?_cons]
   grind
  |false =>
   simp only[cond_false,ih,get?_cons]
   grind
theorem get?_map{l r:List (Nat×Nat)}{nx:Nat}(hk:iG nx l=true):∀{h1:List (Nat×aL)},(∀j o,(j,o)∈h1->∃m,(j,m)∈l)->∀n,get? (yL l r h1) n=(back l n).bind λj=>(get? h1 j).map (rnO l r):=by
 obtain⟨f1,f2,f3⟩:=oG hk;intro h1;induction h1 with
 |nil=>simp_all[yL,get?]
 |cons p t ih =>
  obtain⟨j,o⟩:=p;intro hn n;obtain⟨m,hm⟩:=hn j o (aZ ..);have hgm:get? l j=some m:=get?_of_mem hk hm;simp only[yL,hgm,dR,get?_cons];by_cases e:m=n
  .subst e;simp[kL hk hm]
  .rw [if_neg e,ih (λj' o' h'=>hn j' o' (aW _ h')) n];cases hb:back l n with
   |none=>rfl
   |some j' =>
    have:j≠j':=by
     rintro rfl;exact e (f1 _ _ _ hm (back_mem hb))
    simp[this]
theorem Xd{hp:List (Nat×aL)}{j:Nat}{o:aL}(h:(j,o)∈hp):∃o',get? hp j=some o':=by
 induction hp with
 |nil=>cases h
 |cons p t ih =>
  obtain⟨k,v⟩:=p;rw[get?_cons];by_cases e:k=j
  .simp [*]
  grind
def cid(n j:Nat):Nat:=if n<FB then j else fid j (n/FB-1)
section
variable {P:Program} {C:Ctx}
set_option maxHeartbeats 1000000 in
theorem Bo{tab:List (Nat×fV)}(ht:aO P tab)(hgc:uG C){μ:Nat->Option (Nat×Nat)}{st:St}{w:World}(h:bD C μ st.hp st.nx w){f:Nat}{args:SV}{vs:List Value}(hr:R (aG C μ st.hp w) args vs)
  {K:SV->St->Prop} (he:zB tab st f args K) :
  (callFunc f vs.toArray).run P w=.ok (.enter f vs.toArray) w/\Calls P f vs.toArray w fun
   |.returned v,w'=>∃s st' μ',K s st'/\st'.fr=st.fr/\(aG C μ st.hp w).Le (aG C μ' st'.hp w')/\bD C μ' st'.hp st'.nx w'/\R (aG C μ' st'.hp w') s [v]
   |_,_=>False:=by
 unfold zB at he;split at he
 .rename_i S hS;have hok:S.Ok P f:=ht f (.m S) hS;obtain⟨x,ids,he⟩:=he
  .cases hck:Ix st.hp st.nx ids (S.h0 x) S.nx0 S.nx1 with
   |false=>grind
   |true =>
    simp only[hck,cond_true,Oj]at he;obtain⟨hpre,hsub,hsh,hK⟩:=he;refine⟨hok.call _ _,?_⟩;generalize hl:names ids 0 S.nx1 st.nx=l at hK;unfold Ix at hck;rw[hl]at hck;simp only at hck;have fact:∀{a b:Bool},(bif a then b else false)=true->a=true/\b=true:=by simp
    obtain⟨ck1,hck⟩:=fact hck;obtain⟨ck2,hck⟩:=fact hck;obtain⟨ck3,hck⟩:=fact hck;obtain⟨ck4,hck⟩:=fact hck;obtain⟨ck5,hck⟩:=fact hck;obtain⟨ck6,hck⟩:=fact hck;obtain⟨ck7,hck⟩:=fact hck;obtain⟨ck8,_⟩:=fact hck;have clen:ids.length=S.nx0:=nbeq ck1;have cnx:st.nx<=st.nx+(S.nx1-S.nx0):=aQ ck8;generalize hprs:numb ids 0=prs at hsub hsh ck2 ck3;generalize st.nx+(S.nx1-S.nx0)=nx' at *
    obtain⟨p1,p2,p3⟩:=oG ck2;obtain⟨l1,l2,l3⟩:=oG ck4;obtain⟨μ0,k1,k2,k3,k4,k5,k6,k7,k8,_⟩:=Fj 0 h ck2 ck3 hsh (by grind) (aS _)
    -- the callee's side
    obtain⟨T,hT⟩:∃T:Nat->Prop,T=λb=>∃n o c,hget (S.h0 x) n=some o/\μ0 n=some (b,c):=⟨_,rfl⟩;have tmine:∀b,T b->∃n m o c,Pair prs n m/\hget st.hp m=some o/\μ m=some (b,c):=by
     grind
    obtain⟨U,hU⟩:∃U:Nat->Prop,U=match S.fresh with|true=>(λb=>(b<w.heap.size/\Plain w b)/\¬T b)|false=>(aG C μ st.hp w).U:=⟨_,rfl⟩
    have tplain:∀b,T b->(∀r,w.heap[b]?≠some (.loop r))/\Plain w b:=by
     intro b hb;rw[hT]at hb;obtain⟨n,o,c,g1,g2⟩:=hb;obtain⟨m,o',q1,q2,q3,q4⟩:=k1 n o g1;have hnh:∀l p,o'≠.hid l p:=by
      rintro l p rfl;cases o<;>simp[kC]at q4
     obtain⟨b',c',z,e1,e2,e3⟩:=h.obj.obj m o' q2;have e1':μ m=some (b',c'):=e1;rw[<- q3,g2]at e1';cases e1';have e2':w.heap[b]?=some z:=e2;have hpl:=rU hnh e3;exact⟨λr e=>by rw[e2']at e; cases e; exact hpl.1 r rfl,λy e=>by rw[e2']at e; cases e; exact gW.2 hpl⟩
    have hUlt:∀b,U b->b<w.heap.size/\Plain w b:=by
     intro b hb;rw[hU]at hb;cases hfr:S.fresh with
     |true=>grind
     |false=>rw[hfr]at hb; exact⟨hb.1,hb.2.2.2⟩
    have hUof:∀b,(aG C μ st.hp w).U b->U b:=by
     intro b hb;rw[hU];cases hfr:S.fresh with
     |true =>
      refine⟨⟨hb.1,hb.2.2.2⟩,λht=>?_⟩;obtain⟨n,m,o,c,_,q2,q3⟩:=tmine b ht;exact hb.2.2.1 _ _ _ q2 q3
     |false=>exact hb
    let C0:Ctx:=dE w T U μ0 S.nx0;have hF:(aG C μ st.hp w).Freed ⟨prs,match S.fresh with|true=>false|false=>true,true,false⟩ st.hp (aG C0 μ0 (S.h0 x) w):=by
     refine⟨λ_=>⟨?_,λ_ _=>rfl⟩,k2,k3,rfl,?_⟩
     .intro b hb;refine⟨hb.1,.inl (hUof b hb),?_,hb.2.2.2⟩;intro i o' c' hg hm;obtain⟨m,o,_,q2,q3,_⟩:=k1 i o' hg;rw[q3]at hm;exact hb.2.2.1 m o c' q2 hm
     .intro id o b c hn hg hm hkp;have hm':μ id=some (b,c):=hm;have hfr:S.fresh=true:=by
       grind[kept]
      have hkp':kept (.keep prs) (fbase id)=false:=by grind[kept,Keep.keep]
      have hnt:¬T b:=by
       intro ht;obtain⟨n,m,o',c',q1,q2,q3⟩:=tmine b ht;have:=h.inj _ _ _ _ _ _ _ hg q2 hm' q3
       grind
      refine⟨h.lt hg hm',.inl (show U b by rw[hU,hfr]; exact⟨⟨h.lt hg hm',h.obj.plain hg hm' hn⟩,hnt⟩),?_,h.obj.plain hg hm' hn⟩
      grind
    have hsb:∀s t vs,sub ⟨prs,match S.fresh with|true=>false|false=>true,true,false⟩ st.hp 200 s t->R (aG C μ st.hp w) s vs->R (aG C0 μ0 (S.h0 x) w) t vs:=λs t vs=>lF hF h.obj 200 s t vs;have hh0:bD C0 μ0 (S.h0 x) S.nx0 w:=by
     refine⟨⟨(by grind),?_⟩,?_,?_,(by grind),k4,k5,λ_ _ e=>e,Frm.refl _ _,sub_pos h ck2 k1⟩
     .intro i o' hg;obtain⟨m,o,_,q2,q3,hso⟩:=k1 i o' hg;obtain⟨b,cp,z,e1,e2,e3⟩:=h.obj.obj m o q2;exact⟨b,cp,z,q3.trans e1,e2,xX hF.le hsb (by grind) hso e3⟩
     .intro i i' o1 o2 b c1 c2 g1 g2 m1 m2;obtain⟨d1,y1,q1,ho1,e1,_⟩:=k1 i o1 g1;obtain⟨d2,y2,q2,ho2,e2,_⟩:=k1 i' o2 g2;rw[e1]at m1;rw[e2]at m2;have:=h.inj _ _ _ _ _ _ _ ho1 ho2 m1 m2
      grind
     .intro i o b c hg hm;exact .inl (by show T b; grind)
    have hgT:uG C0:=by
     refine⟨hgc.at h.frm,λb hb ht=>?_⟩;obtain⟨n,m,o,c,_,q2,q3⟩:=tmine b ht;rcases h.mine _ _ _ _ q2 q3 with h1|h1
     .exact hgc.gT b hb h1
     .have:=hgc.gok.lt hb;omega
    refine Calls.mono (hok.does x w μ0 vs T U hUlt hgT hh0 hpre (hsb _ _ _ hsub hr)) ?_;intro e w' hret;cases e with
    |panicked c=>exact hret
    |outgrown=>exact hret
    |returned v =>
     obtain⟨y,μ1,hpost,hh1,hR1,hkd⟩:=hret;let C1:Ctx:=dE w T (Ufresh S.fresh U) μ0 S.nx0;have hfrm:Frm T w w':=hh1.frm
     -- the caller's new names
     have nm:∀j o,(j,o)∈S.h1 x y->∃m,(j,m)∈l:=by
      intro j o hm;obtain⟨o',ho'⟩:=Xd hm;obtain⟨m,hg⟩:=Cp ck5 j (hh1.keys _ _ ho');exact⟨m,get?_mem hg⟩
     -- numbers of the callee's that were the caller's
     have old:∀j m,(j,m)∈l->j<S.nx0->(m,j)∈prs:=by
      intro j m hm hj;obtain⟨m',hm'⟩:∃m',ids[j]?=some m':=⟨ids[j],by simp⟩;have:=sO (j:=0) ck6 hm';rw[aP]at this;have e:m=m':=l1 _ _ _ hm (get?_mem this);subst e;rw[<- hprs];have:=Xy (j:=0) hm'
      grind
     have old':∀j m,(m,j)∈prs->(j,m)∈l/\j<S.nx0:=by
      intro j m hm;rw[<- hprs]at hm;obtain⟨i,rfl,hi⟩:=Hc hm;have:=sO (j:=0) ck6 hi
      grind[get?_mem]
     obtain⟨hp',hhp'⟩:∃hp',hp'=zS (yL l (flip l) (S.h1 x y)) (Fa ids st.hp):=⟨_,rfl⟩;have key:∀n,get? hp' n=match back l n with
       |some j=>(get? (S.h1 x y) j).map (rnO l (flip l))
       |none=>get? st.hp n:=by
      intro n;rw[hhp',get?_app,get?_map ck4 nm,get?_rm];cases hb:back l n with
      |none =>
       have:dU ids n≠true:=by
        intro hm;obtain⟨i,hi⟩:=jE (gA.1 hm);have:=sO (j:=0) ck6 hi;have:=kL ck4 (get?_mem this)
        grind
       simp[this]
      |some j =>
       cases hg:get? (S.h1 x y) j with
       |some o=>simp[hg]
       |none =>
        simp only[Option.bind_some,hg,eF];by_cases hj:j<S.nx0
        .have hm:=old j n (back_mem hb) hj
         grind[Hc,gA]
        .have:=sP ck7 _ _ (back_mem hb) (by omega);have:get? st.hp n=none:=by
          cases e:get? st.hp n with
          |none=>rfl
          |some o=>have:=h.keys _ _ e; omega
         simp[this]
     have hkey:∀n,hget hp' n=match back l (fbase n) with
       |some j=>(hget (S.h1 x y) (cid n j)).map (rnO l (flip l))
       |none=>hget st.hp n:=by
      intro n;by_cases hn:n<FB
      .rw [fF hn,key n];simp only[fbase,hn,if_true,cid];cases hb:back l n with
       |none=>simp[*,fF]
       |some j =>
        have hj:=(l3 _ _ (back_mem hb)).2.2;simp only[fF hj];cases get? (S.h1 x y) j with
        |none=>rfl
        |some o=>simp[Uy]
      .simp only [fbase,hn,if_false,cid];simp only[hget,hn,if_false];rw[key (n%FB)];cases hb:back l (n%FB) with
       |none=>rfl
       |some j =>
        have hj:=(l3 _ _ (back_mem hb)).2.2;have h3:¬fid j (n/FB-1)<FB:=bJ.2 (cQ _ _);simp only[h3,if_false,gF _ hj,fE _ hj];cases get? (S.h1 x y) j with
        |none=>rfl
        |some o=>cases o<;>first
         |rfl
         | (simp[rnO,Pr])
     obtain⟨μ2,hμ2⟩:∃μ2:Nat->Option (Nat×Nat),μ2=λn=>match back l (fbase n) with|some j=>μ1 (cid n j)|none=>μ n:=⟨_,rfl⟩
     have base_fid:∀{d i:Nat},d<FB->fbase (fid d i)=d:=by
      intro d i hd;have:¬fid d i<FB:=bJ.2 (cQ _ _);simp[*,fbase,gF]
     have base_low:∀{d:Nat},d<FB->fbase d=d:=by grind[fbase]
     have keep:∀id p,μ id=some p->μ2 id=some p:=by
      intro id p e;rw[hμ2];simp only;cases hb:back l (fbase id) with
      |none=>exact e
      |some j =>
       have hm:=back_mem hb;by_cases hn:id<FB
       .simp only [cid,hn,if_true];rw[base_low hn]at hm;by_cases hj:j<S.nx0
        .have:=get?_of_mem ck2 (old _ _ hm hj);exact hh1.pin _ _ (k2 _ _ _ this e)
        .have:=sP ck7 _ _ hm (by omega);have:=h.nx _ _ e hn;omega
       .simp only [cid,hn,if_false];simp only[fbase,hn,if_false]at hm;by_cases hj:j<S.nx0
        .have hg:=get?_of_mem ck2 (old _ _ hm hj);have he:=nI (bJ.1 hn);exact hh1.pin _ _ (k3 _ _ (id/FB-1) p hg (by rw[he]; exact e))
        .have h3:=sP ck7 _ _ hm (by omega);obtain⟨o,ho⟩:=h.fam _ _ e (bJ.1 hn);simp only[hget,hn,if_false]at ho;split at ho
         .rename_i f' hf';have:=h.keys _ _ hf';omega
         .cases ho
     -- what the callee could change is the caller's,and under the callee's names
     have tin:∀n b c,back l (fbase n)=none->(∃o,hget st.hp n=some o)->μ n=some (b,c)->¬T b:=by
      rintro n b c hb ⟨o,ho⟩ hm ht;obtain⟨n',m,o',c',q1,q2,q3⟩:=tmine b ht;have:=h.inj _ _ _ _ _ _ _ ho q2 hm q3;subst this;rcases q1 with⟨a1,a2,a3⟩|⟨d,cc,i,rfl,rfl,a3⟩
      .grind [kL]
      grind[kL]
     have split:∀n o b c,hget hp' n=some o->μ2 n=some (b,c) ->
       (∃j o1,back l (fbase n)=some j/\hget (S.h1 x y) (cid n j)=some o1/\o=rnO l (flip l) o1/\μ1 (cid n j)=some (b,c))\/(back l (fbase n)=none/\hget st.hp n=some o/\μ n=some (b,c)):=by
      intro n o b c hg hm;rw[hkey]at hg;rw[hμ2]at hm;simp only at hm;cases hb:back l (fbase n) with
      |none=>grind
      |some j =>
       rw[hb]at hg hm;simp only[aF]at hg
       grind
     have m1:∀n o b c,hget (S.h1 x y) n=some o->μ1 n=some (b,c)->T b\/w.heap.size<=b:=λn o b c g e=>hh1.mine n o b c g e;have hE:(aG C μ st.hp w).Le (aG C μ2 hp' w'):=by
      have same:∀b,(aG C μ st.hp w).U b->w'.heap[b]?=w.heap[b]?:=by
       intro b hb;refine hfrm.block b hb.1 ?_;intro ht;obtain⟨n',m,o',c',q1,q2,q3⟩:=tmine b ht;exact hb.2.2.1 _ _ _ q2 q3
      refine⟨⟨⟨?_,same⟩,keep⟩,hkd,λ_ _ _ e=>e⟩
      .intro b hb;refine⟨bM hb.1 hfrm.size,hb.2.1,?_,λds e=>hb.2.2.2 ds ((same b hb).symm.trans e)⟩;intro n o c hg hm;rcases split n o b c hg hm with⟨j,o1,_,g1,_,g3⟩|⟨_,g1,g2⟩
       .rcases m1 _ _ _ _ g1 g3 with h1|h1
        .obtain ⟨n',m,o',c',q1,q2,q3⟩:=tmine b h1;exact hb.2.2.1 _ _ _ q2 q3
        grind
       .exact hb.2.2.1 _ _ _ g1 g2
     have hRn:RnE l (aG C1 μ1 (S.h1 x y) w') (aG C μ2 hp' w'):=by
      have nameOf:∀j,j<S.nx1->∃m,get? l j=some m/\(j,m)∈l:=(by grind[Cp,get?_mem]);refine⟨?_,?_,?_,rfl,λ_ _ _ e=>e.elim⟩
      .intro j p hj e;obtain⟨m,hg,hm⟩:=nameOf j (hh1.nx _ _ e hj);have hml:=(l3 _ _ hm).2.1;show μ2 _=_;rw[hg,hμ2];simp only[dR,base_low hml,kL ck4 hm,cid,hml,if_true];exact e
      .intro d i p hd e;obtain⟨o,ho⟩:=hh1.fam _ _ e (cQ _ _);have h2:¬fid d i<FB:=bJ.2 (cQ _ _);have hd1:d<S.nx1:=by
        simp only[hget,h2,if_false,gF i hd,fE i hd]at ho;split at ho
        .rename_i f' hf'; exact hh1.keys _ _ hf'
        .cases ho
       obtain⟨m,hg,hm⟩:=nameOf d hd1;have hml:=(l3 _ _ hm).2.1;have h3:¬fid m i<FB:=bJ.2 (cQ _ _);show μ2 _=_;rw[hg,hμ2];simp only[dR,base_fid hml,kL ck4 hm,cid,h3,if_false,fE i hml];exact e
      .rintro b ⟨hb1,hb2,hb3,hb4⟩;refine⟨hb1,?_,?_,hb4⟩
       .rcases hb2 with hh|hh|hh
        .obtain ⟨hfr,hu⟩:=hh;rw[hU,hfr]at hu;exact hu.2.1
        .obtain ⟨n',m,o',c',q1,q2,q3⟩:=tmine b hh;rcases h.mine _ _ _ _ q2 q3 with h1|h1
         .exact .inr (.inl h1)
         .exact .inr (.inr h1)
        .exact .inr (.inr (aV h.frm.size hh))
       .intro n o c hg hm;rcases split n o b c hg hm with⟨j,o1,_,g1,_,g3⟩|⟨g0,g1,g2⟩
        .grind
        .rcases hb2 with hh|hh|hh
         .obtain ⟨hfr,hu⟩:=hh;rw[hU,hfr]at hu;exact hu.2.2.1 _ _ _ g1 g2
         .exact tin n b c g0 ⟨_,g1⟩ g2 hh
         .have:=h.lt g1 g2;have hh':w.heap.size<=b:=hh;omega
     refine⟨_,_,μ2,hK y hpost,rfl,?_,?_,?_⟩
     .grind
     .show bD C μ2 (zS (yL l (flip l) (S.h1 x y)) (Fa ids st.hp)) nx' w';rw[<- hhp'];refine⟨⟨?_,?_⟩,?_,?_,?_,?_,?_,?_,?_,?_⟩
      .intro id o hg;rw[key]at hg;cases hb:back l id with
       |none=>rw[hb]at hg; exact h.obj.keys _ _ hg
       |some j=>exact(l3 _ _ (back_mem hb)).2.1
      .intro n o hg;have hg':=hg;rw[hkey]at hg;cases hb:back l (fbase n) with
       |none =>
        rw[hb]at hg;obtain⟨b,c,z,e1,e2,e3⟩:=h.obj.obj n o hg;have e1':μ n=some (b,c):=e1;refine⟨b,c,z,keep _ _ e1',?_,e3.mono hE⟩;exact(hfrm.block b (h.lt hg e1') (by grind)).trans e2
       |some j =>
        rw[hb]at hg;simp only[aF]at hg;obtain⟨o1,g1,rfl⟩:=hg;obtain⟨b,c,z,e1,e2,e3⟩:=hh1.obj.obj _ o1 g1;refine⟨b,c,z,?_,e2,aDu hRn e3⟩;show μ2 n=_;rw[hμ2];simp only[hb];exact e1
      .intro n n' o1 o2 b c1 c2 g1 g2 e1 e2;rcases split n o1 b c1 g1 e1 with⟨j,x1,a0,a1,a2,a3⟩|⟨a0,a1,a2⟩<;>rcases split n' o2 b c2 g2 e2 with⟨j',x2,b0,b1,b2,b3⟩|⟨b0,b1,b2⟩
       .have heq:=hh1.inj _ _ _ _ _ _ _ a1 b1 a3 b3;have hj:=(l3 _ _ (back_mem a0)).2.2;have hj':=(l3 _ _ (back_mem b0)).2.2;by_cases hn:n<FB
        .by_cases hn':n' < FB
         .simp only [cid,hn,hn',if_true]at heq;subst heq;rw[base_low hn]at a0;rw[base_low hn']at b0;exact l1 _ _ _ (back_mem a0) (back_mem b0)
         .simp only [cid,hn,hn',if_true,if_false]at heq
          grind[cQ]
        .by_cases hn':n' < FB
         .simp only [cid,hn,hn',if_true,if_false]at heq
          grind[cQ]
         .simp only [cid,hn,hn',if_false]at heq;obtain⟨rfl,hi⟩:=Lr hj hj' heq;have hbe:=l1 _ _ _ (back_mem a0) (back_mem b0);simp only[fbase,hn,hn',if_false]at hbe;rw[<- nI (bJ.1 hn),<- nI (bJ.1 hn'),hbe,hi]
       .exfalso;rcases m1 _ _ _ _ a1 a3 with hh|hh
        .grind
        .have:=h.lt b1 b2; omega
       .exfalso;rcases m1 _ _ _ _ b1 b3 with hh|hh
        .grind
        .have:=h.lt a1 a2; omega
       .exact h.inj _ _ _ _ _ _ _ a1 b1 a2 b2
      .intro n o b c g e;rcases split n o b c g e with⟨j,x1,a0,a1,a2,a3⟩|⟨a0,a1,a2⟩
       .rcases m1 _ _ _ _ a1 a3 with hh|hh
        .obtain ⟨n',m,o',c',q1,q2,q3⟩:=tmine b hh;exact h.mine _ _ _ _ q2 q3
        .exact .inr (aV h.frm.size hh)
       .exact h.mine _ _ _ _ a1 a2
      .intro id o hg;rw[key]at hg;cases hb:back l id with
       |none=>rw[hb]at hg; have:=h.keys _ _ hg; omega
       |some j=>exact(l3 _ _ (back_mem hb)).1
      .intro id p e hlt;rw[hμ2]at e;simp only[base_low hlt]at e;cases hb:back l id with
       |none=>rw[hb]at e; have:=h.nx _ _ e hlt; omega
       |some j=>exact(l3 _ _ (back_mem hb)).1
      .intro id p e hge;rw[hμ2]at e;simp only at e;rw[hkey];cases hb:back l (fbase id) with
       |none=>rw[hb]at e; exact h.fam _ _ e hge
       |some j =>
        rw[hb]at e;have hn:¬id<FB:=bJ.2 hge;simp only[cid,hn,if_false]at e ⊢;obtain⟨o,ho⟩:=hh1.fam _ _ e (cQ _ _);simp[*]
      .exact λid p e=>keep _ _ (h.pin id p e)
      .refine h.frm.trans' hfrm ?_;intro i hi;obtain⟨n',m,o',c',q1,q2,q3⟩:=tmine i hi;rcases h.mine _ _ _ _ q2 q3 with h1|h1
       .grind
       omega
      .intro n p q e hge g;obtain⟨pb,pc⟩:=p;rcases split n _ pb pc g e with⟨j,o1,a0,a1,a2,a3⟩|⟨a0,a1,a2⟩
       .have hn:¬n<FB:=bJ.2 hge;have hj:=(l3 _ _ (back_mem a0)).2.2;have ho1:o1=.obj q:=by
         cases o1<;>simp only[rnO]at a2<;>cases a2;rfl
        subst ho1;simp only[cid,hn,if_false]at a1 a3;have:=hh1.pos _ _ _ a3 (cQ _ _) a1
        grind[fE]
       .exact h.pos _ _ _ a2 hge a1
     .show R (aG C μ2 (zS (yL l (flip l) (S.h1 x y)) (Fa ids st.hp)) w') _ _
      grind[Qf]
 grind
end
end Go.Eng
end
