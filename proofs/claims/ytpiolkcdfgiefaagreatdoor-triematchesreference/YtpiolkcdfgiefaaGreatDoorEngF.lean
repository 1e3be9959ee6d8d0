/- A part of the proof. -/
import Derived.Test.YtpiolkcdfgiefaaGreatDoorEngC
section
namespace Go.Eng
open Go Go.RowKit
def dU:List Nat->Nat->Bool
 | [],_=>false
 |k::r,n=>bif Nat.beq k n then true else dU r n
theorem gA{l:List Nat}{n:Nat}:dU l n=true↔n∈l:=by
 induction l with
 |nil=>simp[dU]
 |cons k r ih =>
  simp only[dU];by_cases h:k=n
  .simp [*]
  simp_all[Ne.symm]
structure Keep where
 names:List (Nat×Nat)
 hold:Bool
 loose:Bool
 recs:Bool
def Keep.free:Keep:=⟨[],false,true,false⟩
def Keep.strict:Keep:=⟨[],false,false,false⟩
def Keep.hold':Keep:=⟨[],true,true,false⟩
def Keep.keep(l:List (Nat×Nat)):Keep:=⟨l,false,true,true⟩
def kept(k:Keep)(n:Nat):Bool:=match k.hold with
 |true=>true
 |false=>(get? k.names n).isSome
def ren(k:Keep)(n:Nat):Option Nat:=get? k.names n
def loose(k:Keep):Bool:=k.loose
def lH(k:Keep)(id id':Nat):Prop :=
 match ren k id with
 |some x=>x=id'
 |none=>False
def Ak:SV->Bool
 |.int ..|.bool ..|.str ..|.own ..|.osl ..|.lsl ..|.oel ..|.mref ..|.fown ..|.fmref ..|.flsl ..|.foel ..|.csl ..|.nilsl|.slice ..|.slit ..|.cptr ..|.fn ..|.yield ..=>true
 |.val v=>v.oneCell'
 |_=>false
def Imp(s t:SV):Prop:=∀(E E':Env) (vs:List Value),E.LeU E'->R E s vs->R E' t vs
def lM(keep:Keep)(f:SV->SV->Prop)(s t:SV):Prop:=f s t\/(loose keep=true/\Imp s t)
theorem lM.sound{E E':Env}{keep:Keep}{f:SV->SV->Prop}(hle:loose keep=true->E.LeU E')(hf:∀s t vs,f s t->R E s vs->R E' t vs):∀s t vs,lM keep f s t->R E s vs->R E' t vs:=by
 rintro s t vs (h|⟨h1,h2⟩) hr
 .grind
 .exact h2 _ _ _ (hle h1) hr
def Ym(f:SV->SV->Prop):SV->(Nat->SV)->Nat->Prop
 |.cons h t,enc',i=>f h (enc' i)/\Ym f t enc' (i+1)
 |_,_,_=>True
def sub(keep:Keep)(hp:List (Nat×aL)):Nat->SV->SV->Prop
 |0,_,_=>False
 |n+1,s,t =>
  match t with
  |.junk=>match s with
   |.nil=>False
   |.cons _ _=>False
   |.ints _ _ _ _=>False
   |_=>True
  |.val v'=>match s with
   |.val v=>v=v'
   |.nilsl=>Value.slice none 0 0=v'
   |_=>False
  |.int k' m'=>match s with
   |.int k m=>k=k'/\m=m'
   |_=>False
  |.bool b'=>match s with
   |.bool b=>b=b'
   |_=>False
  |.str s'=>match s with
   |.str x=>x=s'
   |_=>False
  |.own id' o'=>match s with
   |.own id o=>lH keep id id'/\o=o'
   |_=>False
  |.osl id' sz' lo' n'=>match s with
   |.osl id sz lo k=>lH keep id id'/\sz=sz'/\lo=lo'/\k=n'
   |.lsl id sz k=>lH keep id id'/\sz=sz'/\0=lo'/\k=n'
   |_=>False
  |.lsl id' sz' n'=>match s with
   |.lsl id sz k=>lH keep id id'/\sz=sz'/\k=n'
   |.nilsl=>n'=0
   |.slit _ els=>els=.nil/\n'=0
   |_=>False
  |.oel id' sz' i' o'=>match s with
   |.oel id sz i o=>lH keep id id'/\sz=sz'/\i=i'/\o=o'
   |_=>False
  |.mref id'=>match s with
   |.mref id=>lH keep id id'
   |_=>False
  |.fown h' i' o'=>match s with
   |.fown h i o=>lH keep h h'/\i=i'/\o=o'
   |_=>False
  |.fmref h' i'=>match s with
   |.fmref h i=>lH keep h h'/\i=i'
   |_=>False
  |.flsl h' i' sz' n'=>match s with
   |.flsl h i sz k=>lH keep h h'/\i=i'/\sz=sz'/\k=n'
   |.nilsl=>n'=0
   |.slit _ els=>els=.nil/\n'=0
   |_=>False
  |.csl id' n'=>match s with
   |.csl id n=>lH keep id id'/\n=n'
   |_=>False
  |.foel h' i' sz' k' o'=>match s with
   |.foel h i sz k o=>lH keep h h'/\i=i'/\sz=sz'/\k=k'/\o=o'
   |_=>False
  |.nilsl=>match s with
   |.nilsl=>True
   |_=>False
  |.slice sz' n' enc'=>match pB s with
   |.slice sz k enc=>loose keep=true/\sz=sz'/\k=n'/\∀i,i<k->lM keep (sub keep hp n) (enc i) (enc' i)
   |.slit sz els=>loose keep=true/\sz=sz'/\els.len=n'/\Ym (sub keep hp n) els enc' 0
   |.nilsl=>n'=0
   |.osl id sz lo k=>match get? hp id with
    |some (.arr _ sz'' len enc)=>bif kept keep id then False else sz=sz'/\sz''=sz/\k=n'/\lo+k<=len/\∀i,i<k->lM keep (sub keep hp n) (enc (lo+i)) (enc' i)
    |_=>False
   |.flsl d j sz k=>match get? hp d with
    |some (.fam f)=>bif kept keep d then False else sz=sz'/\k=n'/\(0<k->∃T len enc,f j=.arr T sz len enc/\k<=len/\∀i,i<k->lM keep (sub keep hp n) (enc i) (enc' i))
    |_=>False
   |_=>False
  |.slit sz' els'=>match s with
   |.slit sz els=>sz=sz'/\els=.nil/\els'=.nil
   |_=>False
  |.cptr cells'=>match s with
   |.cptr cells=>loose keep=true/\sub keep hp n cells cells'
   |.own id off=>match get? hp id with
    |some (.cells _ l)=>bif kept keep id then False else
     match qL cells'.len (iA off l) with
     |some l'=>sub keep hp n l' cells'
     |none=>False
    |_=>False
   |.oel id sz i off=>match get? hp id with
    |some (.arr _ sz'' len enc)=>bif kept keep id then False else
     match qL cells'.len (iA off (enc i)) with
     |some l'=>sz''=sz/\i<len/\sub keep hp n l' cells'
     |none=>False
    |_=>False
   |_=>False
  |.nil=>match s with
   |.nil=>True
   |_=>False
  |.cons h' t'=>match s with
   |.cons h t=>sub keep hp n h h'/\sub keep hp n t t'
   |_=>False
  |.ints k' m' f' t'=>match s with
   |.ints k m f t=>k=k'/\m=m'/\(∀i,i<m->f i=f' i)/\sub keep hp n t t'
   |_=>False
  |.agg l'=>match s with
   |.agg l=>sub keep hp n l l'
   |_=>False
  |.tup l'=>match s with
   |.tup l=>sub keep hp n l l'
   |_=>False
  |.fn f' l'=>match s with
   |.fn f l=>f=f'/\sub keep hp n l l'
   |_=>False
  |.yield id'=>match s with
   |.yield id=>lH keep id id'
   |_=>False
  |.gd _ _ _=>False
def fbase(n:Nat):Nat:=if n<FB then n else n%FB
structure Env.Freed(keep:Keep)(hp:List (Nat×aL))(E E':Env):Prop where
 le:loose keep=true->E.LeU E'
 μ:∀id id' p,ren keep id=some id'->E.μ id=some p->E'.μ id'=some p
 fam:∀h h' i p,ren keep h=some h'->E.μ (fid h i)=some p->E'.μ (fid h' i)=some p
 w:E'.w=E.w
 free:∀id o b c,(∀l p,o≠.hid l p)->hget hp id=some o->E.μ id=some (b,c)->kept keep (fbase id)=false->E'.U b
theorem aAd{E E':Env}{keep:Keep}{hp:List (Nat×aL)}(hF:E.Freed keep hp E'){f:SV->SV->Prop}
  (hlo:loose keep=true) (hf:∀s t vs,f s t->R E s vs->R E' t vs) {a:Option Addr} {sz:Nat} {enc':Nat->SV} :
  ∀{els:SV} {i:Nat},Ym f els enc' i->RE E els a sz i->∀k,k<els.len->pM E' a sz (i+k) (R E' (enc' (i+k))):=by
 intro els;induction els with
 |cons h t _ iht =>
  intro i hs hr k hk;simp only[Ym]at hs;simp only[RE]at hr;cases k with
  |zero=>exact hr.1.mono (hF.le hlo) (by grind)
  |succ k =>
   grind[SV.len]
 |ints=>grind[RE]
 |_=>intro i _ _ k hk; simp[SV.len]at hk
theorem Holds.row{w:World}{b:Nat}{cs:List Value}{T:TypeId}{fr:Nat×Nat}(h:w.heap[b]?=some (.cells cs.toArray T fr))(off:Nat):Holds w b off (cs.drop off):=by
 intro j v hj;rw[cell_of_row w b (off+j) cs.toArray T fr h]
 grind
theorem Holds.take{w:World}{b off:Nat}{cs:List Value}(h:Holds w b off cs)(n:Nat):Holds w b off (cs.take n):=by
 intro j v hj;refine h j v ?_
 grind
theorem Holds.drop{w:World}{b off:Nat}{cs:List Value}(h:Holds w b off cs)(n:Nat):Holds w b (off+n) (cs.drop n):=by
 intro j v hj;rw[cY]at hj;have:=h (n+j) v hj
 grind
theorem HpR.cells{E:Env}{hp:List (Nat×aL)}(hH:HpR E hp){id b c:Nat}{T:TypeId}{l:SV}(hg:get? hp id=some (.cells T l))(hm:E.μ id=some (b,c)) :
  ∃cs,E.w.heap[b]?=some (.cells cs.toArray T (0,0))/\R E l cs:=by
 obtain⟨b',c',x,h1,h2,cs,h3,h4⟩:=hH.obj id _ (jL (hH.keys _ _ hg) hg rfl)
 grind
theorem HpR.arr{E:Env}{hp:List (Nat×aL)}(hH:HpR E hp){id b c:Nat}{T:TypeId}{sz len:Nat}{enc:Nat->SV}(hg:get? hp id=some (.arr T sz len enc))(h0:0<len)(hm:E.μ id=some (b,c)) :
  ∃cs:List Value,E.w.heap[b]?=some (.cells cs.toArray T (0,0))/\cs.length=c*sz/\(len<=c/\c<=9223372036854775807) /\
   ∀i,i<len->∃xs,R E (enc i) xs/\xs.length=sz/\∀j v,xs[j]?=some v->cs[i*sz+j]?=some v:=by
 obtain⟨b',c',x,h1,h2,cs,h3,h4⟩:=hH.obj id _ (jL (hH.keys _ _ hg) hg (cL h0))
 grind
theorem jT{k:Keep}{id id':Nat}(h:lH k id id'):ren k id=some id':=by
 grind[lH]
theorem Env.Freed.Rz{E E':Env}{keep:Keep}{hp:List (Nat×aL)}(hF:E.Freed keep hp E')(hH:HpR E hp){id b c:Nat}{o:aL}(hg:get? hp id=some o)(hs:solid? o=some o)(hm:E.μ id=some (b,c))(hk:kept keep id=false)(hn:∀l p,o≠.hid l p:=by intro _ _ e; cases e):E'.U b:=by
 have hlt:=hH.keys _ _ hg;refine hF.free id o b c hn (jL hlt hg hs) hm ?_;simp_all[fbase]
set_option maxHeartbeats 2000000 in
theorem lF{E E':Env}{keep:Keep}{hp:List (Nat×aL)}(hF:E.Freed keep hp E')(hH:HpR E hp) :
  ∀(n:Nat) (s t:SV) (vs:List Value),sub keep hp n s t->R E s vs->R E' t vs:=by
 intro n;induction n with
 |zero=>grind[sub]
 |succ n ih =>
  intro s t vs h hr;cases t with
  |junk =>
   cases s with
   |nil=>simp[sub]at h
   |cons x y=>simp[sub]at h
   |ints=>simp[sub]at h
   |_=>exact Ft hr (by simp) (by simp)
  |val v' =>
   cases s with
   |val v=>grind[sub,R]
   |nilsl=>grind[sub,R]
   |_=>simp[sub]at h
  |int k m =>
   cases s with
   |int k' m'=>simp only[sub]at h; obtain⟨rfl,rfl⟩:=h; grind[R]
   |_=>simp[sub]at h
  |bool b =>
   cases s with
   |bool b'=>grind[sub,R]
   |_=>simp[sub]at h
  |str x =>
   cases s with
   |str x'=>grind[sub,R]
   |_=>simp[sub]at h
  |own id o =>
   cases s with
   |own id' o' =>
    simp only[sub]at h;obtain⟨hn,rfl⟩:=h;simp only[R]at hr ⊢;obtain⟨b,c,m1,hv⟩:=hr;exact⟨b,c,hF.μ _ _ _ (jT hn) m1,hv⟩
   |_=>simp[sub]at h
  |osl id sz lo k =>
   cases s with
   |osl =>
    simp only[sub]at h;obtain⟨hn,rfl,rfl,rfl⟩:=h;simp only[R]at hr ⊢;rcases hr with hr|⟨h0,b,c,m1,hv⟩
    .grind
    .exact .inr ⟨h0,b,c,hF.μ _ _ _ (jT hn) m1,hv⟩
   |lsl =>
    have hr:=qN hr;simp only[sub]at h;obtain⟨hn,rfl,rfl,rfl⟩:=h;simp only[pB,R]at hr ⊢;rcases hr with hr|⟨h0,b,c,m1,hv⟩
    .grind
    .exact .inr ⟨h0,b,c,hF.μ _ _ _ (jT hn) m1,hv⟩
   |_=>simp[sub]at h
  |lsl id sz k =>
   cases s with
   |lsl =>
    simp only[sub]at h;obtain⟨hn,rfl,rfl⟩:=h;simp only[R]at hr ⊢;rcases hr with hr|⟨h0,b,c,m1,hv⟩
    .grind
    .exact .inr ⟨h0,b,c,hF.μ _ _ _ (jT hn) m1,hv⟩
   |nilsl =>
    grind[sub,R]
   |slit sz els =>
    simp only[sub]at h;obtain⟨rfl,h⟩:=h;simp only[R]at hr ⊢;obtain⟨a,hr,_⟩:=hr;exact .inl ⟨h,a,hr⟩
   |_=>simp[sub]at h
  |oel id sz i o =>
   cases s with
   |oel =>
    simp only[sub]at h;obtain⟨hn,rfl,rfl,rfl⟩:=h;simp only[R]at hr ⊢;obtain⟨b,c,m1,hv⟩:=hr;exact⟨b,c,hF.μ _ _ _ (jT hn) m1,hv⟩
   |_=>simp[sub]at h
  |mref id =>
   cases s with
   |mref =>
    simp only[sub]at h;simp only[R]at hr ⊢;obtain⟨b,c,m1,hv⟩:=hr;exact⟨b,c,hF.μ _ _ _ (jT h) m1,hv⟩
   |_=>simp[sub]at h
  |fown h' i' o =>
   cases s with
   |fown =>
    simp only[sub]at h;obtain⟨hn,rfl,rfl⟩:=h;simp only[R]at hr ⊢;obtain⟨b,c,m1,hv⟩:=hr;exact⟨b,c,hF.fam _ _ _ _ (jT hn) m1,hv⟩
   |_=>simp[sub]at h
  |fmref h' i' =>
   cases s with
   |fmref =>
    simp only[sub]at h;obtain⟨hn,rfl⟩:=h;simp only[R]at hr ⊢;obtain⟨b,c,m1,hv⟩:=hr;exact⟨b,c,hF.fam _ _ _ _ (jT hn) m1,hv⟩
   |_=>simp[sub]at h
  |flsl h' i' sz k =>
   cases s with
   |flsl =>
    simp only[sub]at h;obtain⟨hn,rfl,rfl,rfl⟩:=h;simp only[R]at hr ⊢;rcases hr with hr|⟨b,c,m1,hv⟩
    .grind
    .exact .inr ⟨b,c,hF.fam _ _ _ _ (jT hn) m1,hv⟩
   |nilsl =>
    grind[sub,R]
   |slit sz els =>
    simp only[sub]at h;obtain⟨rfl,h⟩:=h;simp only[R]at hr ⊢;obtain⟨a,hr,_⟩:=hr;exact .inl ⟨h,a,hr⟩
   |_=>simp[sub]at h
  |csl id k =>
   cases s with
   |csl =>
    simp only[sub]at h;obtain⟨h,rfl⟩:=h;simp only[R]at hr ⊢;obtain⟨b,c,m1,hv⟩:=hr;exact⟨b,c,hF.μ _ _ _ (jT h) m1,hv⟩
   |_=>simp[sub]at h
  |foel h' i' sz k o =>
   cases s with
   |foel =>
    simp only[sub]at h;obtain⟨hn,rfl,rfl,rfl,rfl⟩:=h;simp only[R]at hr ⊢;obtain⟨b,c,m1,hv⟩:=hr;exact⟨b,c,hF.fam _ _ _ _ (jT hn) m1,hv⟩
   |_=>simp[sub]at h
  |nilsl =>
   grind[R,sub]
  |slice sz' n' enc' =>
   replace hr:=qN hr;simp only[sub]at h;generalize pB s=s at h hr;cases s with
   |slice sz k enc =>
    simp only at h;obtain⟨hlo,rfl,rfl,h3⟩:=h;simp only[R]at hr ⊢;obtain⟨a,cap,e1,e2,e3⟩:=hr;exact⟨a,cap,e1,e2,λi hi=>(e3 i hi).mono (hF.le hlo) (λcs r=>lM.sound hF.le ih _ _ _ (h3 i hi) r)⟩
   |slit sz els =>
    simp only at h;obtain⟨hlo,rfl,rfl,h3⟩:=h;simp only[R]at hr ⊢;obtain⟨a,e1,e2⟩:=hr;refine⟨a,_,e1,aN _,λi hi=>?_⟩;have:=aAd hF hlo ih h3 e2 i hi
    grind
   |nilsl =>
    simp_all[R,Nat.not_lt_zero]
   |osl id sz lo k =>
    simp only at h;split at h
    .rename_i T sz'' len enc hg;cases hk:kept keep id with
     |true=>grind
     |false =>
      simp only[hk,cond_false]at h;obtain⟨rfl,rfl,rfl,h4,h5⟩:=h;simp only[R]at hr ⊢;rcases hr with⟨rfl,a,cap,hr⟩|⟨h0,b,c,m1,rfl,m2⟩
      .simp [*]
      obtain⟨cs,c1,c2,c3,c4⟩:=hH.arr hg (by omega) m1;refine⟨_,_,rfl,by omega,λi hi=>?_⟩;obtain⟨xs,x1,x2,x3⟩:=c4 (lo+i) (by omega);refine⟨b,_,xs,rfl,hF.Rz hH hg (cL (by omega)) m1 hk,lM.sound hF.le ih _ _ _ (h5 i hi) x1,x2,?_⟩;intro j v hj;rw[hF.w,cell_of_row E.w b _ cs.toArray T (0,0) c1]
      grind
    grind
   |flsl d0 i0 sz k =>
    simp only at h;split at h
    .rename_i f hg;cases hk:kept keep d0 with
     |true=>grind
     |false =>
      simp only[hk,cond_false]at h;obtain⟨rfl,rfl,h5⟩:=h;simp only[R]at hr ⊢;rcases hr with⟨rfl,a,hr⟩|⟨b,c,m1,rfl,m2⟩
      .simp [*]
      rcases kB k with rfl|h0
      .simp
      obtain⟨T,len,enc,hfi,hle,h6⟩:=h5 h0;have hlt:=hH.keys _ _ hg;have hgo:hget hp (fid d0 i0)=some (.arr T sz len enc):=by rw[iZ hlt hg,hfi]; exact cL (by omega)
      obtain⟨b',c',x,e1,e2,e3⟩:=hH.obj _ _ hgo;rw[m1]at e1;cases e1;obtain⟨cs,rfl,c2,c3,c4⟩:=e3;refine⟨_,_,rfl,m2,λi hi=>?_⟩;obtain⟨xs,x1,x2,x3⟩:=c4 i (by omega);refine⟨b,_,xs,rfl,hF.free _ _ b c (by grind) hgo m1 ?_,lM.sound hF.le ih _ _ _ (h6 i hi) x1,x2,?_⟩
      .simp_all [fbase,if_neg,Nat.not_lt,cQ,gF]
      intro j v hj;rw[hF.w,cell_of_row E.w b _ cs.toArray T (0,0) e2];simp[*]
    grind
   |_=>simp at h
  |slit sz' els' =>
   cases s with
   |slit sz els =>
    simp only[sub]at h;obtain⟨rfl,rfl,rfl⟩:=h
    grind[R,RE]
   |_=>simp[sub]at h
  |cptr cells' =>
   cases s with
   |cptr cells =>
    simp only[sub]at h;simp only[R]at hr ⊢;obtain⟨b,off,cs,e1,e2,e3,e4⟩:=hr;exact⟨b,off,cs,e1,(hF.le h.1).U b e2,ih _ _ _ h.2 e3,e4.mono ((hF.le h.1).heap b e2)⟩
   |own id off =>
    simp only[sub]at h;split at h
    .rename_i T l hg;cases hk:kept keep id with
     |true=>grind
     |false =>
      simp only[hk,cond_false]at h;split at h
      .rename_i l' hl;simp only[R]at hr ⊢;obtain⟨b,c,m1,rfl⟩:=hr;obtain⟨cs,c1,c2⟩:=hH.cells hg m1;obtain⟨t1,t2⟩:=oZ hl (hP (n:=off) c2);refine⟨b,off,_,rfl,hF.Rz hH hg rfl m1 hk,ih _ _ _ h t1,?_⟩;rw[hF.w];exact(Holds.row c1 off).take _
      grind
    grind
   |oel id sz i off =>
    simp only[sub]at h;split at h
    .rename_i T sz'' len enc hg;cases hk:kept keep id with
     |true=>grind
     |false =>
      simp only[hk,cond_false]at h;split at h
      .rename_i l' hl;obtain⟨rfl,hi,h⟩:=h;simp only[R]at hr ⊢;obtain⟨b,c,m1,rfl⟩:=hr;obtain⟨cs,c1,c2,c3,c4⟩:=hH.arr hg (by omega) m1;obtain⟨xs,x1,x2,x3⟩:=c4 i hi;obtain⟨t1,t2⟩:=oZ hl (hP (n:=off) x1);refine⟨b,_,_,rfl,hF.Rz hH hg (cL (by omega)) m1 hk,ih _ _ _ h t1,?_⟩;rw[hF.w];refine Holds.take ?_ _;intro j v hj;rw[cell_of_row E.w b _ cs.toArray T (0,0) c1]
       grind
      grind
    grind
   |_=>simp[sub]at h
  |nil =>
   grind[R,sub]
  |cons h' t' =>
   cases s with
   |cons x y =>
    grind[sub,R]
   |_=>simp[sub]at h
  |ints k' m' f' t' =>
   cases s with
   |ints k m f t =>
    simp only[sub]at h;obtain⟨rfl,rfl,h3,h4⟩:=h;simp only[R]at hr ⊢;obtain⟨xs,rfl,h2⟩:=hr
    grind[Gm]
   |_=>simp[sub]at h
  |agg l' =>
   cases s with
   |agg l =>
    grind[sub,R]
   |_=>simp[sub]at h
  |tup l' =>
   cases s with
   |tup l =>
    grind[sub,R]
   |_=>simp[sub]at h
  |fn f' l' =>
   cases s with
   |fn f l =>
    simp only[sub]at h;obtain⟨rfl,h⟩:=h
    grind[R]
   |_=>simp[sub]at h
  |yield l' =>
   cases s with
   |yield id =>
    simp only[sub]at h;simp only[R]at hr ⊢;obtain⟨b,c,e1,e2⟩:=hr;exact⟨b,c,hF.μ _ _ _ (jT h) e1,e2⟩
   |_=>simp[sub]at h
  |gd d w x=>simp[sub]at h
end Go.Eng
end
section
namespace Go.Eng
open Go Go.RowKit
structure Spec where
 X:Type
 args:X->SV
 pre:X->Prop
 res:X->SV
 inst:SV->Option X
 fresh:Bool:=true
def Kk(fresh:Bool)(U:Nat->Prop)(w w':World):Nat->Prop:=λb=>(fresh=false/\U b)\/(w.heap.size<=b/\b<w'.heap.size/\Plain w' b)
structure Spec.Ok(P:Program)(f:Nat)(S:Spec):Prop where
 call:∀args w,(callFunc f args).run P w=.ok (.enter f args) w
 does:∀(x:S.X) (w:World) (vs:List Value) (U:Nat->Prop),(∀b,U b->b<w.heap.size/\Plain w b)->GV w->S.pre x->R (iV U w) (S.args x) vs ->
  Calls P f vs.toArray w fun
   |.returned v,w'=>R (iV (Kk S.fresh U w w') w') (S.res x) [v]/\Below w.heap.size w w'
   |_,_=>False
structure bC where
 X:Type
 Y:Type
 args:X->SV
 pre:X->Prop
 h0:X->List (Nat×aL)
 nx0:Nat
 post:X->Y->Prop
 res:X->Y->SV
 h1:X->Y->List (Nat×aL)
 nx1:Nat
 fresh:Bool:=true
def upto:Nat->List Nat
 |0=>[]
 |n+1=>n::upto n
theorem wE{i:Nat}:∀{n:Nat},i∈upto n↔i<n:=by
 intro n;induction n with
 |zero=>simp[upto]
 |succ n ih=>grind[upto]
def dE(w:World)(T U:Nat->Prop)(μ:Nat->Option (Nat×Nat))(np:Nat):Ctx:=⟨0,w,T,U,μ,upto np,0,H0,0,λ_ _ _ h=>h.elim,λ_ _ _ h=>h.elim,λ_ _ _ h=>h.elim,iV (λ_=>False) w⟩
def Ufresh(fresh:Bool)(U:Nat->Prop):Nat->Prop:=λb=>fresh=false/\U b
structure bC.Ok(P:Program)(f:Nat)(S:bC):Prop where
 call:∀args w,(callFunc f args).run P w=.ok (.enter f args) w
 does:∀(x:S.X) (w:World) (μ:Nat->Option (Nat×Nat)) (vs:List Value) (T U:Nat->Prop),(∀b,U b->b<w.heap.size/\Plain w b)->uG (dE w T U μ S.nx0)->bD (dE w T U μ S.nx0) μ (S.h0 x) S.nx0 w->S.pre x ->
  R (aG (dE w T U μ S.nx0) μ (S.h0 x) w) (S.args x) vs->Calls P f vs.toArray w fun
   |.returned v,w'=>∃y μ',S.post x y/\bD (dE w T (Ufresh S.fresh U) μ S.nx0) μ' (S.h1 x y) S.nx1 w'/\R (aG (dE w T (Ufresh S.fresh U) μ S.nx0) μ' (S.h1 x y) w') (S.res x y) [v]/\Kd w w'
   |_,_=>False
def dom(st:Nat->Option Obj)(q:Nat):Prop:=∃o,st q=some o
def sS(st:Nat->Option Obj)(q:Nat):aL :=
 match st q with
 |some o=>.obj o
 |none=>.gone
def yHp(F:Nat->aL)(st:Nat->Option Obj):List (Nat×aL):=[(0,.fam F),(1,.fam (sS st)),(2,.hid 0 0)]
def yH(r0:Loop)(lb p:Nat)(o:Obj):Prop:=lb=0/\p=0/\o=.loop r0
def Bm(w:World)(T U:Nat->Prop)(μ:Nat->Option (Nat×Nat))(r0:Loop):Ctx :=
 ⟨0,w,T,U,μ,upto 3,0,yH r0,1,λ_ _ _ h=>by rw[h.1]; exact Nat.zero_lt_one,λ_ _ _ h=>⟨r0,h.2.2⟩,λ_ _ _ h h'=>by rw[h.2.2,h'.2.2],iV (λ_=>False) w⟩
def yAt(P:Program)(l:Nat)(vs:Array Value)(W:World)(Q:Ending->World->Prop):Prop :=
 ∃f tmps assign body,(Instr.yield l vs).run P W=.ok (.round l f tmps assign body) W/\RoundIn Fence.wide 0 P l f tmps assign body W Q
structure yZ(P:Program)(T:Nat->Prop)(w:World)(μ:Nat->Option (Nat×Nat))(l:Nat)(r0:Loop)(items:List SV)(st0:Nat->Option Obj)(J:Nat->(Nat->Prop)->World->Prop):Prop where
 start:J 0 (dom st0) w
 stb:∀i D W W',J i D W->(∀b,dom st0 b->D b)->Frm (λb=>T b\/D b) w W'->(∀b,D b->W'.heap[b]?=W.heap[b]?)->W'.heap[l]?=some (.loop r0)->J i D W'
 round:∀i D W item vs,items[i]?=some item->J i D W->(∀b,dom st0 b->D b)->(∀b,D b->b<W.heap.size/\Plain W b)->(∀b,D b->dom st0 b\/w.heap.size<=b) ->
  Frm (λb=>T b\/D b) w W->W.heap[l]?=some (.loop r0)->GV W->R (iV (λ_=>False) W) item vs->(∀q p,μ (fid 0 q)=some p->p.1<W.heap.size/\Plain W p.1) ->
  yAt P l vs.toArray W λe W'=>e=.returned (.bool true)/\∃D',J (i+1) D' W'/\(∀b,D b->D' b)/\(∀b,D' b->D b\/W.heap.size<=b)/\(∀b,D' b->b<W'.heap.size/\Plain W' b)/\Frm D W W'/\W'.heap[l]?=some (.loop r0)
structure rW where
 X:Type
 Y:Type
 args:X->SV
 pre:X->Prop
 F0:X->Nat->aL
 items:X->List SV
 post:X->Y->Prop
 F1:X->Y->Nat->aL
def qM(F:Nat->aL):Prop :=
 ∀(E E':Env),E.LeU E'->(∀q p,E.μ (fid 0 q)=some p->E'.μ (fid 0 q)=some p)->∀q o,dX? (F q)=some o->∀c x,HR E o c x->HR E' o c x
def cJ(g:Nat->Option Obj)(q:Nat):aL :=
 match g q with
 |some o=>.snap o
 |none=>.gone
def pR:List (Nat×aL)->List (Nat×aL)->Bool
 | [],_=>true
 | (n,.hid l p)::r,b=>match get? b n with
  |some (.hid l' p')=>Nat.beq l l' && Nat.beq p p' && pR r b
  |_=>false
 |_::r,b=>pR r b
def hid0s:List (Nat×aL)->Bool
 | []=>true
 | (_,.hid _ p)::r=>Nat.beq p 0 && hid0s r
 |_::r=>hid0s r
def Cs(k:Nat):List (Nat×aL)->Bool
 | []=>true
 | (n,_)::r=>match Nat.beq n k with
  |true=>false
  |false=>Cs k r
def Jk(hp:List (Nat×aL))(F:Nat->aL):Prop :=
 match get? hp 0 with
 |some (.fam f)=>f=F
 |_=>False
structure Nr where
 X:Type
 I:Nat->X->Prop
 hp:X->List (Nat×aL)
 nx:Nat
def Keep.y:Keep:=⟨[(0,0)],true,true,false⟩
structure rW.Ok(P:Program)(f:Nat)(S:rW):Prop where
 call:∀args w,(callFunc f args).run P w=.ok (.enter f args) w
 does:∀(x:S.X) (w:World) (μ:Nat->Option (Nat×Nat)) (vs:List Value) (T U:Nat->Prop) (r0:Loop) (l:Nat) (st0:Nat->Option Obj) (J:Nat->(Nat->Prop)->World->Prop),
  (∀b,U b->b<w.heap.size/\Plain w b)->uG (Bm w T U μ r0)->bD (Bm w T U μ r0) μ (yHp (S.F0 x) st0) 3 w->μ 2=some (l,0)->S.pre x ->
  R (aG (Bm w T U μ r0) μ (yHp (S.F0 x) st0) w) (S.args x) vs->yZ P T w μ l r0 (S.items x) st0 J ->
  Calls P f (.func (.yield l) #[] #[]::vs).toArray w fun
   |.returned _,w'=>∃y st μ',S.post x y/\J (S.items x).length (dom st) w'/\(∀b,dom st0 b->dom st b)/\bD (Bm w T U μ r0) μ' (yHp (S.F1 x y) st) 3 w'/\Kd w w'
   |_,_=>False
inductive fV where
 |p (S:Spec)
 |m (S:bC)
 |y (S:rW)
 |own
def fV.Ok(P:Program)(f:Nat):fV->Prop
 |.p S=>S.Ok P f
 |.m S=>S.Ok P f
 |.y S=>S.Ok P f
 |.own=>True
def OWN:Nat:=2097152
def aO(P:Program)(tab:List (Nat×fV)):Prop:=∀f S,get? tab f=some S->S.Ok P f
abbrev Handler:=Nat->List Nat->Nat->Nat->SV->List (Nat×aL)->Nat->(Bool->List (Nat×aL)->Nat->Prop)->Prop
structure Tb where
 fs:List (Nat×fV)
 ys:List (Nat×Handler)
 np:List Nat
 bnd:Nat
 dep:Nat
def Does(P:Program)(K:Value->World->Prop):Result Next->Prop
 |.ok (.value v) w=>K v w
 |.ok .skip w=>K undef w
 |.ok (.enter f args) w=>Calls P f args w fun
   |.returned v,w'=>K v w'
   |_,_=>False
 |.ok (.round l f tmps assign body) w=>RoundIn Fence.wide 0 P l f tmps assign body w fun
   |.returned v,w'=>K v w'
   |_,_=>False
 |_=>False
theorem Does.mono{P:Program}{K K':Value->World->Prop}{r:Result Next}(h:Does P K r)(hk:∀v w,K v w->K' v w):Does P K' r:=by
 unfold Does at *
 grind[Calls.mono,RoundIn.mono]
def WF:Option Nat->Fence
 |none=>Fence.wide
 |some l=>Fence.wide.inRound l
theorem yC(r:Option Nat)(f:FuncId):(WF r).fn f:=by cases r<;>trivial
theorem vG(r:Option Nat):(WF r).depth=none:=by cases r<;>rfl
theorem Fu(r:Option Nat):(WF r).round=r:=by cases r<;>rfl
theorem uM{r:Option Nat}{n:Nat}{P:Program}{f:FuncId}{args:Array Value}{w:World}{Q:Ending->World->Prop}:CallsIn (WF r) n P f args w Q↔Calls P f args w Q:=by
 cases r with
 |none=>exact callsIn_wide
 |some l=>exact callsIn_wide
theorem Km{r:Option Nat}{P:Program}{l:Nat}{f:FuncId}{tmps:Array Value}{assign body:Code}{w:World}{Q:Ending->World->Prop} :
  RoundIn (WF r) 0 P l f tmps assign body w Q↔RoundIn Fence.wide 0 P l f tmps assign body w Q:=by
 cases r<;>exact dF
theorem jQ{P:Program}{r:Option Nat}{o:Oper}{a:Act}{w:World}{K:Act->World->Prop}{Q:Exit->Act->World->Prop}(hd:∀c,o.op≠.defer c)
  (h:Does P (λv w'=>K (a.put o.dst v) w') ((execOp a.eval o).run P w)):o.wpIn (WF r) 0 P a w K Q:=by
 refine⟨λf _=>yC r f,?_⟩;rw[Oper.semAt_eq _ _ _ hd];generalize (execOp a.eval o).run P w=x at h;cases x with
 |ok n w' =>
  cases n<;>simp only[Does]at h<;>first
   |exact h
   |exact h.elim
   | (refine⟨(λhh=>by grind[vG]),uM.2 (Calls.mono h ?_)⟩
      grind)
   | (refine⟨(by grind[vG]),Km.2 (RoundIn.mono h ?_)⟩
      grind)
 |halt x w'=>grind[Does]
inductive SOp where
 |move (x:SX)
 |pick (c a b:SX)
 |load (n:Nat) (agg:Bool) (x:SX)
 |fldA (off:Nat) (x:SX)
 |idxArr (len sz:Nat) (x i:SX)
 |idxSl (sz:Nat) (x i:SX)
 |idxStr (x i:SX)
 |idxVal (len sz:Nat) (agg:Bool) (x i:SX)
 |field (off n:Nat) (agg:Bool) (x:SX)
 |nilCheck (x:SX)
 |lenStr (x:SX)
 |lenSl (x:SX)
 |bin (op:BinOp) (x y:SX)
 |ptrEq (neg:Bool) (x y:SX)
 |eqB (neg:Bool) (x y:SX)
 |not (x:SX)
 |neg (x:SX)
 |cnv (k:IntKind) (x:SX)
 |convS (x:SX)
 |runeS (x:SX)
 |cpyS (x y:SX)
 |mm (mx:Bool) (x y:SX)
 |mm3 (x y z:SX)
 |extract (i:Nat) (x:SX)
 |mkfn (f:Nat) (caps:List SX)
 |build (zero:CV) (parts:List (Nat×Nat×SX))
 |buildSl (T sz n:Nat) (zero:CV) (parts:List (Nat×Nat×SX))
 |sliceSl (sz:Nat) (x:SX) (lo hi:Option SX)
 |sliceStr (x:SX) (lo hi:Option SX)
 |call (f:SX) (args:List SX)
 |alloc (T:Nat) (zero:CV)
 |box (T:Nat) (x:SX)
 |store (n:Nat) (x v:SX)
 |mapEq (neg:Bool) (x y:SX)
 |eqS (neg:Bool) (offs:List (Nat×Nat)) (x y:SX)
 |app (T sz bytes:Nat) (x y:SX)
 |clr (sz:Nat) (x:SX)
 |arrSl (n sz lo:Nat) (x:SX)
 |arrCut (n:Nat) (x h:SX)
 |bad
 |slNil (neg:Bool) (x y:SX)
 |mkmap (kk:KK)
 |mlook (z:CV) (ok:Bool) (kk:KK) (m k:SX)
 |mupd (kk:KK) (m k v:SX)
 |ment (z:CV) (kk:KK) (m k:SX)
 |mesto (m t v:SX)
 |mdele (kk:KK) (m k:SX)
 |mlen (m:SX)
 |mrange (m:SX)
 |mnext (it:SX)
 |mentry (it:SX)
 deriving Repr
def Bn(P:Program):Nat->List Field->Option (List KPK)
 |_,[]=>some []
 | i, f :: r => match f.name != "_" && Nat.beq f.offset i with
  |true=>match P.underlying f.type with
   |some .string=>(Bn P (i+1) r).map (.s::·)
   |some (.int k)=>(Bn P (i+1) r).map (.n k::·)
   |_=>none
  |false=>none
def cKF(P:Program):Nat->List Field->Option (List KPK)
 |_,[]=>some []
 | i, f :: r => match f.name != "_" && Nat.beq f.offset i with
  |true=>match P.underlying f.type with
   |some .string=>(cKF P (i+1) r).map (.s::·)
   |some (.int k)=>(cKF P (i+1) r).map (.n k::·)
   |some (.struct fs)=>match Bn P 0 fs.toList,P.info? f.type,P.stoodInHeld f.type with
    |some ks,some inf,false=>match Nat.beq inf.size ks.length with
     |true=>(cKF P (i+ks.length) r).map (ks++·)
     |false=>none
    |_,_,_=>none
   |_=>none
  |false=>none
def qD(P:Program)(kt:TypeId):Option KK :=
 match P.underlying kt with
 |some .string=>some .s
 |some (.int k)=>some (.i k)
 |some (.array 2 e)=>match P.underlying e,P.info? e with
  |some (.int .i64),some i=>if i.size=1 then some .a else none
  |_,_=>none
 |some (.struct fs)=>match P.stoodInHeld kt with
  |false=>(cKF P 0 fs.toList).map .t
  |true=>none
 |_=>none
def zeroV(P:Program)(t:TypeId):Option CV:=do
 let i <- P.info? t
 match i.zero with
 |some v=>Wc v
 |none=>none
def mM(i:TypeInfo):Option CV :=
 match i.zero with
 |some (.agg cs)=>(cvL cs.toList).map (cvT cs.size)
 |some v=>do let c <- cv1 v; some (.cons c .nil)
 |none=>none
def CV.len:CV->Nat
 |.cons _ t=>t.len+1
 |.zeros _ n t=>n+t.len
 |_=>0
def uL(P:Program)(place:Nat->Option (Nat×Nat)):List (Nat×Operand)->Option (List (Nat×Nat×SX))
 | []=>some []
 | (i,x)::r=>do
  let (off,size) <- place i;let x <- cX x;let t <- uL P place r
  some ((off,size,x)::t)
def rP:Option Operand->Option (Option SX)
 |none=>some none
 |some x=>(cX x).map some
def Dl(P:Program)(rec:Nat->Nat->List Field->Option (List (Nat×Nat)))(base sz:Nat)(f:Field):Option (List (Nat×Nat)) :=
 match f.name != "_" && Nat.blt f.offset sz with
 |true=>match P.underlying f.type with
  |some .bool=>some [(base+f.offset,0)]
  |some (.int _)=>some [(base+f.offset,1)]
  |some .string=>some [(base+f.offset,2)]
  |some (.struct fs)=>match P.stoodInHeld f.type,P.info? f.type with
   |false,some i=>match Nat.ble (f.offset+i.size) sz with
    |true=>rec (base+f.offset) i.size fs.toList
    |false=>none
   |_,_=>none
  |_=>none
 |false=>none
def vN(g:Field->Option (List (Nat×Nat))):List Field->Option (List (Nat×Nat))
 | []=>some []
 |f::r=>match g f,vN g r with
  |some a,some b=>some (a++b)
  |_,_=>none
def nU(P:Program):Nat->Nat->Nat->List Field->Option (List (Nat×Nat))
 |0,_,_,_=>none
 |n+1,base,sz,fs=>vN (Dl P (nU P n) base sz) fs
def lO(P:Program)(b:Builtin)(args:List Operand)(ts:List TypeId):Option SOp :=
 match b with
 |.len =>
  match args,ts with
  | [x],[t] =>
   match P.underlying t with
   |some .string=>(cX x).map .lenStr
   |some (.slice _)=>(cX x).map .lenSl
   |some (.map _ _)=>(cX x).map .mlen
   |_=>none
  |_,_=>none
 |.delete =>
  match args,ts with
  | [m,k],t::_ =>
   match P.underlying t with
   |some (.map kt _)=>do some (.mdele (<- qD P kt) (<- cX m) (<- cX k))
   |_=>none
  |_,_=>none
 |.min =>
  match args with
  | [x,y]=>do some (.mm false (<- cX x) (<- cX y))
  | [x,y,z]=>do some (.mm3 (<- cX x) (<- cX y) (<- cX z))
  |_=>none
 |.max =>
  match args with
  | [x,y]=>do some (.mm true (<- cX x) (<- cX y))
  |_=>none
 |.append =>
  match args,ts with
  | [x,y],[t,t'] =>
   match t == t' with
   |true=>match P.underlying t with
    |some (.slice e)=>match P.info? e with
     |some i=>match mM i with
      |some z=>match Nat.beq z.len i.size && Nat.blt 0 i.size with
       |true=>do some (.app e i.size i.bytes (<- cX x) (<- cX y))
       |false=>none
      |none=>none
     |none=>none
    |_=>none
   |false=>none
  |_,_=>none
 |.copy =>
  match args,ts with
  | [x,y],[t,t'] =>
   match P.underlying t,P.underlying t' with
   |some (.slice e),some .string=>match P.info? e with
    |some i=>match Nat.beq i.size 1 with
     |true=>do some (.cpyS (<- cX x) (<- cX y))
     |false=>none
    |none=>none
   |_,_=>none
  |_,_=>none
 |.clear =>
  match args,ts with
  | [x],[t] =>
   match P.underlying t with
   |some (.slice e)=>match P.info? e with
    |some i=>match mM i with
     |some z=>match Nat.beq z.len i.size && Nat.blt 0 i.size with
      |true=>(cX x).map (.clr i.size)
      |false=>none
     |none=>none
    |none=>none
   |_=>none
  |_,_=>none
 |_=>none
def loN:Option Operand->Option Nat
 |none=>some 0
 |some (.const (.int _ (.ofNat m)))=>some m
 |_=>none
def cOp(P:Program)(op:Op):Option SOp :=
 match op with
 |.move x|.assign x=>(cX x).map .move
 |.pick c a b=>do some (.pick (<- cX c) (<- cX a) (<- cX b))
 |.load t x=>do
  let i <- P.info? t;let d <- P.underlying t
  if mN d || i.size == 1 then some (.load i.size (mN d) (<- cX x))else none
 |.fieldAddr s x f =>
  match P.underlying s with
  |some (.struct fs)=>do
   let fd <- fs[f]?;let i <- P.info? fd.type
   if i.size≠0 then some (.fldA fd.offset (<- cX x))else none
  |_=>none
 |.indexAddr t x ix =>
  match P.underlying t with
  |some (.array n e)=>do
   let i <- P.info? e
   if 1<n then some (.idxArr n i.size (<- cX x) (<- cX ix))else none
  |some (.slice e)=>do
   let i <- P.info? e
   some (.idxSl i.size (<- cX x) (<- cX ix))
  |_=>none
 |.index t x ix =>
  match P.underlying t with
  |some .string=>do some (.idxStr (<- cX x) (<- cX ix))
  |some (.array n e)=>do
   let i <- P.info? e;let d <- P.underlying e
   if mN d || i.size == 1 then some (.idxVal n i.size (mN d) (<- cX x) (<- cX ix))else none
  |_=>none
 |.field t x f =>
  match P.underlying t with
  |some (.struct fs)=>do
   let fd <- fs[f]?;let i <- P.info? fd.type;let d <- P.underlying fd.type
   if mN d || i.size == 1 then some (.field fd.offset i.size (mN d) (<- cX x))else none
  |_=>none
 |.nilCheck x=>(cX x).map .nilCheck
 |.binOp op t x y _ =>
  match P.underlying t with
  |some (.int _)|some .string=>do some (.bin op (<- cX x) (<- cX y))
  |some .bool =>
   match op with
   |.eql=>do some (.eqB false (<- cX x) (<- cX y))
   |.neq=>do some (.eqB true (<- cX x) (<- cX y))
   |_=>none
  |some (.pointer _) =>
   match op with
   |.eql=>do some (.ptrEq false (<- cX x) (<- cX y))
   |.neq=>do some (.ptrEq true (<- cX x) (<- cX y))
   |_=>none
  |some (.map _ _) =>
   match op with
   |.eql=>do some (.mapEq false (<- cX x) (<- cX y))
   |.neq=>do some (.mapEq true (<- cX x) (<- cX y))
   |_=>none
  |some (.slice _) =>
   match op with
   |.eql=>do some (.slNil false (<- cX x) (<- cX y))
   |.neq=>do some (.slNil true (<- cX x) (<- cX y))
   |_=>none
  |some (.struct fs) =>
   match P.stoodInHeld t,nU P 4 0 1000000 fs.toList with
   |false,some offs=>match op with
    |.eql=>do some (.eqS false offs (<- cX x) (<- cX y))
    |.neq=>do some (.eqS true offs (<- cX x) (<- cX y))
    |_=>none
   |_,_=>none
  |_=>none
 |.unOp .not _ x=>(cX x).map .not
 |.unOp .neg _ x=>(cX x).map .neg
 |.convert s d x =>
  match P.underlying s,P.underlying d with
  |some (.int _),some (.int k)=>(cX x).map (.cnv k)
  |some .string,some .string=>(cX x).map .convS
  |some (.int _),some .string=>(cX x).map .runeS
  |_,_=>none
 |.extract x i=>(cX x).map (.extract i)
 |.makeFunc (.func f) first caps=>match Nat.blt f FM with
  |true=>if first.size=0 then (cXs caps.toList).map (.mkfn f)else if caps.size=0 then (cXs first.toList).map (.mkfn (f+FM))else none
  |false=>none
 |.build t parts=>do
  let i <- P.info? t;let z <- mM i
  match P.underlying t with
  |some (.struct fs)=>do
   let places <- fs.toList.mapM λf=>(P.info? f.type).map λi=>(f.offset,i.size);let ps <- uL P (places.toArray[·]?) parts.toList
   some (.build z ps)
  |some (.array _ e)=>do
   let j <- P.info? e;let ps <- uL P (λk=>some (k*j.size,j.size)) parts.toList
   some (.build z ps)
  |_=>none
 |.buildSlice t n parts =>
  match P.underlying t with
  |some (.slice e)=>do
   let j <- P.info? e;let z <- mM j;let ps <- uL P (λk=>some (k*j.size,j.size)) parts.toList
   if n*j.size<=1000/\j.size≠0/\z.len=j.size then some (.buildSl e j.size n z ps)else none
  |_=>none
 |.slice t x lo hi none =>
  match P.underlying t with
  |some (.slice e)=>do
   let j <- P.info? e
   some (.sliceSl j.size (<- cX x) (<- rP lo) (<- rP hi))
  |some .string=>do some (.sliceStr (<- cX x) (<- rP lo) (<- rP hi))
  |some (.array n e)=>match P.info? e,hi,loN lo with
   |some j,none,some l=>(cX x).map (.arrSl n j.size l)
   |some j,some h,some 0=>match Nat.beq j.size 1 && Nat.blt 0 n with
    |true=>do some (.arrCut n (<- cX x) (<- cX h))
    |false=>none
   |_,_,_=>none
  |_=>none
 |.call ⟨.value f,args,_⟩=>do some (.call (<- cX f) (<- cXs args.toList))
 |.call ⟨.builtin b,args,ts⟩=>lO P b args.toList ts.toList
 |.alloc t=>do
  let i <- P.info? t;let z <- mM i
  some (.alloc t z)
 |.box t x=>(cX x).map (.box t)
 |.store t x v=>do
  let i <- P.info? t
  some (.store i.size (<- cX x) (<- cX v))
 |.makeMap t none =>
  match P.underlying t with
  |some (.map kt _)=>(qD P kt).map .mkmap
  |_=>none
 |.lookup t m k ok =>
  match P.underlying t with
  |some (.map kt et)=>do some (.mlook (<- zeroV P et) ok (<- qD P kt) (<- cX m) (<- cX k))
  |_=>none
 |.mapUpdate t m k v =>
  match P.underlying t with
  |some (.map kt _)=>do some (.mupd (<- qD P kt) (<- cX m) (<- cX k) (<- cX v))
  |_=>none
 |.insert t m k v =>
  match P.underlying t with
  |some (.map kt _)=>do some (.mupd (<- qD P kt) (<- cX m) (<- cX k) (<- cX v))
  |_=>none
 |.mapEntry t m k =>
  match P.underlying t with
  |some (.map kt et)=>do some (.ment (<- zeroV P et) (<- qD P kt) (<- cX m) (<- cX k))
  |_=>none
 |.entryStore _ m t v=>do some (.mesto (<- cX m) (<- cX t) (<- cX v))
 |.range t m =>
  match P.underlying t with
  |some (.map _ _)=>(cX m).map .mrange
  |_=>none
 |.next it false=>(cX it).map .mnext
 |.entry it=>(cX it).map .mentry
 |.panic _=>some .bad
 |.makeInterface ..=>some .bad
 |_=>none
end Go.Eng
end
section
namespace Go.Eng
open Go Go.RowKit
inductive PR where
 |fail
 |ok (v:SV)
 |side (p:Prop) (v:SV)
def PR.of:Option SV->PR
 |some v=>.ok v
 |none=>.fail
def rd(n:Nat)(agg:Bool)(l:SV):Option SV :=
 match agg with
 |true=>match qL n l with
  |some r=>some (.agg r)
  |none=>none
 |false=>cA l
def mO:SV->Nat->SV
 |.cons h _,0=>h
 |.cons _ t,n+1=>mO t n
 |_,_=>.junk
def Ht:SV->Nat->Nat->IntKind->Int->Option (Nat×SV)
 |.cons h t,n,i,k,x=>match n with
  |0=>none
  |n+1=>match Ht t n i k x with
   |some (q,t')=>some (q,.cons h t')
   |none=>none
 |.ints k' m f t,n,i,k,x=>bif Nat.blt n m then bif kEq k' k then some (m-n,.ints k' m (λj=>bif Nat.beq j (i+n)then x else f j) t)else none
  else match Ht t (n-m) i k x with
   |some (q,t')=>some (q,.ints k' m f t')
   |none=>none
 |_,_,_,_,_=>none
def zZ(hp:List (Nat×aL))(n:Nat)(agg:Bool):SV->PR
 |.own id off=>match get? hp id with
  |some (.cells _ l)=>PR.of (rd n agg (iA off l))
  |_=>.fail
 |.oel id sz i off=>match get? hp id with
  |some (.arr _ sz' len enc)=>bif Nat.beq sz sz' then
    match rd n agg (iA off (enc i)) with
    |some v=>.side (i<len) v
    |none=>.fail
   else .fail
  |some (.cells _ l)=>bif Nat.beq sz 1 && !agg then match iA off l with
    |.ints k m f _=>.side (i<m) (.int k (f i))
    |_=>.fail
   else .fail
  |_=>.fail
 |.cptr cells=>PR.of (rd n agg cells)
 |_=>.fail
def Xo:SX->Option Nat
 |.c (.int _ (.ofNat m))=>some m
 |_=>none
def Su:SV->Nat
 |.cons _ t=>Su t+1
 |_=>0
def I5(len sz:Nat)(agg:Bool)(c:Option Nat)(x i:SV):PR :=
 match x with
 |.agg l=>match c with
  |some m=>bif Nat.blt m len then PR.of (rd sz agg (iA (m*sz) l))else .fail
  |none=>match i with
   |.int _ m=>bif Nat.beq sz 1 && !agg then match l with
     |.ints k q f _=>.side (0<=m/\m<len/\m<q) (.int k (f m.toNat))
     |l=>.side (0<=m/\m<len/\m.toNat<Su l) (mO l m.toNat)
    else match m with
     |.ofNat m'=>bif Nat.blt m' len then PR.of (rd sz agg (iA (m' * sz) l))else .fail
     |_=>.fail
   |_=>.fail
 |_=>.fail
def asSlice:SV->Option (Nat×Nat×(Nat->SV))
 |.slice sz n enc=>some (sz,n,enc)
 |.slit sz els=>some (sz,els.len,mO els)
 |_=>none
def Rp(sz:Nat)(x i:SV):PR :=
 match i with
 |.int _ m=>match pB x with
  |.osl id sz' lo n=>bif Nat.beq sz sz' then .side (0<=m/\m<n) (.oel id sz (lo+m.toNat) 0)else .fail
  |.flsl d j sz' n=>bif Nat.beq sz sz' then .side (0<=m/\m<n) (.foel d j sz m.toNat 0)else .fail
  |x=>match asSlice x with
   |some (sz',n,enc)=>bif Nat.beq sz sz' then .side (0<=m/\m<n) (.cptr (enc m.toNat))else .fail
   |none=>.fail
 |_=>.fail
def shI(op:BinOp)(k:IntKind)(a b:Int):Int :=
 match op with
 |.shl=>k.wrap (a*2^(min b.toNat k.bits))
 |_=>a.fdiv (2^(min b.toNat k.bits))
def gI(op:BinOp)(k:IntKind)(a b:Int):Int :=
 match op with
 |.and=>k.wrap (BitVec.ofInt k.bits a &&& BitVec.ofInt k.bits b).toNat
 |.or=>k.wrap (BitVec.ofInt k.bits a ||| BitVec.ofInt k.bits b).toNat
 |.xor=>k.wrap (BitVec.ofInt k.bits a ^^^ BitVec.ofInt k.bits b).toNat
 |_=>k.wrap (BitVec.ofInt k.bits a &&& ~~~BitVec.ofInt k.bits b).toNat
def Sd:IntKind->Bool
 |.u64=>true
 |_=>false
def Y9(op:BinOp)(k:IntKind)(a b:Int):PR :=
 match op with
 |.add=>match Sd k with
  |true=>.ok (.int k (k.wrap (a+b)))
  |false=>.side (InR k (a+b)) (.int k (a+b))
 |.sub=>match Sd k with
  |true=>.ok (.int k (k.wrap (a-b)))
  |false=>.side (InR k (a-b)) (.int k (a-b))
 |.mul=>match Sd k with
  |true=>.ok (.int k (k.wrap (a*b)))
  |false=>.side (InR k (a*b)) (.int k (a*b))
 |.quo=>.side (b≠0/\InR k (a.tdiv b)) (.int k (a.tdiv b))
 |.rem=>.side (b≠0) (.int k (a.tmod b))
 |.eql=>.ok (.bool (decide (a=b)))
 |.neq=>.ok (.bool (!decide (a=b)))
 |.lss=>.ok (.bool (decide (a<b)))
 |.leq=>.ok (.bool (decide (a<=b)))
 |.gtr=>.ok (.bool (decide (b<a)))
 |.geq=>.ok (.bool (decide (b<=a)))
 |.and=>.ok (.int k (gI .and k a b))
 |.or=>.ok (.int k (gI .or k a b))
 |.xor=>.ok (.int k (gI .xor k a b))
 |.andNot=>.ok (.int k (gI .andNot k a b))
 |_=>.fail
def Lq(op:BinOp)(k:IntKind)(a b:Int):PR :=
 match op with
 |.shl=>.side (0<=b) (.int k (shI .shl k a b))
 |.shr=>.side (0<=b) (.int k (shI .shr k a b))
 |_=>.fail
def Mf:BinOp->Bool
 |.shl=>true
 |.shr=>true
 |_=>false
def Ro(op:BinOp):SV->SV->PR
 |.int k a,.int k' b=>bif Mf op then Lq op k a b else bif kEq k k' then Y9 op k a b else .fail
 |.str a,.str b =>
   match op with
   |.add=>.side (a.length+b.length<=9223372036854775807) (.str (a++b))
   |.eql=>.ok (.bool (decide (a=b)))
   |.neq=>.ok (.bool (!decide (a=b)))
   |.lss=>.ok (.bool (Op.bytesLess a b))
   |.leq=>.ok (.bool (Op.bytesLess a b || decide (a=b)))
   |.gtr=>.ok (.bool (!(Op.bytesLess a b || decide (a=b))))
   |.geq=>.ok (.bool (!Op.bytesLess a b))
   |_=>.fail
 |_,_=>.fail
def WRP:Nat:=2097153
def Ic(tab:List (Nat×fV))(op:BinOp):Bool :=
 match get? tab WRP with
 |some .own=>match op with
  |.add=>true
  |.sub=>true
  |.mul=>true
  |_=>false
 |_=>false
def wrI(op:BinOp)(k:IntKind)(a b:Int):Int :=
 match op with
 |.add=>k.wrap (a+b)
 |.sub=>k.wrap (a-b)
 |_=>k.wrap (a*b)
def I7(op:BinOp):SV->SV->PR
 |.int k a,.int k' b=>bif kEq k k' then .ok (.int k (wrI op k a b))else .fail
 |_,_=>.fail
def Dx(neg:Bool):SV->SV->PR
 |.val (.pointer none),.val (.pointer none)=>.ok (.bool (!neg))
 |.own _ _,.val (.pointer none)=>.ok (.bool neg)
 |.fown _ _ _,.val (.pointer none)=>.ok (.bool neg)
 |.cptr _,.val (.pointer none)=>.ok (.bool neg)
 |.oel _ _ _ _,.val (.pointer none)=>.ok (.bool neg)
 |.val (.pointer (some _)),.val (.pointer none)=>.ok (.bool neg)
 |_,_=>.fail
def xD:List (Nat×Nat)->SV->SV->Option Bool
 | [],_,_=>some true
 | (off,k)::r,a,b=>match cA (iA off a),cA (iA off b) with
  |some (.int q m),some (.int q' n)=>bif Nat.beq k 1 then bif kEq q q' then match xD r a b with
     |some z=>some (decide (m=n) && z)
     |none=>none
    else none else none
  |some (.bool p),some (.bool p')=>bif Nat.beq k 0 then match xD r a b with
    |some z=>some ((p == p') && z)
    |none=>none
   else none
  |some (.str s),some (.str s')=>bif Nat.beq k 2 then match xD r a b with
    |some z=>some (decide (s=s') && z)
    |none=>none
   else none
  |_,_=>none
def Du(neg:Bool):SV->SV->PR
 |.val (.map none),.val (.map none)=>.ok (.bool (!neg))
 |.mref _,.val (.map none)=>.ok (.bool neg)
 |.fmref _ _,.val (.map none)=>.ok (.bool neg)
 |_,_=>.fail
def pG(g:Option (Nat×Bool))(fr:List (Nat×SV))(c:SX)(want:Bool):SX->SV
 |.c v=>v.sv
 |.s n=>match look fr n with
  |.gd d w v=>bif wB g d w then v else
   match c with
   |.s d'=>bif wB (some (d',want)) d w then v else .junk
   |.c _=>.junk
  |v=>v
def bN(p:Bool)(a b:SX)(x y:Bool):Bool :=
 match a with
 |.c (.bool true)=>p || y
 |_=>match b with
  |.c (.bool false)=>p && x
  |_=>if p then x else y
def Dv(g:Option (Nat×Bool))(fr:List (Nat×SV))(c a b:SX):PR :=
 match gx g fr c with
 |.bool p=>match pG g fr c true a with
  |.bool x=>match pG g fr c false b with
   |.bool y=>.ok (.bool (bN p a b x y))
   |_=>.side (p=true) (.bool x)
  |_=>match pG g fr c false b with
   |.bool y=>.side (p=false) (.bool y)
   |_=>.fail
 |_=>.fail
def vH:SV->SV->SV
 |.cons h t,m=>.cons h (vH t m)
 |.ints k n f t,m=>.ints k n f (vH t m)
 |_,m=>m
def Qo(hp:List (Nat×aL)):SV->SV
 |.lsl id sz n=>match get? hp id with
  |some (.arr _ _ _ enc)=>.slice sz n enc
  |_=>.lsl id sz n
 |.osl id sz lo n=>match get? hp id with
  |some (.arr _ _ _ enc)=>.slice sz n λi=>enc (lo+i)
  |_=>.osl id sz lo n
 |s=>s
def Ru(hp:List (Nat×aL)):SV->SV
 |.cons h t=>.cons (Qo hp h) (Ru hp t)
 |s=>s
def Fw(hp:List (Nat×aL)):SV->SV
 |.lsl id sz n=>match get? hp id with
  |some (.arr _ _ _ enc)=>.slice sz n enc
  |_=>.lsl id sz n
 |.osl id sz lo n=>match get? hp id with
  |some (.arr _ _ _ enc)=>.slice sz n λi=>enc (lo+i)
  |_=>.osl id sz lo n
 |.own id off=>match get? hp id with
  |some (.cells _ l)=>.cptr (Ru hp (iA off l))
  |_=>.own id off
 |s=>s
def Rt(hp:List (Nat×aL)):SV->SV
 |.cons h t=>.cons (Fw hp h) (Rt hp t)
 |s=>s
def Vz(hp:List (Nat×aL)):SV->SV
 |.fn f l=>.fn f (Rt hp l)
 |s=>Fw hp s
def Ls(hp:List (Nat×aL)):SV->SV
 |.cons h t=>.cons (Vz hp h) (Ls hp t)
 |s=>s
def I4(tab:List (Nat×fV))(hp:List (Nat×aL))(f:Nat)(args:SV):PR :=
 match get? tab f with
 |some (.p S)=>match S.inst (Ls hp args) with
  |some x=>match S.fresh with
   |true=>.side (S.pre x/\sub .free hp 200 args (S.args x)) (S.res x)
   |false=>.side (S.pre x/\sub .hold' hp 200 args (S.args x)) (S.res x)
  |none=>.fail
 |_=>.fail
def isL:SV->Bool
 |.nil=>true
 |.cons _ t=>isL t
 |.ints _ _ _ t=>isL t
 |_=>false
def zV(k:Nat)(args caps:SV):Option (Nat×SV) :=
 bif Nat.blt k FM then some (k,vH args caps)else bif isL caps then some (k-FM,vH caps args)else none
theorem Nz{k:Nat}{args caps l:SV}{k':Nat}(h:zV k args caps=some (k',l)):(Nat.blt k FM=true/\k'=k/\l=vH args caps)\/(Nat.blt k FM=false/\isL caps=true/\k'=k-FM/\l=vH caps args):=by
 unfold zV at h
 grind
def cellsOf:SV->Option SV
 |.agg l=>some l
 |v=>bif Ak v then some (.cons v .nil)else none
def nD:SV->Nat->SV->Option SV
 |.cons h t,n,r=>match n with
  |0=>match r with
   |.cons x r=>match nD t 0 r with
    |some t'=>some (.cons x t')
    |none=>none
   |.nil=>some (.cons h t)
   |_=>none
  |n+1=>match nD t n r with
   |some t'=>some (.cons h t')
   |none=>none
 |.ints k m f t,n,r=>bif Nat.blt n m then match r with
   |.nil=>some (.ints k m f t)
   |.cons x .nil=>match x with
    |.int k' y=>bif kEq k k' then some (.ints k m (λi=>bif Nat.beq i n then y else f i) t)else none
    |_=>none
   |.ints k' m' f' r'=>bif Nat.beq n 0 && Nat.beq m m' && kEq k k' then match nD t 0 r' with
     |some t'=>some (.ints k m f' t')
     |none=>none
    else none
   |_=>none
  else match nD t (n-m) r with
   |some t'=>some (.ints k m f t')
   |none=>none
 |l,n,r=>match n with
  |0=>match r with
   |.nil=>some l
   |_=>none
  |_+1=>none
def rJ(g:Option (Nat×Bool))(fr:List (Nat×SV)):List (Nat×Nat×SX)->SV->Option SV
 | [],l=>some l
 | (off,size,x)::r,l=>match cellsOf (gx g fr x) with
  |some cs=>bif Nat.beq cs.len size then
    match nD l off cs with
    |some l'=>rJ g fr r l'
    |none=>none
   else none
  |none=>none
def Ui(z:SV):Nat->SV
 |0=>.nil
 |n+1=>vH z (Ui z n)
def mT(sz:Nat):Nat->SV->Option SV
 |0,.nil=>some .nil
 |0,_=>none
 |n+1,l=>match qL sz l with
  |some e=>match mT sz n (iA sz l) with
   |some r=>some (.cons e r)
   |none=>none
  |none=>none
def ox(g:Option (Nat×Bool))(fr:List (Nat×SV)):Option SX->Option SV
 |none=>none
 |some x=>some (gx g fr x)
def xF(sz:Nat)(x:SV)(lo hi:Option SV):PR :=
 match lo with
 |none=>match hi with
  |none=>.fail
  |some (.int _ h)=>match pB x with
   |.osl id sz' l0 n=>bif Nat.beq sz sz' then .side (0<=h/\h<=n) (.osl id sz l0 h.toNat)else .fail
   |.nilsl=>.side (0<=h/\h<=0) .nilsl
   |x=>match asSlice x with
    |some (sz',n,enc)=>bif Nat.beq sz sz' then .side (0<=h/\h<=n) (.slice sz h.toNat enc)else .fail
    |none=>.fail
  |some _=>.fail
 |some (.int _ l)=>match hi with
  |none=>match pB x with
   |.osl id sz' l0 n=>bif Nat.beq sz sz' then .side (0<=l/\l<=n) (.osl id sz (l0+l.toNat) (n-l.toNat))else .fail
   |x=>match asSlice x with
    |some (sz',n,enc)=>bif Nat.beq sz sz' then .side (0<=l/\l<=n) (.slice sz (n-l.toNat) (λi=>enc (l.toNat+i)))else .fail
    |none=>.fail
  |some (.int _ h)=>match pB x with
   |.osl id sz' l0 n=>bif Nat.beq sz sz' then .side (0<=l/\l<=h/\h<=n) (.osl id sz (l0+l.toNat) (h.toNat-l.toNat))else .fail
   |x=>match asSlice x with
    |some (sz',n,enc)=>bif Nat.beq sz sz' then .side (0<=l/\l<=h/\h<=n) (.slice sz (h.toNat-l.toNat) (λi=>enc (l.toNat+i)))else .fail
    |none=>.fail
  |some _=>.fail
 |some _=>.fail
def uQ(s:List UInt8)(lo hi:Option SV):PR :=
 match lo with
 |none=>match hi with
  |none=>.ok (.str s)
  |some (.int _ h)=>.side (0<=h/\h<=s.length) (.str (s.take h.toNat))
  |some _=>.fail
 |some (.int _ l)=>match hi with
  |none=>.side (0<=l/\l<=s.length) (.str (s.drop l.toNat))
  |some (.int _ h)=>.side (0<=l/\l<=h/\h<=s.length) (.str ((s.drop l.toNat).take (h.toNat-l.toNat)))
  |some _=>.fail
 |some _=>.fail
def evP(tab:List (Nat×fV))(g:Option (Nat×Bool))(st:St):SOp->PR
 |.move x=>.ok (gx g st.fr x)
 |.pick c a b=>Dv g st.fr c a b
 |.load n agg x=>zZ st.hp n agg (gx g st.fr x)
 |.fldA off x=>match gx g st.fr x with
  |.own id o=>.ok (.own id (o+off))
  |.fown h i o=>.ok (.fown h i (o+off))
  |.foel h i sz k o=>.ok (.foel h i sz k (o+off))
  |.oel id sz i o=>.ok (.oel id sz i (o+off))
  |.cptr cells=>.ok (.cptr (iA off cells))
  |_=>.fail
 |.idxArr len sz x i=>match Xo i with
  |some m=>bif Nat.blt m len then
    match gx g st.fr x with
    |.own id o=>.ok (.own id (o+m*sz))
    |.oel id sz' j o=>.ok (.oel id sz' j (o+m*sz))
    |.cptr cells=>.ok (.cptr (iA (m*sz) cells))
    |_=>.fail
   else .fail
  |none=>match gx g st.fr i with
   |.int _ m=>bif Nat.beq sz 1 then match gx g st.fr x with
     |.own id o=>.side (0<=m/\m<len) (.oel id 1 m.toNat o)
     |.cptr cells=>match cells with
      |.ints k q f _=>.side (0<=m/\m<len/\m<q) (.cptr (.cons (.int k (f m.toNat)) .nil))
      |_=>.fail
     |_=>.fail
    else .fail
   |_=>.fail
 |.idxSl sz x i=>Rp sz (gx g st.fr x) (gx g st.fr i)
 |.idxStr x i=>match gx g st.fr x with
  |.str s=>match gx g st.fr i with
   |.int _ m=>.side (0<=m/\m<s.length) (.int .u8 ((s.getD m.toNat 0).toNat:Int))
   |_=>.fail
  |_=>.fail
 |.idxVal len sz agg x i=>I5 len sz agg (Xo i) (gx g st.fr x) (gx g st.fr i)
 |.field off n agg x=>match gx g st.fr x with
  |.agg l=>PR.of (rd n agg (iA off l))
  |_=>.fail
 |.nilCheck x=>match gx g st.fr x with
  |.own id o=>.ok (.own id o)
  |.fown h i o=>.ok (.fown h i o)
  |.foel h i sz k o=>.ok (.foel h i sz k o)
  |.oel id sz i o=>.ok (.oel id sz i o)
  |.cptr c=>.ok (.cptr c)
  |.fn f l=>.ok (.fn f l)
  |_=>.fail
 |.lenStr x=>match gx g st.fr x with
  |.str s=>.ok (.int .i64 (s.length:Int))
  |_=>.fail
 |.lenSl x=>match gx g st.fr x with
  |.slice _ n _=>.ok (.int .i64 (n:Int))
  |.slit _ els=>.ok (.int .i64 (els.len:Int))
  |.osl _ _ _ n=>.ok (.int .i64 (n:Int))
  |.lsl _ _ n=>.ok (.int .i64 (n:Int))
  |.flsl _ _ _ n=>.ok (.int .i64 (n:Int))
  |.nilsl=>.ok (.int .i64 0)
  |_=>.fail
 |.bin op x y=>bif Ic tab op then I7 op (gx g st.fr x) (gx g st.fr y)else Ro op (gx g st.fr x) (gx g st.fr y)
 |.ptrEq neg x y=>Dx neg (gx g st.fr x) (gx g st.fr y)
 |.eqB neg x y=>match gx g st.fr x with
  |.bool a=>match gx g st.fr y with
   |.bool b=>match neg with
    |true=>.ok (.bool (!(a == b)))
    |false=>.ok (.bool (a == b))
   |_=>.fail
  |_=>.fail
 |.not x=>match gx g st.fr x with
  |.bool b=>.ok (.bool (!b))
  |_=>.fail
 |.neg x=>match gx g st.fr x with
  |.int k n=>.side (InR k (0-n)) (.int k (0-n))
  |_=>.fail
 |.cnv k x=>match gx g st.fr x with
  |.int _ n=>.side (InR k n) (.int k n)
  |_=>.fail
 |.convS x=>match gx g st.fr x with
  |.str s=>.ok (.str s)
  |_=>.fail
 |.runeS x=>match gx g st.fr x with
  |.int _ n=>.side (0<=n/\n<128) (.str [UInt8.ofNat n.toNat])
  |_=>.fail
 |.mm mx x y=>match gx g st.fr x with
  |.int k a=>match gx g st.fr y with
   |.int _ b=>match mx with
    |true=>.ok (.int k (max a b))
    |false=>.ok (.int k (min a b))
   |_=>.fail
  |_=>.fail
 |.mm3 x y z=>match gx g st.fr x with
  |.int k a=>match gx g st.fr y with
   |.int _ b=>match gx g st.fr z with
    |.int _ c=>.ok (.int k (min (min a b) c))
    |_=>.fail
   |_=>.fail
  |_=>.fail
 |.extract i x=>match gx g st.fr x with
  |.tup l=>PR.of (cA (iA i l))
  |_=>.fail
 |.mkfn f caps=>.ok (.fn f (gxs g st.fr caps))
 |.build z parts=>match rJ g st.fr parts z.sv with
  |some l=>.ok (.agg l)
  |none=>.fail
 |.buildSl _ sz n z parts=>match rJ g st.fr parts (Ui z.sv n) with
  |some l=>match mT sz n l with
   |some els=>.ok (.slit sz els)
   |none=>.fail
  |none=>.fail
 |.sliceSl sz x lo hi=>xF sz (gx g st.fr x) (ox g st.fr lo) (ox g st.fr hi)
 |.sliceStr x lo hi=>match gx g st.fr x with
  |.str s=>uQ s (ox g st.fr lo) (ox g st.fr hi)
  |_=>.fail
 |.call f args=>match gx g st.fr f with
  |.fn k caps=>match zV k (gxs g st.fr args) caps with
   |some (k',l)=>I4 tab st.hp k' l
   |none=>.fail
  |_=>.fail
 |.mapEq neg x y=>Du neg (gx g st.fr x) (gx g st.fr y)
 |.eqS neg offs x y=>match gx g st.fr x with
  |.agg a=>match gx g st.fr y with
   |.agg b=>match xD offs a b with
    |some q=>match neg with
     |true=>.ok (.bool (!q))
     |false=>.ok (.bool q)
    |none=>.fail
   |_=>.fail
  |_=>.fail
 |_=>.fail
def PR.holds(r:PR)(Q:SV->Prop):Prop :=
 match r with
 |.fail=>False
 |.ok v=>Q v
 |.side p v=>p/\Q v
end Go.Eng
end
