/- A part of the proof. -/
import Derived.Test.YtpiolkcdfgiefaaGreatDoorEngP
import Derived.MapKept
import Derived.WideKeyRuns
import Derived.ChangeKeysEq
section
namespace Go.Eng
open Go Go.RowKit
def rnS (l:List (Nat×Nat)):SV->SV
 | .own id off=>bif Nat.blt id FB then .own ((get? l id).getD 0) off else .junk
 | .osl id sz lo n=>bif Nat.blt id FB then .osl ((get? l id).getD 0) sz lo n else .junk
 | .lsl id sz n=>bif Nat.blt id FB then .lsl ((get? l id).getD 0) sz n else .junk
 | .oel id sz i off=>bif Nat.blt id FB then .oel ((get? l id).getD 0) sz i off else .junk
 | .mref id=>bif Nat.blt id FB then .mref ((get? l id).getD 0) else .junk
 | .fown h i off=>bif Nat.blt h FB then .fown ((get? l h).getD 0) i off else .junk
 | .fmref h i=>bif Nat.blt h FB then .fmref ((get? l h).getD 0) i else .junk
 | .flsl h i sz n=>bif Nat.blt h FB then .flsl ((get? l h).getD 0) i sz n else .junk
 | .foel h i sz k off=>bif Nat.blt h FB then .foel ((get? l h).getD 0) i sz k off else .junk
 | .csl id n=>bif Nat.blt id FB then .csl ((get? l id).getD 0) n else .junk
 | .slice sz n enc=>.slice sz n (fun i=>rnS l (enc i))
 | .slit sz els=>.slit sz (rnS l els)
 | .cptr c=>.cptr (rnS l c)
 | .cons a b=>.cons (rnS l a) (rnS l b)
 | .ints k n f t=>.ints k n f (rnS l t)
 | .agg a=>.agg (rnS l a)
 | .tup a=>.tup (rnS l a)
 | .fn f a=>.fn f (rnS l a)
 | .junk=>.junk
 | .val v=>.val v
 | .int k n=>.int k n
 | .bool b=>.bool b
 | .str s=>.str s
 | .nilsl=>.nilsl
 | .nil=>.nil
 | .yield id=>bif Nat.blt id FB then .yield ((get? l id).getD 0) else .junk
 | .gd _ _ _=>.junk
def rnO (l r:List (Nat×Nat)):aT->aT
 | .cells T c=>.cells T (rnS l c)
 | .arr T sz n enc=>.arr T sz n (fun i=>rnS l (enc i))
 | .obj o=>.obj o
 | .snap o=>.snap o
 | .map V kk es clock ev iv=>.map V kk es clock (fun v=>rnS l (ev v)) (fun s=>iv (rnS r s))
 | .iter src a b c=>.iter (rnS l src) a b c
 | .fam f=>.fam (fun i=>rnO l r (f i))
 | .hid a b=>.hid a b
 | .gone=>.gone
theorem Sn (l r:List (Nat×Nat)) (o:aT):solid? (rnO l r o)=(solid? o).map (rnO l r):=by
 cases o <;> first
  | rfl
  | (simp only [rnO,solid?]
     split <;> rfl)
theorem O4 (l r:List (Nat×Nat)) (o:aT):eT? (rnO l r o)=(eT? o).map (rnO l r):=by
 cases o <;> first
  | rfl
  | (simp only [rnO,eT?,solid?]
     split <;> rfl)
theorem Vd (l:List (Nat×Nat)):∀ s:SV,(rnS l s).len=s.len:=by
 intro s;induction s with
 | cons a b _ ih=>simp [rnS,SV.len,ih]
 | ints k n f t ih=>simp [rnS,SV.len,ih]
 | own id off=>simp only [rnS]; cases Nat.blt id FB <;> rfl
 | osl id=>simp only [rnS]; cases Nat.blt id FB <;> rfl
 | lsl id=>simp only [rnS]; cases Nat.blt id FB <;> rfl
 | oel id=>simp only [rnS]; cases Nat.blt id FB <;> rfl
 | mref id=>simp only [rnS]; cases Nat.blt id FB <;> rfl
 | fown id=>simp only [rnS]; cases Nat.blt id FB <;> rfl
 | fmref id=>simp only [rnS]; cases Nat.blt id FB <;> rfl
 | flsl id=>simp only [rnS]; cases Nat.blt id FB <;> rfl
 | foel id=>simp only [rnS]; cases Nat.blt id FB <;> rfl
 | csl id=>simp only [rnS]; cases Nat.blt id FB <;> rfl
 | yield id=>simp only [rnS]; cases Nat.blt id FB <;> rfl
 | _=>rfl
structure RnE (l:List (Nat×Nat)) (E E':Env):Prop where
 μ:∀ id p,id < FB->E.μ id=some p->E'.μ ((get? l id).getD 0)=some p
 fam:∀ h i p,h < FB->E.μ (fid h i)=some p->E'.μ (fid ((get? l h).getD 0) i)=some p
 U:∀ b,E.U b->E'.U b
 w:E'.w=E.w
 H:∀ l p o,E.H l p o->E'.H l p o
theorem lR {a b:Nat} (h:Nat.blt a b=true):a < b:=aM (n:=a+1) h
theorem Pt {l:List (Nat×Nat)} {E E':Env} (hE:RnE l E E') (s:SV):(∀ vs,R E s vs->R E' (rnS l s) vs)/\(∀ a sz i,RE E s a sz i->RE E' (rnS l s) a sz i):=by
 induction s with
 | own id off =>
  refine ⟨?_,fun _ _ _ h=>by simp only [rnS]; cases Nat.blt id FB <;> simp [RE]⟩;rintro vs ⟨b,c,h1,h2⟩;simp only [rnS];cases hb:Nat.blt id FB with
  | true=>exact ⟨b,c,hE.μ _ _ (lR hb) h1,h2⟩
  | false=>exact ⟨_,h2⟩
 | osl id sz lo n =>
  refine ⟨?_,fun _ _ _ h=>by simp only [rnS]; cases Nat.blt id FB <;> simp [RE]⟩;intro vs h;simp only [rnS];cases hb:Nat.blt id FB with
  | true =>
   rcases h with h|⟨h0,b,c,h1,h2⟩
   ·exact .inl h
   ·exact .inr ⟨h0,b,c,hE.μ _ _ (lR hb) h1,h2⟩
  | false =>
   rcases h with ⟨_,_,_,h⟩|⟨h0,b,c,h1,h2,_⟩
   ·exact ⟨_,h⟩
   ·exact ⟨_,h2⟩
 | lsl id sz n =>
  refine ⟨?_,fun _ _ _ h=>by simp only [rnS]; cases Nat.blt id FB <;> simp [RE]⟩;intro vs h;simp only [rnS];cases hb:Nat.blt id FB with
  | true =>
   rcases h with h|⟨h0,b,c,h1,h2⟩
   ·exact .inl h
   ·exact .inr ⟨h0,b,c,hE.μ _ _ (lR hb) h1,h2⟩
  | false =>
   rcases h with ⟨_,_,h⟩|⟨h0,b,c,h1,h2,_⟩
   ·exact ⟨_,h⟩
   ·exact ⟨_,h2⟩
 | oel id sz i off =>
  refine ⟨?_,fun _ _ _ h=>by simp only [rnS]; cases Nat.blt id FB <;> simp [RE]⟩;rintro vs ⟨b,c,h1,h2⟩;simp only [rnS];cases hb:Nat.blt id FB with
  | true=>exact ⟨b,c,hE.μ _ _ (lR hb) h1,h2⟩
  | false=>exact ⟨_,h2⟩
 | mref id =>
  refine ⟨?_,fun _ _ _ h=>by simp only [rnS]; cases Nat.blt id FB <;> simp [RE]⟩;rintro vs ⟨b,c,h1,h2⟩;simp only [rnS];cases hb:Nat.blt id FB with
  | true=>exact ⟨b,c,hE.μ _ _ (lR hb) h1,h2⟩
  | false=>exact ⟨_,h2⟩
 | yield id =>
  refine ⟨?_,fun _ _ _ h=>by simp only [rnS]; cases Nat.blt id FB <;> simp [RE]⟩;rintro vs ⟨b,c,h1,h2⟩;simp only [rnS];cases hb:Nat.blt id FB with
  | true=>exact ⟨b,c,hE.μ _ _ (lR hb) h1,h2⟩
  | false=>exact ⟨_,h2⟩
 | fown id i off =>
  refine ⟨?_,fun _ _ _ h=>by simp only [rnS]; cases Nat.blt id FB <;> simp [RE]⟩;rintro vs ⟨b,c,h1,h2⟩;simp only [rnS];cases hb:Nat.blt id FB with
  | true=>exact ⟨b,c,hE.fam _ _ _ (lR hb) h1,h2⟩
  | false=>exact ⟨_,h2⟩
 | fmref id i =>
  refine ⟨?_,fun _ _ _ h=>by simp only [rnS]; cases Nat.blt id FB <;> simp [RE]⟩;rintro vs ⟨b,c,h1,h2⟩;simp only [rnS];cases hb:Nat.blt id FB with
  | true=>exact ⟨b,c,hE.fam _ _ _ (lR hb) h1,h2⟩
  | false=>exact ⟨_,h2⟩
 | csl id n =>
  refine ⟨?_,fun _ _ _ h=>by simp only [rnS]; cases Nat.blt id FB <;> simp [RE]⟩;rintro vs ⟨b,c,h1,h2⟩;simp only [rnS];cases hb:Nat.blt id FB with
  | true=>exact ⟨b,c,hE.μ _ _ (lR hb) h1,h2⟩
  | false=>exact ⟨_,h2⟩
 | foel id i sz k off =>
  refine ⟨?_,fun _ _ _ h=>by simp only [rnS]; cases Nat.blt id FB <;> simp [RE]⟩;rintro vs ⟨b,c,h1,h2⟩;simp only [rnS];cases hb:Nat.blt id FB with
  | true=>exact ⟨b,c,hE.fam _ _ _ (lR hb) h1,h2⟩
  | false=>exact ⟨_,h2⟩
 | flsl id i sz n =>
  refine ⟨?_,fun _ _ _ h=>by simp only [rnS]; cases Nat.blt id FB <;> simp [RE]⟩;intro vs h;simp only [rnS];cases hb:Nat.blt id FB with
  | true =>
   rcases h with h|⟨b,c,h1,h2⟩
   ·exact .inl h
   ·exact .inr ⟨b,c,hE.fam _ _ _ (lR hb) h1,h2⟩
  | false =>
   rcases h with ⟨_,_,h⟩|⟨b,c,h1,h2,_⟩
   ·exact ⟨_,h⟩
   ·exact ⟨_,h2⟩
 | slice sz n enc ih =>
  refine ⟨?_,fun _ _ _ h=>by simp [RE,rnS]⟩;intro vs h;simp only [R,rnS] at h ⊢;obtain ⟨a,cap,h1,h2,h3⟩:=h;refine ⟨a,cap,h1,h2,fun i hi=>?_⟩;obtain ⟨b,off,cs,e,u,r,ln,hh⟩:=h3 i hi;exact ⟨b,off,cs,e,hE.U b u,(ih i).1 _ r,ln,by rw [hE.w]; exact hh⟩
 | slit sz els ih =>
  refine ⟨?_,fun _ _ _ h=>by simp [RE,rnS]⟩;intro vs h;simp only [R,rnS] at h ⊢;obtain ⟨a,h1,h2⟩:=h;exact ⟨a,by rw [Vd]; exact h1,ih.2 _ _ _ h2⟩
 | cptr cells ih =>
  refine ⟨?_,fun _ _ _ h=>by simp [RE,rnS]⟩;intro vs h;simp only [R,rnS] at h ⊢;obtain ⟨b,off,cs,h1,h2,h3,h4⟩:=h;exact ⟨b,off,cs,h1,hE.U b h2,ih.1 _ h3,by rw [hE.w]; exact h4⟩
 | cons h t ihh iht =>
  refine ⟨?_,?_⟩
  ·intro vs h;simp only [R,rnS] at h ⊢;obtain ⟨x,xs,h1,h2,h3⟩:=h;exact ⟨x,xs,h1,ihh.1 _ h2,iht.1 _ h3⟩
  ·intro a sz i h;simp only [RE,rnS] at h ⊢;obtain ⟨⟨b,off,cs,e,u,r,ln,hh⟩,h2⟩:=h;exact ⟨⟨b,off,cs,e,hE.U b u,ihh.1 _ r,ln,by rw [hE.w]; exact hh⟩,iht.2 _ _ _ h2⟩
 | ints k n f t ih =>
  refine ⟨?_,fun _ _ _ h=>by simp [RE] at h⟩;intro vs h; simp only [R,rnS] at h ⊢; obtain ⟨cs,h1,h2⟩:=h; exact ⟨cs,h1,ih.1 _ h2⟩
 | agg l ih =>
  refine ⟨?_,fun _ _ _ h=>by simp [RE,rnS]⟩;intro vs h; simp only [R,rnS] at h ⊢; obtain ⟨cs,h1,h2⟩:=h; exact ⟨cs,h1,ih.1 _ h2⟩
 | tup l ih =>
  refine ⟨?_,fun _ _ _ h=>by simp [RE,rnS]⟩;intro vs h; simp only [R,rnS] at h ⊢; obtain ⟨cs,h1,h2⟩:=h; exact ⟨cs,h1,ih.1 _ h2⟩
 | fn f l ih =>
  refine ⟨?_,fun _ _ _ h=>by simp [RE,rnS]⟩;intro vs h; simp only [R,rnS] at h ⊢; obtain ⟨cs,h1,h2⟩:=h; exact ⟨cs,h1,ih.1 _ h2⟩
 | _=>exact ⟨fun vs h=>by simpa only [R,rnS] using h,fun _ _ _ h=>by simp [RE,rnS]⟩
theorem Ps {l:List (Nat×Nat)} {E E':Env} (hE:RnE l E E') {s:SV} {vs:List Value} (h:R E s vs):R E' (rnS l s) vs:=(Pt hE s).1 vs h
theorem Tg {l:List (Nat×Nat)} {E E':Env} (hE:RnE l E E') {V:Type} {ev:V->SV}:∀ {es:List (cC×V×Nat)} {ms:List MapEntry},jH E ev es ms->jH E' (fun v=>rnS l (ev v)) es ms:=by
 intro es;induction es with
 | nil=>intro ms h; exact h
 | cons x r ih =>
  intro ms h;obtain ⟨e,t,h1,h2,h3,h4,h5⟩:=h;exact ⟨e,t,h1,h2,Ps hE h3,h4,ih h5⟩
theorem Zw {l r:List (Nat×Nat)} {E E':Env} (hE:RnE l E E') {o:aT} {c:Nat} {x:Obj} (h:HR E o c x):HR E' (rnO l r o) c x:=by
 cases o with
 | cells T l=>obtain ⟨cs,h1,h2⟩:=h; exact ⟨cs,h1,Ps hE h2⟩
 | arr T sz len enc =>
  obtain ⟨cs,h1,h2,h3,h4⟩:=h;refine ⟨cs,h1,h2,h3,fun i hi=>?_⟩;obtain ⟨xs,a,b,c⟩:=h4 i hi;exact ⟨xs,Ps hE a,b,c⟩
 | obj o'=>exact h
 | snap o'=>exact h
 | hid a b=>exact hE.H _ _ _ h
 | map V kk l clock ev iv=>obtain ⟨h0,es,h1,h2⟩:=h; exact ⟨h0,es,h1,Tg hE h2⟩
 | iter src since seen last=>obtain ⟨r,h1,h2⟩:=h; exact ⟨r,Ps hE h1,h2⟩
 | fam f=>exact h
 | gone=>exact h
def numb:List Nat->Nat->List (Nat×Nat)
 | [],_=>[]
 | m::r,j=>(m,j)::numb r (j+1)
def names (ids:List Nat) (j nx1 nx:Nat):List (Nat×Nat) :=
 match ids with
 | m::r=>(j,m)::names r (j+1) nx1 nx
 | []=>news (nx1 - j) j nx
where
 news:Nat->Nat->Nat->List (Nat×Nat)
  | 0,_,_=>[]
  | f+1,j,nx=>(j,nx)::news f (j+1) (nx+1)
def flip:List (Nat×Nat)->List (Nat×Nat)
 | []=>[]
 | (a,b)::r=>(b,a)::flip r
def zB (l r:List (Nat×Nat)):List (Nat×aT)->List (Nat×aT)
 | []=>[]
 | (j,o)::t=>((get? l j).getD 0,rnO l r o)::zB l r t
def E6 (ids:List Nat):List (Nat×aT)->List (Nat×aT)
 | []=>[]
 | (n,o)::t=>bif eE ids n then E6 ids t else (n,o)::E6 ids t
def Ab:List (Nat×aT)->List (Nat×aT)->List (Nat×aT)
 | [],l=>l
 | x::r,l=>x::Ab r l
def named (l:List (Nat×Nat)):Nat->Bool
 | 0=>true
 | n+1=>match get? l n with
  | some _=>named l n
  | none=>false
def zS (l:List (Nat×Nat)):List Nat->Nat->Bool
 | [],_=>true
 | m::r,j=>match get? l j with
  | some x=>bif Nat.beq x m then zS l r (j+1) else false
  | none=>false
def wV (l:List (Nat×Nat)) (nx0 nx:Nat):Bool :=
 match l with
 | []=>true
 | (j,n)::r=>bif Nat.blt j nx0 then wV r nx0 nx else bif Nat.ble nx n then wV r nx0 nx else false
def Iw (hp:List (Nat×aT)) (nx:Nat) (ids:List Nat) (h0:List (Nat×aT)) (nx0 nx1:Nat):Bool :=
 let l:=names ids 0 nx1 nx;let nx':=nx+(nx1 - nx0)
 bif Nat.beq ids.length nx0 then bif jT nx0 (numb ids 0) then bif uO hp h0 (numb ids 0) then bif jT nx' l then
  bif named l nx1 then bif zS l ids 0 then bif wV l nx0 nx then bif Nat.ble nx nx' then true
  else false else false else false else false else false else false else false else false
def zO (tab:List (Nat×iA)) (st:St) (f:Nat) (args:SV) (k:SV->St->Prop):Prop :=
 match get? tab f with
 | some (.m S)=>∃ x ids,
   bif Iw st.hp st.nx ids (S.h0 x) S.nx0 S.nx1 then
    S.pre x/\sub ⟨numb ids 0,match S.fresh with|true=>false|false=>true,true,false⟩ st.hp 200 args (S.args x) /\
    sI ⟨numb ids 0,match S.fresh with|true=>false|false=>true,true,false⟩ S.nx0 (numb ids 0) st.hp (S.h0 x) /\
    ∀ y,S.post x y->Am (names ids 0 S.nx1 st.nx) fun nm=>Am (flip nm) fun fl=>k (rnS nm (S.res x y))
     ⟨st.fr,Ab (zB nm fl (S.h1 x y)) (E6 ids st.hp),st.nx+(S.nx1 - S.nx0)⟩
   else False
 | _=>False
theorem Cq {l:List (Nat×Nat)}:∀ {n:Nat},named l n=true->∀ j,j < n->∃ m,get? l j=some m:=by
 intro n;induction n with
 | zero=>intro _ j h; omega
 | succ n ih =>
  intro e j h;simp only [named] at e;split at e
  ·rename_i x hx;by_cases hj:j=n
   ·subst hj; exact ⟨_,hx⟩
   ·exact ih e j (by omega)
  ·cases e
theorem Hc:∀ {ids:List Nat} {j m k:Nat},(m,k)∈numb ids j->∃ i,k=j+i/\ids[i]?=some m:=by
 intro ids;induction ids with
 | nil=>intro j m k h; cases h
 | cons a r ih =>
  intro j m k h;rcases aI.1 h with e|e
  ·cases e; exact ⟨0,rfl,rfl⟩
  ·obtain ⟨i,rfl,hi⟩:=ih e;exact ⟨i+1,by omega,by simpa using hi⟩
theorem U8:∀ {ids:List Nat} {j i m:Nat},ids[i]?=some m->(m,j+i)∈numb ids j:=by
 intro ids;induction ids with
 | nil=>intro j i m h; simp at h
 | cons a r ih =>
  intro j i m h;cases i with
  | zero=>simp at h; subst h; simp [numb]
  | succ i =>
   have:=ih (j:=j+1) (i:=i) (m:=m) (by simpa using h);rw [gU,Nat.add_comm 1 i] at this;exact aK _ this
theorem tG {l:List (Nat×Nat)}:∀ {ids:List Nat} {j i m:Nat},zS l ids j=true->ids[i]?=some m->get? l (j+i)=some m:=by
 intro ids;induction ids with
 | nil=>intro j i m _ h; simp at h
 | cons a r ih =>
  intro j i m e h;simp only [zS] at e;split at e
  ·rename_i x hx;cases hb:Nat.beq x a with
   | false=>simp [hb] at e
   | true =>
    simp only [hb,cond_true] at e;have:=nbeq hb;subst this;cases i with
    | zero=>simp at h; subst h; exact hx
    | succ i =>
     have:=ih (j:=j+1) (i:=i) (m:=m) e (by simpa using h);rw [gU,Nat.add_comm 1 i] at this;exact this
  ·cases e
theorem tI {nx0 nx:Nat}:∀ {l:List (Nat×Nat)},wV l nx0 nx=true->∀ j n,(j,n)∈l->nx0<=j->nx<=n:=by
 intro l;induction l with
 | nil=>intro _ j n h; cases h
 | cons p r ih =>
  obtain ⟨a,b⟩:=p;intro e j n hm hj;simp only [wV] at e;cases h1:Nat.blt a nx0 with
  | true =>
   simp only [h1,cond_true] at e;rcases aI.1 hm with e2|e2
   ·cases e2; have:=lR h1; omega
   ·exact ih e j n e2 hj
  | false =>
   cases h2:Nat.ble nx b with
   | false=>simp [h1,h2] at e
   | true =>
    simp only [h1,h2,cond_false,cond_true] at e;rcases aI.1 hm with e2|e2
    ·cases e2; exact aM h2
    ·exact ih e j n e2 hj
theorem get?_app (a b:List (Nat×aT)) (n:Nat):get? (Ab a b) n=match get? a n with|some o=>some o|none=>get? b n:=by
 induction a with
 | nil=>rfl
 | cons p r ih =>
  obtain ⟨k,v⟩:=p;simp only [Ab,get?_cons,ih];by_cases e:k=n <;> simp [e]
theorem get?_rm (ids:List Nat) (hp:List (Nat×aT)) (n:Nat):get? (E6 ids hp) n=if eE ids n=true then none else get? hp n:=by
 induction hp with
 | nil=>simp [E6,get?]
 | cons p r ih =>
  obtain ⟨k,v⟩:=p;simp only [E6];cases h:eE ids k with
  | true =>
   simp only [cond_true,ih,get?_cons];by_cases e:k=n
   ·subst e; simp [h]
   ·simp [e]
  | false =>
   simp only [cond_false,ih,get?_cons];by_cases e:k=n
   ·subst e; simp [h]
   ·simp [e]
theorem get?_map {l r:List (Nat×Nat)} {nx:Nat} (hk:jT nx l=true):∀ {h1:List (Nat×aT)},(∀ j o,(j,o)∈h1->∃ m,(j,m)∈l)->∀ n,get? (zB l r h1) n=(back l n).bind fun j=>(get? h1 j).map (rnO l r):=by
 obtain ⟨f1,f2,f3⟩:=pE hk;intro h1;induction h1 with
 | nil=>intro _ n; simp [zB,get?]
 | cons p t ih =>
  obtain ⟨j,o⟩:=p;intro hn n;obtain ⟨m,hm⟩:=hn j o (aQ ..);have hgm:get? l j=some m:=get?_of_mem hk hm;simp only [zB,hgm,bZ,get?_cons];by_cases e:m=n
  ·subst e;simp [lQ hk hm]
  ·rw [if_neg e,ih (fun j' o' h'=>hn j' o' (aK _ h')) n];cases hb:back l n with
   | none=>rfl
   | some j' =>
    have:j≠j':=by
     rintro rfl;exact e (f1 _ _ _ hm (back_mem hb))
    simp [this]
theorem Uq {hp:List (Nat×aT)} {j:Nat} {o:aT} (h:(j,o)∈hp):∃ o',get? hp j=some o':=by
 induction hp with
 | nil=>cases h
 | cons p t ih =>
  obtain ⟨k,v⟩:=p;rw [get?_cons];by_cases e:k=j
  ·exact ⟨v,by simp [e]⟩
  ·rcases aI.1 h with e2|e2
   ·cases e2; exact absurd rfl e
   ·obtain ⟨o',ho'⟩:=ih e2;exact ⟨o',by simp [e,ho']⟩
def cid (n j:Nat):Nat:=if n < FB then j else fid j (n / FB - 1)
section
variable {P:Program} {C:Ctx}
set_option maxHeartbeats 1000000 in
theorem Bq {tab:List (Nat×iA)} (ht:aZ P tab) (hgc:uY C) {μ:Nat->Option (Nat×Nat)} {st:St} {w:World} (h:bO C μ st.hp st.nx w) {f:Nat} {args:SV} {vs:List Value} (hr:R (aN C μ st.hp w) args vs)
  {K:SV->St->Prop} (he:zO tab st f args K) :
  (callFunc f vs.toArray).run P w=.ok (.enter f vs.toArray) w/\Calls P f vs.toArray w fun
   | .returned v,w'=>∃ s st' μ',K s st'/\st'.fr=st.fr/\(aN C μ st.hp w).Le (aN C μ' st'.hp w')/\bO C μ' st'.hp st'.nx w'/\R (aN C μ' st'.hp w') s [v]
   | _,_=>False:=by
 unfold zO at he;split at he
 ·rename_i S hS;have hok:S.Ok P f:=ht f (.m S) hS;obtain ⟨x,ids,he⟩:=he
  ·cases hck:Iw st.hp st.nx ids (S.h0 x) S.nx0 S.nx1 with
   | false=>simp [hck] at he
   | true =>
    simp only [hck,cond_true,Nx] at he;obtain ⟨hpre,hsub,hsh,hK⟩:=he;refine ⟨hok.call _ _,?_⟩;generalize hl:names ids 0 S.nx1 st.nx=l at hK;unfold Iw at hck;rw [hl] at hck;simp only at hck;have fact:∀ {a b:Bool},(bif a then b else false)=true->a=true/\b=true:=by intro a b; cases a <;> simp
    obtain ⟨ck1,hck⟩:=fact hck;obtain ⟨ck2,hck⟩:=fact hck;obtain ⟨ck3,hck⟩:=fact hck;obtain ⟨ck4,hck⟩:=fact hck;obtain ⟨ck5,hck⟩:=fact hck;obtain ⟨ck6,hck⟩:=fact hck;obtain ⟨ck7,hck⟩:=fact hck;obtain ⟨ck8,_⟩:=fact hck;have clen:ids.length=S.nx0:=nbeq ck1;have cnx:st.nx<=st.nx+(S.nx1 - S.nx0):=aM ck8;generalize hprs:numb ids 0=prs at hsub hsh ck2 ck3;generalize st.nx+(S.nx1 - S.nx0)=nx' at *
    obtain ⟨p1,p2,p3⟩:=pE ck2;obtain ⟨l1,l2,l3⟩:=pE ck4;obtain ⟨μ0,k1,k2,k3,k4,k5,k6,k7,k8,_⟩:=Ff 0 h ck2 ck3 hsh (fun _ _ _ h=>by omega) (bB _)
    -- the callee's side
    obtain ⟨T,hT⟩:∃ T:Nat->Prop,T=fun b=>∃ n o c,hget (S.h0 x) n=some o/\μ0 n=some (b,c):=⟨_,rfl⟩;have tmine:∀ b,T b->∃ n m o c,Pair prs n m/\hget st.hp m=some o/\μ m=some (b,c):=by
     intro b hb;rw [hT] at hb;obtain ⟨n,o,c,g1,g2⟩:=hb;obtain ⟨m,o',q1,q2,q3,_⟩:=k1 n o g1;exact ⟨n,m,o',c,q1,q2,q3 ▸ g2⟩
    obtain ⟨U,hU⟩:∃ U:Nat->Prop,U=match S.fresh with|true=>(fun b=>(b < w.heap.size/\Plain w b)/\¬ T b)|false=>(aN C μ st.hp w).U:=⟨_,rfl⟩
    have tplain:∀ b,T b->(∀ r,w.heap[b]?≠some (.loop r))/\Plain w b:=by
     intro b hb;rw [hT] at hb;obtain ⟨n,o,c,g1,g2⟩:=hb;obtain ⟨m,o',q1,q2,q3,q4⟩:=k1 n o g1;have hnh:∀ l p,o'≠.hid l p:=by
      rintro l p rfl;cases o <;> simp [lG] at q4
     obtain ⟨b',c',z,e1,e2,e3⟩:=h.obj.obj m o' q2;have e1':μ m=some (b',c'):=e1;rw [<- q3,g2] at e1';cases e1';have e2':w.heap[b]?=some z:=e2;have hpl:=sP hnh e3;exact ⟨fun r e=>by rw [e2'] at e; cases e; exact hpl.1 r rfl,fun y e=>by rw [e2'] at e; cases e; exact iY.2 hpl⟩
    have hUlt:∀ b,U b->b < w.heap.size/\Plain w b:=by
     intro b hb;rw [hU] at hb;cases hfr:S.fresh with
     | true=>rw [hfr] at hb; exact hb.1
     | false=>rw [hfr] at hb; exact ⟨hb.1,hb.2.2.2⟩
    have hUof:∀ b,(aN C μ st.hp w).U b->U b:=by
     intro b hb;rw [hU];cases hfr:S.fresh with
     | true =>
      refine ⟨⟨hb.1,hb.2.2.2⟩,fun ht=>?_⟩;obtain ⟨n,m,o,c,_,q2,q3⟩:=tmine b ht;exact hb.2.2.1 _ _ _ q2 q3
     | false=>exact hb
    let C0:Ctx:=dW w T U μ0 S.nx0;have hF:(aN C μ st.hp w).Freed ⟨prs,match S.fresh with|true=>false|false=>true,true,false⟩ st.hp (aN C0 μ0 (S.h0 x) w):=by
     refine ⟨fun _=>⟨?_,fun _ _=>rfl⟩,k2,k3,rfl,?_⟩
     ·intro b hb;refine ⟨hb.1,.inl (hUof b hb),?_,hb.2.2.2⟩;intro i o' c' hg hm;obtain ⟨m,o,_,q2,q3,_⟩:=k1 i o' hg;rw [q3] at hm;exact hb.2.2.1 m o c' q2 hm
     ·intro id o b c hn hg hm hkp;have hm':μ id=some (b,c):=hm;have hfr:S.fresh=true:=by
       cases e:S.fresh with
       | true=>rfl
       | false=>simp [e,kept] at hkp
      have hkp':kept (.keep prs) (fbase id)=false:=by simpa [hfr,kept,Keep.keep] using hkp
      have hnt:¬ T b:=by
       intro ht;obtain ⟨n,m,o',c',q1,q2,q3⟩:=tmine b ht;have:=h.inj _ _ _ _ _ _ _ hg q2 hm' q3;subst this;exact k8 _ _ _ hg hkp' q1
      refine ⟨h.lt hg hm',.inl (show U b by rw [hU,hfr]; exact ⟨⟨h.lt hg hm',h.obj.plain hg hm' hn⟩,hnt⟩),?_,h.obj.plain hg hm' hn⟩;intro i o' c2 hg' hm2;exact hnt (by rw [hT]; exact ⟨i,o',c2,hg',hm2⟩)
    have hsb:∀ s t vs,sub ⟨prs,match S.fresh with|true=>false|false=>true,true,false⟩ st.hp 200 s t->R (aN C μ st.hp w) s vs->R (aN C0 μ0 (S.h0 x) w) t vs:=fun s t vs=>mJ hF h.obj 200 s t vs;have hh0:bO C0 μ0 (S.h0 x) S.nx0 w:=by
     refine ⟨⟨fun id o hg=>(k6 id o hg).2,?_⟩,?_,?_,fun id o hg=>(k6 id o hg).1,k4,k5,fun _ _ e=>e,Frm.refl _ _,sub_pos h ck2 k1⟩
     ·intro i o' hg;obtain ⟨m,o,_,q2,q3,hso⟩:=k1 i o' hg;obtain ⟨b,cp,z,e1,e2,e3⟩:=h.obj.obj m o q2;exact ⟨b,cp,z,q3.trans e1,e2,yL hF.le hsb (fun e=>by cases e) hso e3⟩
     ·intro i i' o1 o2 b c1 c2 g1 g2 m1 m2;obtain ⟨d1,y1,q1,ho1,e1,_⟩:=k1 i o1 g1;obtain ⟨d2,y2,q2,ho2,e2,_⟩:=k1 i' o2 g2;rw [e1] at m1;rw [e2] at m2;have:=h.inj _ _ _ _ _ _ _ ho1 ho2 m1 m2;subst this;exact k7 _ _ _ q1 q2
     ·intro i o b c hg hm;exact .inl (by show T b; rw [hT]; exact ⟨i,o,c,hg,hm⟩)
    have hgT:uY C0:=by
     refine ⟨hgc.at h.frm,fun b hb ht=>?_⟩;obtain ⟨n,m,o,c,_,q2,q3⟩:=tmine b ht;rcases h.mine _ _ _ _ q2 q3 with h1|h1
     ·exact hgc.gT b hb h1
     ·have:=hgc.gok.lt hb;omega
    refine Calls.mono (hok.does x w μ0 vs T U hUlt hgT hh0 hpre (hsb _ _ _ hsub hr)) ?_;intro e w' hret;cases e with
    | panicked c=>exact hret
    | outgrown=>exact hret
    | returned v =>
     obtain ⟨y,μ1,hpost,hh1,hR1,hkd⟩:=hret;let C1:Ctx:=dW w T (Ufresh S.fresh U) μ0 S.nx0;have hfrm:Frm T w w':=hh1.frm
     -- the caller's new names
     have nm:∀ j o,(j,o)∈S.h1 x y->∃ m,(j,m)∈l:=by
      intro j o hm;obtain ⟨o',ho'⟩:=Uq hm;obtain ⟨m,hg⟩:=Cq ck5 j (hh1.keys _ _ ho');exact ⟨m,get?_mem hg⟩
     -- numbers of the callee's that were the caller's
     have old:∀ j m,(j,m)∈l->j < S.nx0->(m,j)∈prs:=by
      intro j m hm hj;obtain ⟨m',hm'⟩:∃ m',ids[j]?=some m':=⟨ids[j],by simp [clen,hj]⟩;have:=tG (j:=0) ck6 hm';rw [aW] at this;have e:m=m':=l1 _ _ _ hm (get?_mem this);subst e;rw [<- hprs];have:=U8 (j:=0) hm'
      rwa [aW] at this
     have old':∀ j m,(m,j)∈prs->(j,m)∈l/\j < S.nx0:=by
      intro j m hm;rw [<- hprs] at hm;obtain ⟨i,rfl,hi⟩:=Hc hm;have:=tG (j:=0) ck6 hi;refine ⟨get?_mem this,?_⟩;have:=(aR.1 hi).1;omega
     obtain ⟨hp',hhp'⟩:∃ hp',hp'=Ab (zB l (flip l) (S.h1 x y)) (E6 ids st.hp):=⟨_,rfl⟩;have key:∀ n,get? hp' n=match back l n with
       | some j=>(get? (S.h1 x y) j).map (rnO l (flip l))
       | none=>get? st.hp n:=by
      intro n;rw [hhp',get?_app,get?_map ck4 nm,get?_rm];cases hb:back l n with
      | none =>
       have:eE ids n≠true:=by
        intro hm;obtain ⟨i,hi⟩:=kM (iD.1 hm);have:=tG (j:=0) ck6 hi;have:=lQ ck4 (get?_mem this);rw [hb] at this;cases this
       simp [this]
      | some j =>
       cases hg:get? (S.h1 x y) j with
       | some o=>simp [hg]
       | none =>
        simp only [eQ,hg,eH];by_cases hj:j < S.nx0
        ·have hm:=old j n (back_mem hb) hj;rw [<- hprs] at hm;obtain ⟨i,_,hi⟩:=Hc hm;have:eE ids n=true:=iD.2 (eV hi);simp [this]
        ·have:=tI ck7 _ _ (back_mem hb) (by omega);have:get? st.hp n=none:=by
          cases e:get? st.hp n with
          | none=>rfl
          | some o=>have:=h.keys _ _ e; omega
         simp [this]
     have hkey:∀ n,hget hp' n=match back l (fbase n) with
       | some j=>(hget (S.h1 x y) (cid n j)).map (rnO l (flip l))
       | none=>hget st.hp n:=by
      intro n;by_cases hn:n < FB
      ·rw [fH hn,key n];simp only [fbase,hn,if_true,cid];cases hb:back l n with
       | none=>simp only [fH hn]
       | some j =>
        have hj:=(l3 _ _ (back_mem hb)).2.2;simp only [fH hj];cases get? (S.h1 x y) j with
        | none=>rfl
        | some o=>simp [Sn]
      ·simp only [fbase,hn,if_false,cid];simp only [hget,hn,if_false];rw [key (n % FB)];cases hb:back l (n % FB) with
       | none=>rfl
       | some j =>
        have hj:=(l3 _ _ (back_mem hb)).2.2;have h3:¬ fid j (n / FB - 1) < FB:=bJ.2 (dO _ _);simp only [h3,if_false,gW _ hj,fR _ hj];cases get? (S.h1 x y) j with
        | none=>rfl
        | some o=>cases o <;> first
         | rfl
         | (simp [rnO,O4])
     obtain ⟨μ2,hμ2⟩:∃ μ2:Nat->Option (Nat×Nat),μ2=fun n=>match back l (fbase n) with|some j=>μ1 (cid n j)|none=>μ n:=⟨_,rfl⟩
     have base_fid:∀ {d i:Nat},d < FB->fbase (fid d i)=d:=by
      intro d i hd;have:¬ fid d i < FB:=bJ.2 (dO _ _);simp only [fbase,this,if_false,gW i hd]
     have base_low:∀ {d:Nat},d < FB->fbase d=d:=by intro d hd; simp [fbase,hd]
     have keep:∀ id p,μ id=some p->μ2 id=some p:=by
      intro id p e;rw [hμ2];simp only;cases hb:back l (fbase id) with
      | none=>exact e
      | some j =>
       have hm:=back_mem hb;by_cases hn:id < FB
       ·simp only [cid,hn,if_true];rw [base_low hn] at hm;by_cases hj:j < S.nx0
        ·have:=get?_of_mem ck2 (old _ _ hm hj);exact hh1.pin _ _ (k2 _ _ _ this e)
        ·have:=tI ck7 _ _ hm (by omega);have:=h.nx _ _ e hn;omega
       ·simp only [cid,hn,if_false];simp only [fbase,hn,if_false] at hm;by_cases hj:j < S.nx0
        ·have hg:=get?_of_mem ck2 (old _ _ hm hj);have he:=nJ (bJ.1 hn);exact hh1.pin _ _ (k3 _ _ (id / FB - 1) p hg (by rw [he]; exact e))
        ·have h3:=tI ck7 _ _ hm (by omega);obtain ⟨o,ho⟩:=h.fam _ _ e (bJ.1 hn);simp only [hget,hn,if_false] at ho;split at ho
         ·rename_i f' hf';have:=h.keys _ _ hf';omega
         ·cases ho
     -- what the callee could change is the caller's,and under the callee's names
     have tin:∀ n b c,back l (fbase n)=none->(∃ o,hget st.hp n=some o)->μ n=some (b,c)->¬ T b:=by
      rintro n b c hb ⟨o,ho⟩ hm ht;obtain ⟨n',m,o',c',q1,q2,q3⟩:=tmine b ht;have:=h.inj _ _ _ _ _ _ _ ho q2 hm q3;subst this;rcases q1 with ⟨a1,a2,a3⟩|⟨d,cc,i,rfl,rfl,a3⟩
      ·rw [base_low a2,lQ ck4 (old' _ _ a3).1] at hb; cases hb
      ·rw [base_fid (p3 _ _ a3).2.2,lQ ck4 (old' _ _ a3).1] at hb; cases hb
     have split:∀ n o b c,hget hp' n=some o->μ2 n=some (b,c) ->
       (∃ j o1,back l (fbase n)=some j/\hget (S.h1 x y) (cid n j)=some o1/\o=rnO l (flip l) o1/\μ1 (cid n j)=some (b,c))\/(back l (fbase n)=none/\hget st.hp n=some o/\μ n=some (b,c)):=by
      intro n o b c hg hm;rw [hkey] at hg;rw [hμ2] at hm;simp only at hm;cases hb:back l (fbase n) with
      | none=>rw [hb] at hg hm; exact .inr ⟨rfl,hg,hm⟩
      | some j =>
       rw [hb] at hg hm;simp only [aG] at hg;obtain ⟨o1,g1,g2⟩:=hg;exact .inl ⟨j,o1,rfl,g1,g2.symm,hm⟩
     have m1:∀ n o b c,hget (S.h1 x y) n=some o->μ1 n=some (b,c)->T b\/w.heap.size<=b:=fun n o b c g e=>hh1.mine n o b c g e;have hE:(aN C μ st.hp w).Le (aN C μ2 hp' w'):=by
      have same:∀ b,(aN C μ st.hp w).U b->w'.heap[b]?=w.heap[b]?:=by
       intro b hb;refine hfrm.block b hb.1 ?_;intro ht;obtain ⟨n',m,o',c',q1,q2,q3⟩:=tmine b ht;exact hb.2.2.1 _ _ _ q2 q3
      refine ⟨⟨⟨?_,same⟩,keep⟩,hkd,fun _ _ _ e=>e⟩
      ·intro b hb;refine ⟨bX hb.1 hfrm.size,hb.2.1,?_,fun ds e=>hb.2.2.2 ds ((same b hb).symm.trans e)⟩;intro n o c hg hm;rcases split n o b c hg hm with ⟨j,o1,_,g1,_,g3⟩|⟨_,g1,g2⟩
       ·rcases m1 _ _ _ _ g1 g3 with h1|h1
        ·obtain ⟨n',m,o',c',q1,q2,q3⟩:=tmine b h1;exact hb.2.2.1 _ _ _ q2 q3
        ·have:=hb.1; omega
       ·exact hb.2.2.1 _ _ _ g1 g2
     have hRn:RnE l (aN C1 μ1 (S.h1 x y) w') (aN C μ2 hp' w'):=by
      have nameOf:∀ j,j < S.nx1->∃ m,get? l j=some m/\(j,m)∈l:=fun j hj=>by
       obtain ⟨m,hg⟩:=Cq ck5 j hj;exact ⟨m,hg,get?_mem hg⟩
      refine ⟨?_,?_,?_,rfl,fun _ _ _ e=>e.elim⟩
      ·intro j p hj e;obtain ⟨m,hg,hm⟩:=nameOf j (hh1.nx _ _ e hj);have hml:=(l3 _ _ hm).2.1;show μ2 _=_;rw [hg,hμ2];simp only [bZ,base_low hml,lQ ck4 hm,cid,hml,if_true];exact e
      ·intro d i p hd e;obtain ⟨o,ho⟩:=hh1.fam _ _ e (dO _ _);have h2:¬ fid d i < FB:=bJ.2 (dO _ _);have hd1:d < S.nx1:=by
        simp only [hget,h2,if_false,gW i hd,fR i hd] at ho;split at ho
        ·rename_i f' hf'; exact hh1.keys _ _ hf'
        ·cases ho
       obtain ⟨m,hg,hm⟩:=nameOf d hd1;have hml:=(l3 _ _ hm).2.1;have h3:¬ fid m i < FB:=bJ.2 (dO _ _);show μ2 _=_;rw [hg,hμ2];simp only [bZ,base_fid hml,lQ ck4 hm,cid,h3,if_false,fR i hml];exact e
      ·rintro b ⟨hb1,hb2,hb3,hb4⟩;refine ⟨hb1,?_,?_,hb4⟩
       ·rcases hb2 with hh|hh|hh
        ·obtain ⟨hfr,hu⟩:=hh;rw [hU,hfr] at hu;exact hu.2.1
        ·obtain ⟨n',m,o',c',q1,q2,q3⟩:=tmine b hh;rcases h.mine _ _ _ _ q2 q3 with h1|h1
         ·exact .inr (.inl h1)
         ·exact .inr (.inr h1)
        ·exact .inr (.inr (bC h.frm.size hh))
       ·intro n o c hg hm;rcases split n o b c hg hm with ⟨j,o1,_,g1,_,g3⟩|⟨g0,g1,g2⟩
        ·exact hb3 _ _ _ g1 g3
        ·rcases hb2 with hh|hh|hh
         ·obtain ⟨hfr,hu⟩:=hh;rw [hU,hfr] at hu;exact hu.2.2.1 _ _ _ g1 g2
         ·exact tin n b c g0 ⟨_,g1⟩ g2 hh
         ·have:=h.lt g1 g2;have hh':w.heap.size<=b:=hh;omega
     refine ⟨_,_,μ2,hK y hpost,rfl,?_,?_,?_⟩
     ·rw [<- hhp']; exact hE
     ·show bO C μ2 (Ab (zB l (flip l) (S.h1 x y)) (E6 ids st.hp)) nx' w';rw [<- hhp'];refine ⟨⟨?_,?_⟩,?_,?_,?_,?_,?_,?_,?_,?_⟩
      ·intro id o hg;rw [key] at hg;cases hb:back l id with
       | none=>rw [hb] at hg; exact h.obj.keys _ _ hg
       | some j=>exact (l3 _ _ (back_mem hb)).2.1
      ·intro n o hg;have hg':=hg;rw [hkey] at hg;cases hb:back l (fbase n) with
       | none =>
        rw [hb] at hg;obtain ⟨b,c,z,e1,e2,e3⟩:=h.obj.obj n o hg;have e1':μ n=some (b,c):=e1;refine ⟨b,c,z,keep _ _ e1',?_,e3.mono hE⟩;exact (hfrm.block b (h.lt hg e1') (tin n b c hb ⟨_,hg⟩ e1')).trans e2
       | some j =>
        rw [hb] at hg;simp only [aG] at hg;obtain ⟨o1,g1,rfl⟩:=hg;obtain ⟨b,c,z,e1,e2,e3⟩:=hh1.obj.obj _ o1 g1;refine ⟨b,c,z,?_,e2,Zw hRn e3⟩;show μ2 n=_;rw [hμ2];simp only [hb];exact e1
      ·intro n n' o1 o2 b c1 c2 g1 g2 e1 e2;rcases split n o1 b c1 g1 e1 with ⟨j,x1,a0,a1,a2,a3⟩|⟨a0,a1,a2⟩ <;> rcases split n' o2 b c2 g2 e2 with ⟨j',x2,b0,b1,b2,b3⟩|⟨b0,b1,b2⟩
       ·have heq:=hh1.inj _ _ _ _ _ _ _ a1 b1 a3 b3;have hj:=(l3 _ _ (back_mem a0)).2.2;have hj':=(l3 _ _ (back_mem b0)).2.2;by_cases hn:n < FB
        ·by_cases hn':n' < FB
         ·simp only [cid,hn,hn',if_true] at heq;subst heq;rw [base_low hn] at a0;rw [base_low hn'] at b0;exact l1 _ _ _ (back_mem a0) (back_mem b0)
         ·simp only [cid,hn,hn',if_true,if_false] at heq;have:=dO j' (n' / FB - 1);omega
        ·by_cases hn':n' < FB
         ·simp only [cid,hn,hn',if_true,if_false] at heq;have:=dO j (n / FB - 1);omega
         ·simp only [cid,hn,hn',if_false] at heq;obtain ⟨rfl,hi⟩:=Lw hj hj' heq;have hbe:=l1 _ _ _ (back_mem a0) (back_mem b0);simp only [fbase,hn,hn',if_false] at hbe;rw [<- nJ (bJ.1 hn),<- nJ (bJ.1 hn'),hbe,hi]
       ·exfalso;rcases m1 _ _ _ _ a1 a3 with hh|hh
        ·exact tin n' b c2 b0 ⟨_,b1⟩ b2 hh
        ·have:=h.lt b1 b2; omega
       ·exfalso;rcases m1 _ _ _ _ b1 b3 with hh|hh
        ·exact tin n b c1 a0 ⟨_,a1⟩ a2 hh
        ·have:=h.lt a1 a2; omega
       ·exact h.inj _ _ _ _ _ _ _ a1 b1 a2 b2
      ·intro n o b c g e;rcases split n o b c g e with ⟨j,x1,a0,a1,a2,a3⟩|⟨a0,a1,a2⟩
       ·rcases m1 _ _ _ _ a1 a3 with hh|hh
        ·obtain ⟨n',m,o',c',q1,q2,q3⟩:=tmine b hh;exact h.mine _ _ _ _ q2 q3
        ·exact .inr (bC h.frm.size hh)
       ·exact h.mine _ _ _ _ a1 a2
      ·intro id o hg;rw [key] at hg;cases hb:back l id with
       | none=>rw [hb] at hg; have:=h.keys _ _ hg; omega
       | some j=>exact (l3 _ _ (back_mem hb)).1
      ·intro id p e hlt;rw [hμ2] at e;simp only [base_low hlt] at e;cases hb:back l id with
       | none=>rw [hb] at e; have:=h.nx _ _ e hlt; omega
       | some j=>exact (l3 _ _ (back_mem hb)).1
      ·intro id p e hge;rw [hμ2] at e;simp only at e;rw [hkey];cases hb:back l (fbase id) with
       | none=>rw [hb] at e; exact h.fam _ _ e hge
       | some j =>
        rw [hb] at e;have hn:¬ id < FB:=bJ.2 hge;simp only [cid,hn,if_false] at e ⊢;obtain ⟨o,ho⟩:=hh1.fam _ _ e (dO _ _);exact ⟨rnO l (flip l) o,by simp [ho]⟩
      ·exact fun id p e=>keep _ _ (h.pin id p e)
      ·refine h.frm.trans' hfrm ?_;intro i hi;obtain ⟨n',m,o',c',q1,q2,q3⟩:=tmine i hi;rcases h.mine _ _ _ _ q2 q3 with h1|h1
       ·exact .inl h1
       ·exact .inr h1
      ·intro n p q e hge g;obtain ⟨pb,pc⟩:=p;rcases split n _ pb pc g e with ⟨j,o1,a0,a1,a2,a3⟩|⟨a0,a1,a2⟩
       ·have hn:¬ n < FB:=bJ.2 hge;have hj:=(l3 _ _ (back_mem a0)).2.2;have ho1:o1=.obj q:=by
         cases o1 <;> simp only [rnO] at a2 <;> cases a2;rfl
        subst ho1;simp only [cid,hn,if_false] at a1 a3;have:=hh1.pos _ _ _ a3 (dO _ _) a1;rw [fR _ hj] at this;exact this
       ·exact h.pos _ _ _ a2 hge a1
     ·show R (aN C μ2 (Ab (zB l (flip l) (S.h1 x y)) (E6 ids st.hp)) w') _ _;rw [<- hhp'];exact Ps hRn hR1
 ·exact he.elim
end
end Go.Eng
end
section
namespace Go.Eng
open Go Go.RowKit
universe u
def mget {V:Type u}:List (cC×V×Nat)->cC->Option (V×Nat)
 | [],_=>none
 | x::r,k=>if x.1=k then some x.2 else mget r k
def mput {V:Type u}:List (cC×V×Nat)->cC->V->List (cC×V×Nat)
 | [],_,_=>[]
 | x::r,k,v=>if x.1=k then (k,v,x.2.2)::r else x::mput r k v
def mdel {V:Type u}:List (cC×V×Nat)->cC->List (cC×V×Nat)
 | [],_=>[]
 | x::r,k=>if x.1=k then r else x::mdel r k
def mset {V:Type u}:List (cC×V×Nat)->Nat->V->List (cC×V×Nat)
 | [],_,_=>[]
 | x::r,t,v=>if x.2.2=t then (x.1,v,t)::r else x::mset r t v
section
variable {P:Program} {w:World}
theorem parts2 {e:TypeId} {k:IntKind} (h1:P.underlying e=some (.int k)) (a b:Int) (j:Nat) (hj:j < 2) :
  (part e #[Value.int .i64 a,Value.int .i64 b] (j * 1)).run P w=.ok (if j=0 then .int .i64 a else .int .i64 b) w:=by
 have:j=0\/j=1:=by omega
 rcases this with rfl|rfl <;> simp [part,isAgg,aP w h1]
theorem tY {kk:KP} {t:TypeId} {pre post:List Value} {i:Nat} (hi:pre.length=i) (ht:(P.underlying t=some .string)\/∃ k,P.underlying t=some (.int k)):(part t (pre++kk.val::post).toArray i).run P w=.ok kk.val w:=by
 rcases ht with ht|⟨k,ht⟩ <;> simp [part,isAgg,aP w ht,<- hi]
theorem tX {x:KP} {r:List KP} {k:KPK} {ks:List KPK} (h:(x::r).map KP.kind=k::ks):x.kind=k/\r.map KP.kind=ks:=by simpa using h
theorem Of (em:Bool) (n:Nat):∀ (fs:List Field) (i:Nat) (ks:List KPK) (l:List KP) (pre:List Value),Bp P i fs=some ks->pre.length=i->l.map KP.kind=ks ->
  (forIn fs PUnit.unit fun f (_ : PUnit) => (if f.name ≠ "_" then do
    let v <- part f.type (pre++l.map KP.val).toArray f.offset
    Instr.checkKey em (n+1) f.type v
    pure (ForInStep.yield PUnit.unit)
   else pure (ForInStep.yield PUnit.unit):Sem (ForInStep PUnit))).run P w=.ok PUnit.unit w:=by
 intro fs;induction fs with
 | nil=>intro i ks l pre _ _ _; simp
 | cons f fs ih =>
  intro i ks l pre hc hi hl;simp only [Bp] at hc;cases hb : (f.name != "_" && Nat.beq f.offset i) with
  | false=>simp [hb] at hc
  | true =>
   simp only [hb] at hc;obtain ⟨hn, ho⟩ := Bool.and_eq_true_iff.1 hb;have hn' : f.name ≠ "_" := by simpa using hn
   have ho':f.offset=i:=nbeq ho;obtain ⟨k,r,hr,rfl,ht,hck⟩:∃ k r,Bp P (i+1) fs=some r/\ks=k::r/\((P.underlying f.type=some .string)\/∃ k,P.underlying f.type=some (.int k))/\∀ x:KP,x.kind=k->(Instr.checkKey em (n+1) f.type x.val).run P w=.ok () w:=by
    split at hc
    ·rename_i ht;obtain ⟨r,hr,rfl⟩:=aG.1 hc;refine ⟨_,r,hr,rfl,.inl ht,fun x hx=>?_⟩;cases x <;> simp [KP.kind] at hx;simp [Instr.checkKey,aP w ht,KP.val]
    ·rename_i q ht;obtain ⟨r,hr,rfl⟩:=aG.1 hc;refine ⟨_,r,hr,rfl,.inr ⟨q,ht⟩,fun x hx=>?_⟩;cases x <;> simp [KP.kind] at hx;simp [Instr.checkKey,aP w ht,KP.val]
    ·cases hc
   cases l with
   | nil=>simp at hl
   | cons x l =>
    obtain ⟨hk,hl'⟩:=tX hl;have hp:=tY (P:=P) (w:=w) (kk:=x) (post:=l.map KP.val) hi ht;have:=ih (i+1) r l (pre++[x.val]) hr (by simp [hi]) hl';simp only [cP,hP] at this;rw [List.forIn_cons];simp only [bL,ho',ne_eq,hn',not_false_eq_true,if_true,Sem.run_bind,hp,Result.andThen_ok,hck x hk,Sem.run_pure];exact this
theorem Yw (n:Nat):∀ (fs:List Field) (i:Nat) (ks:List KPK) (l l':List KP) (pre pre':List Value),Bp P i fs=some ks->pre.length=i->pre'.length=i->l.map KP.kind=ks->l'.map KP.kind=ks ->
  (Op.eqFields (n+1) (pre++l.map KP.val).toArray (pre'++l'.map KP.val).toArray fs).run P w=.ok (decide (l=l')) w:=by
 intro fs;induction fs with
 | nil =>
  intro i ks l l' pre pre' hc _ _ hl hl';simp only [Bp,aJ] at hc;subst hc;have e1:l=[]:=by simpa using hl
  have e2:l'=[]:=by simpa using hl'
  subst e1 e2;simp [Op.eqFields]
 | cons f fs ih =>
  intro i ks l l' pre pre' hc hi hi' hl hl';simp only [Bp] at hc;cases hb : (f.name != "_" && Nat.beq f.offset i) with
  | false=>simp [hb] at hc
  | true =>
   simp only [hb] at hc;obtain ⟨hn, ho⟩ := Bool.and_eq_true_iff.1 hb;have hn' : f.name ≠ "_" := by simpa using hn
   have ho':f.offset=i:=nbeq ho;obtain ⟨k,r,hr,rfl,ht,hck⟩:∃ k r,Bp P (i+1) fs=some r/\ks=k::r/\((P.underlying f.type=some .string)\/∃ k,P.underlying f.type=some (.int k))/\∀ x y:KP,x.kind=k->y.kind=k->(Op.equalIn (n+1) f.type x.val y.val).run P w=.ok (decide (x=y)) w:=by
    split at hc
    ·rename_i ht;obtain ⟨r,hr,rfl⟩:=aG.1 hc;refine ⟨_,r,hr,rfl,.inl ht,fun x y hx hy=>?_⟩;cases x <;> simp [KP.kind] at hx;cases y <;> simp [KP.kind] at hy;simp only [Op.equalIn,Sem.run_bind,aP w ht,KP.val,Result.andThen_ok,Sem.run_pure,KP.s.injEq];congr 1;rw [cA,MapKept.bytes_beq];simp
    ·rename_i q ht;obtain ⟨r,hr,rfl⟩:=aG.1 hc;refine ⟨_,r,hr,rfl,.inr ⟨q,ht⟩,fun x y hx hy=>?_⟩;cases x <;> simp [KP.kind] at hx;cases y <;> simp [KP.kind] at hy;subst hx hy;have:∀ a b:Int,(a == b)=decide (a=b):=fun a b=>by rw [cA]; simp
     simp [Op.equalIn,aP w ht,KP.val,this]
    ·cases hc
   cases l with
   | nil=>simp at hl
   | cons x l =>
    cases l' with
    | nil=>simp at hl'
    | cons y l' =>
     obtain ⟨hk,hl2⟩:=tX hl;obtain ⟨hk',hl2'⟩:=tX hl';have hp:=tY (P:=P) (w:=w) (kk:=x) (post:=l.map KP.val) hi ht;have hp':=tY (P:=P) (w:=w) (kk:=y) (post:=l'.map KP.val) hi' ht;have:=ih (i+1) r l l' (pre++[x.val]) (pre'++[y.val]) hr (by simp [hi]) (by simp [hi']) hl2 hl2';simp only [cP,hP] at this;simp only [Op.eqFields,bL,ho',ne_eq,hn',not_false_eq_true,if_true,Sem.run_bind,hp,hp',Result.andThen_ok,hck x y hk hk'];by_cases e:x=y
     ·subst e;simpa using this
     ·simp [e]
theorem tF {l:List KP} {a b:List KPK} (h:l.map KP.kind=a++b):∃ x y,l=x++y/\x.map KP.kind=a/\y.map KP.kind=b/\x.length=a.length:=by
 refine ⟨l.take a.length,l.drop a.length,(dQ _ _).symm,?_,?_,?_⟩
 ·rw [List.map_take,h]; simp
 ·rw [List.map_drop,h]; simp
 ·have:=congrArg List.length h;simp at this;simp;omega
theorem xZ {t:TypeId} {fs:Array Field} {inf:TypeInfo} (ht:P.underlying t=some (.struct fs)) (hi:P.info? t=some inf) {pre mid post:List Value} {i:Nat} (hp:pre.length=i) (hm:mid.length=inf.size) :
  (part t (pre++(mid++post)).toArray i).run P w=.ok (.agg mid.toArray) w:=by
 simp [part,isAgg,aP w ht,cJ w hi];rw [<- hp,<- hm];simp
theorem Q9 (em:Bool) (n:Nat):∀ (fs:List Field) (i:Nat) (ks:List KPK) (l:List KP) (pre:List Value),cKF P i fs=some ks->pre.length=i->l.map KP.kind=ks ->
  (forIn fs PUnit.unit fun f (_ : PUnit) => (if f.name ≠ "_" then do
    let v <- part f.type (pre++l.map KP.val).toArray f.offset
    Instr.checkKey em (n+2) f.type v
    pure (ForInStep.yield PUnit.unit)
   else pure (ForInStep.yield PUnit.unit):Sem (ForInStep PUnit))).run P w=.ok PUnit.unit w:=by
 intro fs;induction fs with
 | nil=>intro i ks l pre _ _ _; simp
 | cons f fs ih =>
  intro i ks l pre hc hi hl;simp only [cKF] at hc;cases hb : (f.name != "_" && Nat.beq f.offset i) with
  | false=>simp [hb] at hc
  | true =>
   simp only [hb] at hc;obtain ⟨hn, ho⟩ := Bool.and_eq_true_iff.1 hb;have hn' : f.name ≠ "_" := by simpa using hn
   have ho':f.offset=i:=nbeq ho;have one:∀ (k:KPK) (r:List KPK),cKF P (i+1) fs=some r->ks=k::r->((P.underlying f.type=some .string)\/∃ k,P.underlying f.type=some (.int k))->(∀ x:KP,x.kind=k->(Instr.checkKey em (n+2) f.type x.val).run P w=.ok () w) ->
     (forIn (f :: fs) PUnit.unit fun f (_ : PUnit) => (if f.name ≠ "_" then do
      let v <- part f.type (pre++l.map KP.val).toArray f.offset
      Instr.checkKey em (n+2) f.type v
      pure (ForInStep.yield PUnit.unit)
     else pure (ForInStep.yield PUnit.unit):Sem (ForInStep PUnit))).run P w=.ok PUnit.unit w:=by
    rintro k r hr rfl ht hck;cases l with
    | nil=>simp at hl
    | cons x l =>
     obtain ⟨hk,hl'⟩:=tX hl;have hp:=tY (P:=P) (w:=w) (kk:=x) (post:=l.map KP.val) hi ht;have:=ih (i+1) r l (pre++[x.val]) hr (by simp [hi]) hl';simp only [cP,hP] at this;rw [List.forIn_cons];simp only [bL,ho',ne_eq,hn',not_false_eq_true,if_true,Sem.run_bind,hp,Result.andThen_ok,hck x hk,Sem.run_pure];exact this
   split at hc
   ·rename_i ht;obtain ⟨r,hr,rfl⟩:=aG.1 hc;refine one _ r hr rfl (.inl ht) fun x hx=>?_;cases x <;> simp [KP.kind] at hx;simp [Instr.checkKey,aP w ht,KP.val]
   ·rename_i q ht;obtain ⟨r,hr,rfl⟩:=aG.1 hc;refine one _ r hr rfl (.inr ⟨q,ht⟩) fun x hx=>?_;cases x <;> simp [KP.kind] at hx;simp [Instr.checkKey,aP w ht,KP.val]
   ·rename_i fs2 ht;split at hc
    ·rename_i ks2 inf h0 hinf hst;split at hc
     ·rename_i hsz;obtain ⟨r,hr,rfl⟩:=aG.1 hc;obtain ⟨x,y,rfl,hx,hy,hxl⟩:=tF hl;have hs:=nbeq hsz;have hp:=xZ (P:=P) (w:=w) ht hinf (pre:=pre) (mid:=x.map KP.val) (post:=y.map KP.val) hi (by simp [hxl,hs]);have h2:=Of (P:=P) (w:=w) em n fs2.toList 0 ks2 x [] h0 rfl hx;simp only [fZ] at h2;have h3:(Instr.checkKey em (n+2) f.type (.agg (x.map KP.val).toArray)).run P w=.ok () w:=by
       rw [Instr.checkKey];simp only [Sem.run_bind,aP w ht,Result.andThen_ok];rw [<- Array.forIn_toList];rw [h2];rfl
      have:=ih (i+ks2.length) r y (pre++x.map KP.val) hr (by simp [hi,hxl]) hy;simp only [cP] at this;rw [List.forIn_cons];simp only [eZ,ho',ne_eq,hn',not_false_eq_true,if_true,Sem.run_bind,hp,Result.andThen_ok,h3,Sem.run_pure];exact this
     ·cases hc
    ·cases hc
   ·cases hc
theorem aAw (n:Nat):∀ (fs:List Field) (i:Nat) (ks:List KPK) (l l':List KP) (pre pre':List Value),cKF P i fs=some ks->pre.length=i->pre'.length=i->l.map KP.kind=ks->l'.map KP.kind=ks ->
  (Op.eqFields (n+2) (pre++l.map KP.val).toArray (pre'++l'.map KP.val).toArray fs).run P w=.ok (decide (l=l')) w:=by
 intro fs;induction fs with
 | nil =>
  intro i ks l l' pre pre' hc _ _ hl hl';simp only [cKF,aJ] at hc;subst hc;have e1:l=[]:=by simpa using hl
  have e2:l'=[]:=by simpa using hl'
  subst e1 e2;simp [Op.eqFields]
 | cons f fs ih =>
  intro i ks l l' pre pre' hc hi hi' hl hl';simp only [cKF] at hc;cases hb : (f.name != "_" && Nat.beq f.offset i) with
  | false=>simp [hb] at hc
  | true =>
   simp only [hb] at hc;obtain ⟨hn, ho⟩ := Bool.and_eq_true_iff.1 hb;have hn' : f.name ≠ "_" := by simpa using hn
   have ho':f.offset=i:=nbeq ho;have one:∀ (k:KPK) (r:List KPK),cKF P (i+1) fs=some r->ks=k::r->((P.underlying f.type=some .string)\/∃ k,P.underlying f.type=some (.int k))->(∀ x y:KP,x.kind=k->y.kind=k->(Op.equalIn (n+2) f.type x.val y.val).run P w=.ok (decide (x=y)) w) ->
     (Op.eqFields (n+2) (pre++l.map KP.val).toArray (pre'++l'.map KP.val).toArray (f::fs)).run P w=.ok (decide (l=l')) w:=by
    rintro k r hr rfl ht hck;cases l with
    | nil=>simp at hl
    | cons x l =>
     cases l' with
     | nil=>simp at hl'
     | cons y l' =>
      obtain ⟨hk,hl2⟩:=tX hl;obtain ⟨hk',hl2'⟩:=tX hl';have hp:=tY (P:=P) (w:=w) (kk:=x) (post:=l.map KP.val) hi ht;have hp':=tY (P:=P) (w:=w) (kk:=y) (post:=l'.map KP.val) hi' ht;have:=ih (i+1) r l l' (pre++[x.val]) (pre'++[y.val]) hr (by simp [hi]) (by simp [hi']) hl2 hl2';simp only [cP,hP] at this;simp only [Op.eqFields,bL,ho',ne_eq,hn',not_false_eq_true,if_true,Sem.run_bind,hp,hp',Result.andThen_ok,hck x y hk hk'];by_cases e:x=y
      ·subst e;simpa using this
      ·simp [e]
   split at hc
   ·rename_i ht;obtain ⟨r,hr,rfl⟩:=aG.1 hc;refine one _ r hr rfl (.inl ht) fun x y hx hy=>?_;cases x <;> simp [KP.kind] at hx;cases y <;> simp [KP.kind] at hy;simp only [Op.equalIn,Sem.run_bind,aP w ht,KP.val,Result.andThen_ok,Sem.run_pure,KP.s.injEq];congr 1;rw [cA,MapKept.bytes_beq];simp
   ·rename_i q ht;obtain ⟨r,hr,rfl⟩:=aG.1 hc;refine one _ r hr rfl (.inr ⟨q,ht⟩) fun x y hx hy=>?_;cases x <;> simp [KP.kind] at hx;cases y <;> simp [KP.kind] at hy;subst hx hy;have:∀ a b:Int,(a == b)=decide (a=b):=fun a b=>by rw [cA]; simp
    simp [Op.equalIn,aP w ht,KP.val,this]
   ·rename_i fs2 ht;split at hc
    ·rename_i ks2 inf h0 hinf hst;split at hc
     ·rename_i hsz;obtain ⟨r,hr,rfl⟩:=aG.1 hc;obtain ⟨x,y,rfl,hx,hy,hxl⟩:=tF hl;obtain ⟨x',y',rfl,hx',hy',hxl'⟩:=tF hl';have hs:=nbeq hsz;have hp:=xZ (P:=P) (w:=w) ht hinf (pre:=pre) (mid:=x.map KP.val) (post:=y.map KP.val) hi (by simp [hxl,hs]);have hp':=xZ (P:=P) (w:=w) ht hinf (pre:=pre') (mid:=x'.map KP.val) (post:=y'.map KP.val) hi' (by simp [hxl',hs]);have h2:=Yw (P:=P) (w:=w) n fs2.toList 0 ks2 x x' [] [] h0 rfl rfl hx hx';simp only [fZ] at h2;have hfo:P.fieldsOf f.type=fs2:=by simp [Program.fieldsOf,ht]
      have h3:(Op.equalIn (n+2) f.type (.agg (x.map KP.val).toArray) (.agg (x'.map KP.val).toArray)).run P w=.ok (decide (x=x')) w:=by
       rw [show n+2=(n+1)+1 from rfl,run_equalIn_struct w (n+1) f.type _ _ (by rw [hfo]; exact ht) hst,hfo];exact h2
      have:=ih (i+ks2.length) r y y' (pre++x.map KP.val) (pre'++x'.map KP.val) hr (by simp [hi,hxl]) (by simp [hi',hxl']) hy hy';simp only [cP] at this;simp only [Op.eqFields,eZ,ho',ne_eq,hn',not_false_eq_true,if_true,Sem.run_bind,hp,hp',Result.andThen_ok,h3];by_cases e:x=x'
      ·subst e;simpa using this
      ·have e2:¬ (x++y=x'++y'):=fun e2=>e (List.append_inj_left e2 (by omega));simp [e,e2]
     ·cases hc
    ·cases hc
   ·cases hc
theorem Jp {kt:TypeId} {kk:KK} (hk:qZ P kt=some kk) {x:cC} (hx:x.kind=kk) (em:Bool) (n:Nat):(Instr.checkKey em (n+3) kt x.val).run P w=.ok () w:=by
 unfold qZ at hk;split at hk
 ·rename_i h; cases hk;cases x <;> simp [cC.kind] at hx;simp [Instr.checkKey,aP w h,cC.val]
 ·rename_i k h; cases hk;cases x <;> simp [cC.kind] at hx;simp [Instr.checkKey,aP w h,cC.val]
 ·rename_i e h;split at hk
  ·rename_i i h1 h2;split at hk
   ·rename_i hsz;cases hk;cases x <;> simp [cC.kind] at hx;rename_i a b;have sz:=cJ w h2;rw [hsz] at sz;have p0:=parts2 (w:=w) h1 a b 0 (by omega);have p1:=parts2 (w:=w) h1 a b 1 (by omega);rw [Instr.checkKey];simp only [cC.val,Sem.run_bind,aP w h,Result.andThen_ok];simp only [Std.Legacy.Range.forIn_eq_forIn_range',Std.Legacy.Range.size];simp [List.range',sz,p0,p1,Instr.checkKey,aP w h1]
   ·cases hk
  ·cases hk
 ·rename_i fs h;split at hk
  ·obtain ⟨ks,hks,rfl⟩:=aG.1 hk;cases x <;> simp [cC.kind] at hx;rename_i l;have:=Q9 (P:=P) (w:=w) em n fs.toList 0 ks l [] hks rfl hx;simp only [fZ] at this;rw [Instr.checkKey];simp only [cC.val,Sem.run_bind,aP w h,Result.andThen_ok];rw [<- Array.forIn_toList];rw [this];rfl
  ·cases hk
 ·cases hk
theorem pD {kt:TypeId} {kk:KK} (hk:qZ P kt=some kk) {x:cC} (hx:x.kind=kk) (em:Bool):(Instr.checkKey em 10000 kt x.val).run P w=.ok () w:=Jp hk hx em 9997
theorem vZ (a b:List UInt8):((⟨a.toArray⟩:ByteArray) == ⟨b.toArray⟩)=decide (a=b):=by
 rw [cA,MapKept.bytes_beq];simp
theorem El (a b:Int):(a == b)=decide (a=b):=by
 rw [cA]; simp
theorem Jq {kt:TypeId} {kk:KK} (hk:qZ P kt=some kk) {x y:cC} (hx:x.kind=kk) (hy:y.kind=kk) (n:Nat):(Op.equalIn (n+3) kt x.val y.val).run P w=.ok (decide (x=y)) w:=by
 unfold qZ at hk;split at hk
 ·rename_i h; cases hk;cases x <;> simp [cC.kind] at hx;cases y <;> simp [cC.kind] at hy;rename_i a b;rw [show n+3=(n+2)+1 from rfl];generalize n+2=m;simp only [Op.equalIn,Sem.run_bind,aP w h,cC.val,Result.andThen_ok,Sem.run_pure,vZ,cC.s.injEq]
 ·rename_i k h; cases hk;cases x <;> simp [cC.kind] at hx;cases y <;> simp [cC.kind] at hy;subst hx hy;rw [show n+3=(n+2)+1 from rfl];generalize n+2=m;simp [Op.equalIn,aP w h,cC.val,El]
 ·rename_i e h;split at hk
  ·rename_i i h1 h2;split at hk
   ·rename_i hsz;cases hk;cases x <;> simp [cC.kind] at hx;cases y <;> simp [cC.kind] at hy;rename_i a b c d;have sz:=cJ w h2;rw [hsz] at sz;have p0:=parts2 (w:=w) h1 a b 0 (by omega);have p1:=parts2 (w:=w) h1 a b 1 (by omega);have q0:=parts2 (w:=w) h1 c d 0 (by omega);have q1:=parts2 (w:=w) h1 c d 1 (by omega);have hc:P.cellsOf e=1:=by simp [Program.cellsOf,h2,hsz]
    have eq1:∀ (a b:Int),(Op.equalIn (n+2) e (.int .i64 a) (.int .i64 b)).run P w=.ok (decide (a=b)) w:=by
     intro a b;rw [show n+2=(n+1)+1 from rfl];generalize n+1=m;simp [Op.equalIn,aP w h1,El]
    rw [show n+3=(n+2)+1 from rfl];simp only [cC.val];rw [run_equalIn_array w (n+2) _ _ h h2,hc];have:List.range 2=[0,1]:=rfl;rw [this];have n1:¬ ((1:Nat)=0):=by decide
    rw [if_neg n1] at p1 q1;rw [if_pos rfl] at p0 q0;have tail:(Op.eqItems (n+2) e 1 #[Value.int .i64 a,Value.int .i64 b] #[Value.int .i64 c,Value.int .i64 d] [1]).run P w=.ok (decide (b=d)) w:=by
     unfold Op.eqItems;rw [Sem.run_bind,p1,Result.andThen_ok,Sem.run_bind,q1,Result.andThen_ok,Sem.run_bind,eq1,Result.andThen_ok];by_cases e2:b=d
     ·simp [e2,Op.eqItems]
     ·simp [e2]
    unfold Op.eqItems;rw [Sem.run_bind,p0,Result.andThen_ok,Sem.run_bind,q0,Result.andThen_ok,Sem.run_bind,eq1,Result.andThen_ok];by_cases e1:a=c
    ·rw [if_neg (by simp [e1]),tail];simp [e1]
    ·rw [if_pos (by simp [e1])];simp [e1]
   ·cases hk
  ·cases hk
 ·rename_i fs h;split at hk
  ·rename_i hst;obtain ⟨ks,hks,rfl⟩:=aG.1 hk;cases x <;> simp [cC.kind] at hx;cases y <;> simp [cC.kind] at hy;rename_i l l';have:=aAw (P:=P) (w:=w) n fs.toList 0 ks l l' [] [] hks rfl rfl hx hy;simp only [fZ] at this;have hfo:P.fieldsOf kt=fs:=by simp [Program.fieldsOf,h]
   simp only [cC.val,cC.t.injEq];rw [show n+3=(n+2)+1 from rfl,run_equalIn_struct w (n+2) kt _ _ (by rw [hfo]; exact h) hst,hfo];exact this
  ·cases hk
 ·cases hk
theorem Od {kt:TypeId} {kk:KK} (hk:qZ P kt=some kk) {x y:cC} (hx:x.kind=kk) (hy:y.kind=kk):(Op.equal kt x.val y.val).run P w=.ok (decide (x=y)) w:=Jq hk hx hy 9997
theorem Oe {x:cC} (n:Nat):Instr.sameBits (n+2) x.val x.val=true:=by
 cases x with
 | t l =>
  simp only [cC.val,Instr.sameBits,beq_self_eq_true,gS];rw [fI];intro p hp;have:∀ (l:List Value) (p:Value×Value),p∈l.zip l->p.1=p.2/\p.1∈l:=by
   intro l;induction l with
   | nil=>intro p h; simp at h
   | cons a l ih =>
    intro p h;simp only [List.zip_cons_cons,aI] at h;rcases h with rfl|h
    ·exact ⟨rfl,aQ ..⟩
    ·exact ⟨(ih p h).1,aK _ (ih p h).2⟩
  obtain ⟨e1,e2⟩:=this _ p hp;obtain ⟨a,b⟩:=p;simp only at e1 e2 ⊢;subst e1;obtain ⟨x,_,rfl⟩:=bF.1 (by simpa using e2);cases x <;> simp [KP.val,Instr.sameBits,vZ]
 | _=>simp [cC.val,Instr.sameBits,vZ]
theorem Ch (x:cC):(Instr.keyThatStays x.val x.val).run P w=.ok x.val w:=by
 have:Instr.sameBits 10000 x.val x.val=true:=Oe 9998;simp [Instr.keyThatStays,this]
def fnd {V:Type} (k:cC):List (cC×V×Nat)->List MapEntry->Nat->Option (Nat×Value)
 | x::r,e::t,i=>if x.1=k then some (i,e.val) else fnd k r t (i+1)
 | _,_,_=>none
theorem sW {kt:TypeId} {kk:KK} (hk:qZ P kt=some kk) {k:cC} (hkd:k.kind=kk) {E:Env} {V:Type} {ev:V->SV} :
  ∀ (l:List (cC×V×Nat)) (es:List MapEntry) (i:Nat),jH E ev l es->(∀ x∈l,x.1.kind=kk)->(Instr.findAsking kt k.val es i).run P w=.ok (fnd k l es i) w:=by
 intro l;induction l with
 | nil=>intro es i h _; simp only [jH] at h; subst h; simp [Instr.findAsking,fnd]
 | cons x r ih =>
  intro es i h hkk;obtain ⟨e,t,rfl,h2,h3,h4,h5⟩:=h;have:=Od (w:=w) hk hkd (hkk x (aQ ..));rw [<- h2] at this;unfold Instr.findAsking;rw [Sem.run_bind,this,Result.andThen_ok];by_cases e1:k=x.1
  ·simp [fnd,e1]
  ·have e2:¬ x.1=k:=fun e=>e1 e.symm;rw [if_neg (by simp [e1]),ih t (i+1) h5 (fun y hy=>hkk y (aK _ hy))];simp [fnd,e2]
theorem zA {d:TypeDesc} {k:cC} (hd:(d=.string/\k.kind=.s)\/∃ q,d=.int q/\k.kind=.i q) {E:Env} {V:Type} {ev:V->SV} :
  ∀ (l:List (cC×V×Nat)) (es:List MapEntry) (i:Nat),jH E ev l es->(∀ x∈l,x.1.kind=k.kind)->Instr.findNow d k.val es i=some (fnd k l es i):=by
 intro l;induction l with
 | nil=>intro es i h _; simp only [jH] at h; subst h; simp [Instr.findNow,fnd]
 | cons x r ih =>
  intro es i h hkk;obtain ⟨e,t,rfl,h2,h3,h4,h5⟩:=h;have hsame:Instr.sameNow d k.val e.key=some (decide (k=x.1)):=by
   rw [h2];have hx:=hkk x (aQ ..);rcases hd with ⟨rfl,hs⟩|⟨q,rfl,hs⟩ <;> rw [hs] at hx <;> cases k <;> simp [cC.kind] at hs <;> (generalize x.1=y at hx) <;> cases y <;> simp [cC.kind] at hx
   ·simp [Instr.sameNow,cC.val,vZ]
   ·subst hs hx;simp [Instr.sameNow,cC.val,El]
  unfold Instr.findNow;rw [hsame];by_cases e1:k=x.1
  ·simp [fnd,e1]
  ·have e2:¬ x.1=k:=fun e=>e1 e.symm;simp only [e1,decide_false];rw [ih t (i+1) h5 (fun y hy=>hkk y (aK _ hy))];simp [fnd,e2]
theorem sX {kt:TypeId} {kk:KK} (hk:qZ P kt=some kk) {k:cC} (hkd:k.kind=kk) {E:Env} {V:Type} {ev:V->SV} {l:List (cC×V×Nat)} {es:List MapEntry} (h:jH E ev l es) (hkk:∀ x∈l,x.1.kind=kk) :
  (Instr.findKey kt k.val es).run P w=.ok (fnd k l es 0) w:=by
 have hk0:=hk;unfold qZ at hk;split at hk
 ·rename_i hd;cases hk;have:=zA (.inl ⟨rfl,hkd⟩) l es 0 h (by rw [hkd]; exact hkk);simp [Instr.findKey,aP w hd,this]
 ·rename_i q hd;cases hk;have:=zA (.inr ⟨q,rfl,hkd⟩) l es 0 h (by rw [hkd]; exact hkk);simp [Instr.findKey,aP w hd,this]
 ·rename_i e hd;rw [run_findKey_eq w (by rw [hd])];exact sW hk0 hkd l es 0 h hkk
 ·rename_i fs hd;rw [run_findKey_eq w (by rw [hd])];exact sW hk0 hkd l es 0 h hkk
 ·cases hk
theorem wH {E:Env} {V:Type} {ev:V->SV} {k:cC}:∀ (l:List (cC×V×Nat)) (es:List MapEntry) (i:Nat),jH E ev l es ->
  (mget l k=none/\fnd k l es i=none) \/
  ∃ v t j e,mget l k=some (v,t)/\fnd k l es i=some (i+j,e.val)/\es[j]?=some e/\e.key=k.val/\R E (ev v) [e.val]/\e.born=t/\jH E ev (mdel l k) (es.eraseIdx j) /\
   ∀ (v':V) (u:Value),R E (ev v') [u]->jH E ev (mput l k v') (es.modify j fun e=>{ e with key:=k.val,val:=u }):=by
 intro l;induction l with
 | nil=>intro es i h; simp only [jH] at h; subst h; exact .inl ⟨rfl,rfl⟩
 | cons x r ih =>
  intro es i h;obtain ⟨e,t,rfl,h2,h3,h4,h5⟩:=h;by_cases e1:x.1=k
  ·refine .inr ⟨x.2.1,x.2.2,0,e,by simp [mget,e1],by simp [fnd,e1],rfl,by rw [h2,e1],h3,h4,?_,?_⟩
   ·simpa [mdel,e1] using h5
   ·intro v' u hu;simp only [mput,e1,if_true];exact ⟨{ e with key:=k.val,val:=u },t,by simp,rfl,hu,h4,h5⟩
  ·rcases ih t (i+1) h5 with ⟨a1,a2⟩|⟨v,tt,j,e',a1,a2,a3,a4,a5,a6,a7,a8⟩
   ·exact .inl ⟨by simp [mget,e1,a1],by simp [fnd,e1,a2]⟩
   ·refine .inr ⟨v,tt,j+1,e',by simp [mget,e1,a1],by simp [fnd,e1,a2]; omega,by simpa using a3,a4,a5,a6,?_,?_⟩
    ·simp only [mdel,e1,if_false,List.eraseIdx_cons_succ];exact ⟨e,_,rfl,h2,h3,h4,a7⟩
    ·intro v' u hu;simp only [mput,e1,if_false,List.modify_succ_cons];exact ⟨e,_,rfl,h2,h3,h4,a8 v' u hu⟩
theorem yR {E:Env} {V:Type} {ev:V->SV}:∀ {l m:List (cC×V×Nat)} {es fs:List MapEntry},jH E ev l es->jH E ev m fs->jH E ev (l++m) (es++fs):=by
 intro l;induction l with
 | nil=>intro m es fs h hm; simp only [jH] at h; subst h; exact hm
 | cons x r ih =>
  intro m es fs h hm;obtain ⟨e,t,rfl,h2,h3,h4,h5⟩:=h;exact ⟨e,t++fs,rfl,h2,h3,h4,ih h5 hm⟩
theorem Fm {E:Env} {V:Type} {ev:V->SV}:∀ {l:List (cC×V×Nat)} {es:List MapEntry},jH E ev l es->es.length=l.length:=by
 intro l;induction l with
 | nil=>intro es h; simp only [jH] at h; subst h; rfl
 | cons x r ih=>intro es h; obtain ⟨e,t,rfl,_,_,_,h5⟩:=h; simp [ih h5]
theorem Tf {E:Env} {V V':Type} {ev:V->SV} {ev':V'->SV} {g:V->V'} (h:∀ v,ev' (g v)=ev v):∀ {l:List (cC×V×Nat)} {es:List MapEntry},jH E ev l es->jH E ev' (l.map fun x=>(x.1,g x.2.1,x.2.2)) es:=by
 intro l;induction l with
 | nil=>intro es hh; exact hh
 | cons x r ih =>
  intro es hh;obtain ⟨e,t,h1,h2,h3,h4,h5⟩:=hh;exact ⟨e,t,h1,h2,by rw [h]; exact h3,h4,ih h5⟩
theorem Jt {V:Type} {kk:KK} {k:cC} (hk:k.kind=kk) (v:V):∀ {l:List (cC×V×Nat)},(∀ x∈l,x.1.kind=kk)->∀ x∈mput l k v,x.1.kind=kk:=by
 intro l;induction l with
 | nil=>intro _ x hx; cases hx
 | cons y r ih =>
  intro h x hx;simp only [mput] at hx;split at hx
  ·rcases aI.1 hx with rfl|hx
   ·exact hk
   ·exact h x (aK _ hx)
  ·rcases aI.1 hx with rfl|hx
   ·exact h _ (aQ ..)
   ·exact ih (fun z hz=>h z (aK _ hz)) x hx
theorem Js {V:Type} {kk:KK} {k:cC}:∀ {l:List (cC×V×Nat)},(∀ x∈l,x.1.kind=kk)->∀ x∈mdel l k,x.1.kind=kk:=by
 intro l;induction l with
 | nil=>intro _ x hx; cases hx
 | cons y r ih =>
  intro h x hx;simp only [mdel] at hx;split at hx
  ·exact h x (aK _ hx)
  ·rcases aI.1 hx with rfl|hx
   ·exact h _ (aQ ..)
   ·exact ih (fun z hz=>h z (aK _ hz)) x hx
theorem Ju {V:Type} {kk:KK} {t:Nat} {v:V}:∀ {l:List (cC×V×Nat)},(∀ x∈l,x.1.kind=kk)->∀ x∈mset l t v,x.1.kind=kk:=by
 intro l;induction l with
 | nil=>intro _ x hx; cases hx
 | cons y r ih =>
  intro h x hx;simp only [mset] at hx;split at hx
  ·rcases aI.1 hx with rfl|hx
   ·exact h y (aQ ..)
   ·exact h x (aK _ hx)
  ·rcases aI.1 hx with rfl|hx
   ·exact h _ (aQ ..)
   ·exact ih (fun z hz=>h z (aK _ hz)) x hx
theorem Oq {E:Env} {V:Type} {ev:V->SV} {t:Nat} {v':V} {u:Value} (hu:R E (ev v') [u]):∀ (l:List (cC×V×Nat)) (es:List MapEntry),jH E ev l es->(∃ x∈l,x.2.2=t) ->
  ∃ j,es.findIdx? (fun e=>(e.born:Int) == (t:Int))=some j/\jH E ev (mset l t v') (es.modify j fun e=>{ e with val:=u }):=by
 intro l;induction l with
 | nil=>intro es _ ⟨x,hx,_⟩; cases hx
 | cons x r ih =>
  intro es h hx;obtain ⟨e,es',rfl,h2,h3,h4,h5⟩:=h;by_cases e1:x.2.2=t
  ·refine ⟨0,?_,?_⟩
   ·simp [List.findIdx?_cons,h4,e1]
   ·simp only [mset,e1,if_true];exact ⟨{ e with val:=u },es',by simp,h2,hu,h4.trans e1,h5⟩
  ·obtain ⟨y,hy,hyt⟩:=hx;have hy':∃ y∈r,y.2.2=t:=by
    rcases aI.1 hy with rfl|hy
    ·exact absurd hyt e1
    ·exact ⟨y,hy,hyt⟩
   obtain ⟨j,j1,j2⟩:=ih es' h5 hy';refine ⟨j+1,?_,?_⟩
   ·have:¬ (e.born:Int)=(t:Int):=by rw [h4]; omega
    simp [List.findIdx?_cons,this] at j1 ⊢;exact j1
   ·simp only [mset,e1,if_false,List.modify_succ_cons];exact ⟨e,_,rfl,h2,h3,h4,j2⟩
end
end Go.Eng
end
