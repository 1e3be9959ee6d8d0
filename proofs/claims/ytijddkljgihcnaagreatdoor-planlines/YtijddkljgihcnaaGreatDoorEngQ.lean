/- A part of the proof. -/
import Derived.Test.YtijddkljgihcnaaGreatDoorEngP
namespace Go.Eng
open Go Go.RowKit
def rnS (l:List (Nat×Nat)):SV->SV
  | .own id off=>bif Nat.blt id FB then .own ((get? l id).getD 0) off else .junk
  | .osl id sz lo n=>bif Nat.blt id FB then .osl ((get? l id).getD 0) sz lo n else .junk
  | .lsl id sz n=>bif Nat.blt id FB then .lsl ((get? l id).getD 0) sz n else .junk
  | .oel id sz i off=>bif Nat.blt id FB then .oel ((get? l id).getD 0) sz i off else .junk
  | .mref id=>bif Nat.blt id FB then .mref ((get? l id).getD 0) else .junk
  | .fown h i off=>bif Nat.blt h FB then .fown ((get? l h).getD 0) i off else .junk
  | .fmref h i=>bif Nat.blt h FB then .fmref ((get? l h).getD 0) i else .junk
  | .slice sz n enc=>.slice sz n (fun i=>rnS l (enc i))
  | .slit sz els=>.slit sz (rnS l els)
  | .cptr c=>.cptr (rnS l c)
  | .cons a b=>.cons (rnS l a) (rnS l b)
  | .ints k n f t=>.ints k n f (rnS l t)
  | .agg a=>.agg (rnS l a)
  | .tup a=>.tup (rnS l a)
  | .fn f a=>.fn f (rnS l a)
  | .junk=>.junk
  | .val v=>.val v
  | .int k n=>.int k n
  | .bool b=>.bool b
  | .str s=>.str s
  | .nilsl=>.nilsl
  | .nil=>.nil
  | .yield id=>bif Nat.blt id FB then .yield ((get? l id).getD 0) else .junk
  | .gd _ _ _=>.junk
def rnO (l r:List (Nat×Nat)):aG->aG
  | .cells T c=>.cells T (rnS l c)
  | .arr T sz n enc=>.arr T sz n (fun i=>rnS l (enc i))
  | .obj o=>.obj o
  | .map V kk es clock ev iv=>.map V kk es clock (fun v=>rnS l (ev v)) (fun s=>iv (rnS r s))
  | .iter src a b c=>.iter (rnS l src) a b c
  | .fam f=>.fam (fun i=>rnO l r (f i))
  | .hid a b=>.hid a b
  | .gone=>.gone
theorem I9 (l r:List (Nat×Nat)) (o:aG):solid? (rnO l r o)=(solid? o).map (rnO l r):=by
  cases o <;> first
    | rfl
    | (simp only [rnO,solid?]
       split <;> rfl)
theorem E5 (l r:List (Nat×Nat)) (o:aG):dG? (rnO l r o)=(dG? o).map (rnO l r):=by
  cases o <;> first
    | rfl
    | (simp only [rnO,dG?,solid?]
       split <;> rfl)
theorem Mj (l:List (Nat×Nat)):∀ s:SV,(rnS l s).len=s.len:=by
  intro s
  induction s with
  | cons a b _ ih=>simp [rnS,SV.len,ih]
  | ints k n f t ih=>simp [rnS,SV.len,ih]
  | own id off=>simp only [rnS]; cases Nat.blt id FB <;> rfl
  | osl id=>simp only [rnS]; cases Nat.blt id FB <;> rfl
  | lsl id=>simp only [rnS]; cases Nat.blt id FB <;> rfl
  | oel id=>simp only [rnS]; cases Nat.blt id FB <;> rfl
  | mref id=>simp only [rnS]; cases Nat.blt id FB <;> rfl
  | fown id=>simp only [rnS]; cases Nat.blt id FB <;> rfl
  | fmref id=>simp only [rnS]; cases Nat.blt id FB <;> rfl
  | yield id=>simp only [rnS]; cases Nat.blt id FB <;> rfl
  | _=>rfl
structure RnE (l:List (Nat×Nat)) (E E':Env):Prop where
  μ:∀ id p,id < FB->E.μ id=some p->E'.μ ((get? l id).getD 0)=some p
  fam:∀ h i p,h < FB->E.μ (fid h i)=some p->E'.μ (fid ((get? l h).getD 0) i)=some p
  U:∀ b,E.U b->E'.U b
  w:E'.w=E.w
  H:∀ l p o,E.H l p o->E'.H l p o
theorem eY {a b:Nat} (h:Nat.blt a b=true):a < b:=Nat.le_of_ble_eq_true (n:=a+1) h
theorem Fs {l:List (Nat×Nat)} {E E':Env} (hE:RnE l E E') (s:SV):(∀ vs,R E s vs->R E' (rnS l s) vs)/\(∀ a sz i,RE E s a sz i->RE E' (rnS l s) a sz i):=by
  induction s with
  | own id off =>
    refine ⟨?_,fun _ _ _ h=>by simp only [rnS]; cases Nat.blt id FB <;> simp [RE]⟩
    rintro vs ⟨b,c,h1,h2⟩
    simp only [rnS]
    cases hb:Nat.blt id FB with
    | true=>exact ⟨b,c,hE.μ _ _ (eY hb) h1,h2⟩
    | false=>exact ⟨_,h2⟩
  | osl id sz lo n =>
    refine ⟨?_,fun _ _ _ h=>by simp only [rnS]; cases Nat.blt id FB <;> simp [RE]⟩
    intro vs h
    simp only [rnS]
    cases hb:Nat.blt id FB with
    | true =>
      rcases h with h|⟨h0,b,c,h1,h2⟩
      · exact .inl h
      · exact .inr ⟨h0,b,c,hE.μ _ _ (eY hb) h1,h2⟩
    | false =>
      rcases h with ⟨_,_,_,h⟩|⟨h0,b,c,h1,h2,_⟩
      · exact ⟨_,h⟩
      · exact ⟨_,h2⟩
  | lsl id sz n =>
    refine ⟨?_,fun _ _ _ h=>by simp only [rnS]; cases Nat.blt id FB <;> simp [RE]⟩
    intro vs h
    simp only [rnS]
    cases hb:Nat.blt id FB with
    | true =>
      rcases h with h|⟨h0,b,c,h1,h2⟩
      · exact .inl h
      · exact .inr ⟨h0,b,c,hE.μ _ _ (eY hb) h1,h2⟩
    | false =>
      rcases h with ⟨_,_,h⟩|⟨h0,b,c,h1,h2,_⟩
      · exact ⟨_,h⟩
      · exact ⟨_,h2⟩
  | oel id sz i off =>
    refine ⟨?_,fun _ _ _ h=>by simp only [rnS]; cases Nat.blt id FB <;> simp [RE]⟩
    rintro vs ⟨b,c,h1,h2⟩
    simp only [rnS]
    cases hb:Nat.blt id FB with
    | true=>exact ⟨b,c,hE.μ _ _ (eY hb) h1,h2⟩
    | false=>exact ⟨_,h2⟩
  | mref id =>
    refine ⟨?_,fun _ _ _ h=>by simp only [rnS]; cases Nat.blt id FB <;> simp [RE]⟩
    rintro vs ⟨b,c,h1,h2⟩
    simp only [rnS]
    cases hb:Nat.blt id FB with
    | true=>exact ⟨b,c,hE.μ _ _ (eY hb) h1,h2⟩
    | false=>exact ⟨_,h2⟩
  | yield id =>
    refine ⟨?_,fun _ _ _ h=>by simp only [rnS]; cases Nat.blt id FB <;> simp [RE]⟩
    rintro vs ⟨b,c,h1,h2⟩
    simp only [rnS]
    cases hb:Nat.blt id FB with
    | true=>exact ⟨b,c,hE.μ _ _ (eY hb) h1,h2⟩
    | false=>exact ⟨_,h2⟩
  | fown id i off =>
    refine ⟨?_,fun _ _ _ h=>by simp only [rnS]; cases Nat.blt id FB <;> simp [RE]⟩
    rintro vs ⟨b,c,h1,h2⟩
    simp only [rnS]
    cases hb:Nat.blt id FB with
    | true=>exact ⟨b,c,hE.fam _ _ _ (eY hb) h1,h2⟩
    | false=>exact ⟨_,h2⟩
  | fmref id i =>
    refine ⟨?_,fun _ _ _ h=>by simp only [rnS]; cases Nat.blt id FB <;> simp [RE]⟩
    rintro vs ⟨b,c,h1,h2⟩
    simp only [rnS]
    cases hb:Nat.blt id FB with
    | true=>exact ⟨b,c,hE.fam _ _ _ (eY hb) h1,h2⟩
    | false=>exact ⟨_,h2⟩
  | slice sz n enc ih =>
    refine ⟨?_,fun _ _ _ h=>by simp [RE,rnS]⟩
    intro vs h
    simp only [R,rnS] at h ⊢
    obtain ⟨a,cap,h1,h2,h3⟩:=h
    refine ⟨a,cap,h1,h2,fun i hi=>?_⟩
    obtain ⟨b,off,cs,e,u,r,ln,hh⟩:=h3 i hi
    exact ⟨b,off,cs,e,hE.U b u,(ih i).1 _ r,ln,by rw [hE.w]; exact hh⟩
  | slit sz els ih =>
    refine ⟨?_,fun _ _ _ h=>by simp [RE,rnS]⟩
    intro vs h
    simp only [R,rnS] at h ⊢
    obtain ⟨a,h1,h2⟩:=h
    exact ⟨a,by rw [Mj]; exact h1,ih.2 _ _ _ h2⟩
  | cptr cells ih =>
    refine ⟨?_,fun _ _ _ h=>by simp [RE,rnS]⟩
    intro vs h
    simp only [R,rnS] at h ⊢
    obtain ⟨b,off,cs,h1,h2,h3,h4⟩:=h
    exact ⟨b,off,cs,h1,hE.U b h2,ih.1 _ h3,by rw [hE.w]; exact h4⟩
  | cons h t ihh iht =>
    refine ⟨?_,?_⟩
    · intro vs h
      simp only [R,rnS] at h ⊢
      obtain ⟨x,xs,h1,h2,h3⟩:=h
      exact ⟨x,xs,h1,ihh.1 _ h2,iht.1 _ h3⟩
    · intro a sz i h
      simp only [RE,rnS] at h ⊢
      obtain ⟨⟨b,off,cs,e,u,r,ln,hh⟩,h2⟩:=h
      exact ⟨⟨b,off,cs,e,hE.U b u,ihh.1 _ r,ln,by rw [hE.w]; exact hh⟩,iht.2 _ _ _ h2⟩
  | ints k n f t ih =>
    refine ⟨?_,fun _ _ _ h=>by simp [RE] at h⟩
    intro vs h; simp only [R,rnS] at h ⊢; obtain ⟨cs,h1,h2⟩:=h; exact ⟨cs,h1,ih.1 _ h2⟩
  | agg l ih =>
    refine ⟨?_,fun _ _ _ h=>by simp [RE,rnS]⟩
    intro vs h; simp only [R,rnS] at h ⊢; obtain ⟨cs,h1,h2⟩:=h; exact ⟨cs,h1,ih.1 _ h2⟩
  | tup l ih =>
    refine ⟨?_,fun _ _ _ h=>by simp [RE,rnS]⟩
    intro vs h; simp only [R,rnS] at h ⊢; obtain ⟨cs,h1,h2⟩:=h; exact ⟨cs,h1,ih.1 _ h2⟩
  | fn f l ih =>
    refine ⟨?_,fun _ _ _ h=>by simp [RE,rnS]⟩
    intro vs h; simp only [R,rnS] at h ⊢; obtain ⟨cs,h1,h2⟩:=h; exact ⟨cs,h1,ih.1 _ h2⟩
  | _=>exact ⟨fun vs h=>by simpa only [R,rnS] using h,fun _ _ _ h=>by simp [RE,rnS]⟩
theorem Fq {l:List (Nat×Nat)} {E E':Env} (hE:RnE l E E') {s:SV} {vs:List Value} (h:R E s vs):R E' (rnS l s) vs:=(Fs hE s).1 vs h
theorem J2 {l:List (Nat×Nat)} {E E':Env} (hE:RnE l E E') {V:Type} {ev:V->SV}:∀ {es:List (aK×V×Nat)} {ms:List MapEntry},cV E ev es ms->cV E' (fun v=>rnS l (ev v)) es ms:=by
  intro es
  induction es with
  | nil=>intro ms h; exact h
  | cons x r ih =>
    intro ms h
    obtain ⟨e,t,h1,h2,h3,h4,h5⟩:=h
    exact ⟨e,t,h1,h2,Fq hE h3,h4,ih h5⟩
theorem Rw {l r:List (Nat×Nat)} {E E':Env} (hE:RnE l E E') {o:aG} {c:Nat} {x:Obj} (h:HR E o c x):HR E' (rnO l r o) c x:=by
  cases o with
  | cells T l=>obtain ⟨cs,h1,h2⟩:=h; exact ⟨cs,h1,Fq hE h2⟩
  | arr T sz len enc =>
    obtain ⟨cs,h1,h2,h3,h4⟩:=h
    refine ⟨cs,h1,h2,h3,fun i hi=>?_⟩
    obtain ⟨xs,a,b,c⟩:=h4 i hi
    exact ⟨xs,Fq hE a,b,c⟩
  | obj o'=>exact h
  | hid a b=>exact hE.H _ _ _ h
  | map V kk l clock ev iv=>obtain ⟨h0,es,h1,h2⟩:=h; exact ⟨h0,es,h1,J2 hE h2⟩
  | iter src since seen last=>obtain ⟨r,h1,h2⟩:=h; exact ⟨r,Fq hE h1,h2⟩
  | fam f=>exact h
  | gone=>exact h
def numb:List Nat->Nat->List (Nat×Nat)
  | [],_=>[]
  | m::r,j=>(m,j)::numb r (j+1)
def names (ids:List Nat) (j nx1 nx:Nat):List (Nat×Nat) :=
  match ids with
  | m::r=>(j,m)::names r (j+1) nx1 nx
  | []=>news (nx1 - j) j nx
where
  news:Nat->Nat->Nat->List (Nat×Nat)
    | 0,_,_=>[]
    | f+1,j,nx=>(j,nx)::news f (j+1) (nx+1)
def flip:List (Nat×Nat)->List (Nat×Nat)
  | []=>[]
  | (a,b)::r=>(b,a)::flip r
def pX (l r:List (Nat×Nat)):List (Nat×aG)->List (Nat×aG)
  | []=>[]
  | (j,o)::t=>((get? l j).getD 0,rnO l r o)::pX l r t
def wE (ids:List Nat):List (Nat×aG)->List (Nat×aG)
  | []=>[]
  | (n,o)::t=>bif bS ids n then wE ids t else (n,o)::wE ids t
def rB:List (Nat×aG)->List (Nat×aG)->List (Nat×aG)
  | [],l=>l
  | x::r,l=>x::rB r l
def named (l:List (Nat×Nat)):Nat->Bool
  | 0=>true
  | n+1=>match get? l n with
    | some _=>named l n
    | none=>false
def qR (l:List (Nat×Nat)):List Nat->Nat->Bool
  | [],_=>true
  | m::r,j=>match get? l j with
    | some x=>bif Nat.beq x m then qR l r (j+1) else false
    | none=>false
def nM (l:List (Nat×Nat)) (nx0 nx:Nat):Bool :=
  match l with
  | []=>true
  | (j,n)::r=>bif Nat.blt j nx0 then nM r nx0 nx else bif Nat.ble nx n then nM r nx0 nx else false
def Ai (hp:List (Nat×aG)) (nx:Nat) (ids:List Nat) (h0:List (Nat×aG)) (nx0 nx1:Nat):Bool :=
  let l:=names ids 0 nx1 nx
  let nx':=nx+(nx1 - nx0)
  bif Nat.beq ids.length nx0 then bif cY nx0 (numb ids 0) then bif lT hp h0 (numb ids 0) then bif cY nx' l then
    bif named l nx1 then bif qR l ids 0 then bif nM l nx0 nx then bif Nat.ble nx nx' then true
    else false else false else false else false else false else false else false else false
def qP (tab:List (Nat×cH)) (st:St) (f:Nat) (args:SV) (k:SV->St->Prop):Prop :=
  match get? tab f with
  | some (.m S)=>∃ x ids,
      bif Ai st.hp st.nx ids (S.h0 x) S.nx0 S.nx1 then
        S.pre x/\sub ⟨numb ids 0,match S.fresh with|true=>false|false=>true,true,false⟩ st.hp 200 args (S.args x) /\
        jR ⟨numb ids 0,match S.fresh with|true=>false|false=>true,true,false⟩ S.nx0 (numb ids 0) st.hp (S.h0 x) /\
        ∀ y,S.post x y->rQ (names ids 0 S.nx1 st.nx) fun nm=>rQ (flip nm) fun fl=>k (rnS nm (S.res x y))
          ⟨st.fr,rB (pX nm fl (S.h1 x y)) (wE ids st.hp),st.nx+(S.nx1 - S.nx0)⟩
      else False
  | _=>False
theorem uA {l:List (Nat×Nat)}:∀ {n:Nat},named l n=true->∀ j,j < n->∃ m,get? l j=some m:=by
  intro n
  induction n with
  | zero=>intro _ j h; omega
  | succ n ih =>
    intro e j h
    simp only [named] at e
    split at e
    · rename_i x hx
      by_cases hj:j=n
      · subst hj; exact ⟨_,hx⟩
      · exact ih e j (by omega)
    · cases e
theorem yR:∀ {ids:List Nat} {j m k:Nat},(m,k)∈numb ids j->∃ i,k=j+i/\ids[i]?=some m:=by
  intro ids
  induction ids with
  | nil=>intro j m k h; cases h
  | cons a r ih =>
    intro j m k h
    rcases List.mem_cons.1 h with e|e
    · cases e; exact ⟨0,rfl,rfl⟩
    · obtain ⟨i,rfl,hi⟩:=ih e
      exact ⟨i+1,by omega,by simpa using hi⟩
theorem L7:∀ {ids:List Nat} {j i m:Nat},ids[i]?=some m->(m,j+i)∈numb ids j:=by
  intro ids
  induction ids with
  | nil=>intro j i m h; simp at h
  | cons a r ih =>
    intro j i m h
    cases i with
    | zero=>simp at h; subst h; simp [numb]
    | succ i =>
      have:=ih (j:=j+1) (i:=i) (m:=m) (by simpa using h)
      rw [Nat.add_assoc,Nat.add_comm 1 i] at this
      exact List.mem_cons_of_mem _ this
theorem kK {l:List (Nat×Nat)}:∀ {ids:List Nat} {j i m:Nat},qR l ids j=true->ids[i]?=some m->get? l (j+i)=some m:=by
  intro ids
  induction ids with
  | nil=>intro j i m _ h; simp at h
  | cons a r ih =>
    intro j i m e h
    simp only [qR] at e
    split at e
    · rename_i x hx
      cases hb:Nat.beq x a with
      | false=>simp [hb] at e
      | true =>
        simp only [hb,cond_true] at e
        have:=nbeq hb
        subst this
        cases i with
        | zero=>simp at h; subst h; exact hx
        | succ i =>
          have:=ih (j:=j+1) (i:=i) (m:=m) e (by simpa using h)
          rw [Nat.add_assoc,Nat.add_comm 1 i] at this
          exact this
    · cases e
theorem kL {nx0 nx:Nat}:∀ {l:List (Nat×Nat)},nM l nx0 nx=true->∀ j n,(j,n)∈l->nx0<=j->nx<=n:=by
  intro l
  induction l with
  | nil=>intro _ j n h; cases h
  | cons p r ih =>
    obtain ⟨a,b⟩:=p
    intro e j n hm hj
    simp only [nM] at e
    cases h1:Nat.blt a nx0 with
    | true =>
      simp only [h1,cond_true] at e
      rcases List.mem_cons.1 hm with e2|e2
      · cases e2; have:=eY h1; omega
      · exact ih e j n e2 hj
    | false =>
      cases h2:Nat.ble nx b with
      | false=>simp [h1,h2] at e
      | true =>
        simp only [h1,h2,cond_false,cond_true] at e
        rcases List.mem_cons.1 hm with e2|e2
        · cases e2; exact Nat.le_of_ble_eq_true h2
        · exact ih e j n e2 hj
theorem get?_app (a b:List (Nat×aG)) (n:Nat):get? (rB a b) n=match get? a n with|some o=>some o|none=>get? b n:=by
  induction a with
  | nil=>rfl
  | cons p r ih =>
    obtain ⟨k,v⟩:=p
    simp only [rB,get?_cons,ih]
    by_cases e:k=n <;> simp [e]
theorem get?_rm (ids:List Nat) (hp:List (Nat×aG)) (n:Nat):get? (wE ids hp) n=if bS ids n=true then none else get? hp n:=by
  induction hp with
  | nil=>simp [wE,get?]
  | cons p r ih =>
    obtain ⟨k,v⟩:=p
    simp only [wE]
    cases h:bS ids k with
    | true =>
      simp only [cond_true,ih,get?_cons]
      by_cases e:k=n
      · subst e; simp [h]
      · simp [e]
    | false =>
      simp only [cond_false,ih,get?_cons]
      by_cases e:k=n
      · subst e; simp [h]
      · simp [e]
theorem get?_map {l r:List (Nat×Nat)} {nx:Nat} (hk:cY nx l=true):∀ {h1:List (Nat×aG)},(∀ j o,(j,o)∈h1->∃ m,(j,m)∈l)->∀ n,get? (pX l r h1) n=(back l n).bind fun j=>(get? h1 j).map (rnO l r):=by
  obtain ⟨f1,f2,f3⟩:=iV hk
  intro h1
  induction h1 with
  | nil=>intro _ n; simp [pX,get?]
  | cons p t ih =>
    obtain ⟨j,o⟩:=p
    intro hn n
    obtain ⟨m,hm⟩:=hn j o (List.mem_cons_self ..)
    have hgm:get? l j=some m:=get?_of_mem hk hm
    simp only [pX,hgm,Option.getD_some,get?_cons]
    by_cases e:m=n
    · subst e
      simp [dP hk hm]
    · rw [if_neg e,ih (fun j' o' h'=>hn j' o' (List.mem_cons_of_mem _ h')) n]
      cases hb:back l n with
      | none=>rfl
      | some j' =>
        have:j≠j':=by
          rintro rfl
          exact e (f1 _ _ _ hm (back_mem hb))
        simp [this]
theorem Lf {hp:List (Nat×aG)} {j:Nat} {o:aG} (h:(j,o)∈hp):∃ o',get? hp j=some o':=by
  induction hp with
  | nil=>cases h
  | cons p t ih =>
    obtain ⟨k,v⟩:=p
    rw [get?_cons]
    by_cases e:k=j
    · exact ⟨v,by simp [e]⟩
    · rcases List.mem_cons.1 h with e2|e2
      · cases e2; exact absurd rfl e
      · obtain ⟨o',ho'⟩:=ih e2
        exact ⟨o',by simp [e,ho']⟩
def cid (n j:Nat):Nat:=if n < FB then j else fid j (n / FB - 1)
section
variable {P:Program} {C:Ctx}
set_option maxHeartbeats 1000000 in
theorem sW {tab:List (Nat×cH)} (ht:aA P tab) (hgc:zX C) {μ:Nat->Option (Nat×Nat)} {st:St} {w:World} (h:aL C μ st.hp st.nx w) {f:Nat} {args:SV} {vs:List Value} (hr:R (aC C μ st.hp w) args vs)
    {K:SV->St->Prop} (he:qP tab st f args K) :
    (callFunc f vs.toArray).run P w=.ok (.enter f vs.toArray) w/\Calls P f vs.toArray w fun
      | .returned v,w'=>∃ s st' μ',K s st'/\st'.fr=st.fr/\(aC C μ st.hp w).Le (aC C μ' st'.hp w')/\aL C μ' st'.hp st'.nx w'/\R (aC C μ' st'.hp w') s [v]
      | _,_=>False:=by
  unfold qP at he
  split at he
  · rename_i S hS
    have hok:S.Ok P f:=ht f (.m S) hS
    obtain ⟨x,ids,he⟩:=he
    · cases hck:Ai st.hp st.nx ids (S.h0 x) S.nx0 S.nx1 with
      | false=>simp [hck] at he
      | true =>
        simp only [hck,cond_true,D7] at he
        obtain ⟨hpre,hsub,hsh,hK⟩:=he
        refine ⟨hok.call _ _,?_⟩
        generalize hl:names ids 0 S.nx1 st.nx=l at hK
        unfold Ai at hck
        rw [hl] at hck
        simp only at hck
        have fact:∀ {a b:Bool},(bif a then b else false)=true->a=true/\b=true:=by intro a b; cases a <;> simp
        obtain ⟨ck1,hck⟩:=fact hck
        obtain ⟨ck2,hck⟩:=fact hck
        obtain ⟨ck3,hck⟩:=fact hck
        obtain ⟨ck4,hck⟩:=fact hck
        obtain ⟨ck5,hck⟩:=fact hck
        obtain ⟨ck6,hck⟩:=fact hck
        obtain ⟨ck7,hck⟩:=fact hck
        obtain ⟨ck8,_⟩:=fact hck
        have clen:ids.length=S.nx0:=nbeq ck1
        have cnx:st.nx<=st.nx+(S.nx1 - S.nx0):=Nat.le_of_ble_eq_true ck8
        generalize hprs:numb ids 0=prs at hsub hsh ck2 ck3
        generalize st.nx+(S.nx1 - S.nx0)=nx' at *
        obtain ⟨p1,p2,p3⟩:=iV ck2
        obtain ⟨l1,l2,l3⟩:=iV ck4
        obtain ⟨μ0,k1,k2,k3,k4,k5,k6,k7,k8,_⟩:=wO 0 h ck2 ck3 hsh (fun _ _ _ h=>by omega) (Nat.zero_le _)
        -- the callee's side
        obtain ⟨T,hT⟩:∃ T:Nat->Prop,T=fun b=>∃ n o c,hget (S.h0 x) n=some o/\μ0 n=some (b,c):=⟨_,rfl⟩
        have tmine:∀ b,T b->∃ n m o c,Pair prs n m/\hget st.hp m=some o/\μ m=some (b,c):=by
          intro b hb
          rw [hT] at hb
          obtain ⟨n,o,c,g1,g2⟩:=hb
          obtain ⟨m,o',q1,q2,q3,_⟩:=k1 n o g1
          exact ⟨n,m,o',c,q1,q2,q3 ▸ g2⟩
        obtain ⟨U,hU⟩:∃ U:Nat->Prop,U=match S.fresh with|true=>(fun b=>(b < w.heap.size/\Plain w b)/\¬ T b)|false=>(aC C μ st.hp w).U:=⟨_,rfl⟩
        have tplain:∀ b,T b->(∀ r,w.heap[b]?≠some (.loop r))/\Plain w b:=by
          intro b hb
          rw [hT] at hb
          obtain ⟨n,o,c,g1,g2⟩:=hb
          obtain ⟨m,o',q1,q2,q3,q4⟩:=k1 n o g1
          have hnh:∀ l p,o'≠.hid l p:=by
            rintro l p rfl
            cases o <;> simp [eI] at q4
          obtain ⟨b',c',z,e1,e2,e3⟩:=h.obj.obj m o' q2
          have e1':μ m=some (b',c'):=e1
          rw [<- q3,g2] at e1'
          cases e1'
          have e2':w.heap[b]?=some z:=e2
          have hpl:=qV hnh e3
          exact ⟨fun r e=>by rw [e2'] at e; cases e; exact hpl.1 r rfl,fun ds e=>by rw [e2'] at e; cases e; exact hpl.2 ds rfl⟩
        have hUlt:∀ b,U b->b < w.heap.size/\Plain w b:=by
          intro b hb
          rw [hU] at hb
          cases hfr:S.fresh with
          | true=>rw [hfr] at hb; exact hb.1
          | false=>rw [hfr] at hb; exact ⟨hb.1,hb.2.2.2⟩
        have hUof:∀ b,(aC C μ st.hp w).U b->U b:=by
          intro b hb
          rw [hU]
          cases hfr:S.fresh with
          | true =>
            refine ⟨⟨hb.1,hb.2.2.2⟩,fun ht=>?_⟩
            obtain ⟨n,m,o,c,_,q2,q3⟩:=tmine b ht
            exact hb.2.2.1 _ _ _ q2 q3
          | false=>exact hb
        let C0:Ctx:=bQ w T U μ0 S.nx0
        have hF:(aC C μ st.hp w).Freed ⟨prs,match S.fresh with|true=>false|false=>true,true,false⟩ st.hp (aC C0 μ0 (S.h0 x) w):=by
          refine ⟨fun _=>⟨?_,fun _ _=>rfl⟩,k2,k3,rfl,?_⟩
          · intro b hb
            refine ⟨hb.1,.inl (hUof b hb),?_,hb.2.2.2⟩
            intro i o' c' hg hm
            obtain ⟨m,o,_,q2,q3,_⟩:=k1 i o' hg
            rw [q3] at hm
            exact hb.2.2.1 m o c' q2 hm
          · intro id o b c hg hm hkp
            have hm':μ id=some (b,c):=hm
            have hfr:S.fresh=true:=by
              cases e:S.fresh with
              | true=>rfl
              | false=>simp [e,kept] at hkp
            have hkp':kept (.keep prs) (fbase id)=false:=by simpa [hfr,kept,Keep.keep] using hkp
            have hnt:¬ T b:=by
              intro ht
              obtain ⟨n,m,o',c',q1,q2,q3⟩:=tmine b ht
              have:=h.inj _ _ _ _ _ _ _ hg q2 hm' q3
              subst this
              exact k8 _ _ _ hg hkp' q1
            refine ⟨h.lt hg hm',.inl (show U b by rw [hU,hfr]; exact ⟨⟨h.lt hg hm',h.obj.plain hg hm'⟩,hnt⟩),?_,h.obj.plain hg hm'⟩
            intro i o' c2 hg' hm2
            exact hnt (by rw [hT]; exact ⟨i,o',c2,hg',hm2⟩)
        have hsb:∀ s t vs,sub ⟨prs,match S.fresh with|true=>false|false=>true,true,false⟩ st.hp 200 s t->R (aC C μ st.hp w) s vs->R (aC C0 μ0 (S.h0 x) w) t vs:=fun s t vs=>fP hF h.obj 200 s t vs
        have hh0:aL C0 μ0 (S.h0 x) S.nx0 w:=by
          refine ⟨⟨fun id o hg=>(k6 id o hg).2,?_⟩,?_,?_,fun id o hg=>(k6 id o hg).1,k4,k5,fun _ _ e=>e,Frm.refl _ _⟩
          · intro i o' hg
            obtain ⟨m,o,_,q2,q3,hso⟩:=k1 i o' hg
            obtain ⟨b,cp,z,e1,e2,e3⟩:=h.obj.obj m o q2
            exact ⟨b,cp,z,q3.trans e1,e2,pK hF.le hsb (fun e=>by cases e) hso e3⟩
          · intro i i' o1 o2 b c1 c2 g1 g2 m1 m2
            obtain ⟨d1,y1,q1,ho1,e1,_⟩:=k1 i o1 g1
            obtain ⟨d2,y2,q2,ho2,e2,_⟩:=k1 i' o2 g2
            rw [e1] at m1
            rw [e2] at m2
            have:=h.inj _ _ _ _ _ _ _ ho1 ho2 m1 m2
            subst this
            exact k7 _ _ _ q1 q2
          · intro i o b c hg hm
            exact .inl (by show T b; rw [hT]; exact ⟨i,o,c,hg,hm⟩)
        have hgT:zX C0:=by
          refine ⟨hgc.at h.frm,fun b hb ht=>?_⟩
          obtain ⟨n,m,o,c,_,q2,q3⟩:=tmine b ht
          rcases h.mine _ _ _ _ q2 q3 with h1|h1
          · exact hgc.gT b hb h1
          · have:=hgc.gok.lt hb
            omega
        refine Calls.mono (hok.does x w μ0 vs T U hUlt hgT hh0 hpre (hsb _ _ _ hsub hr)) ?_
        intro e w' hret
        cases e with
        | panicked c=>exact hret
        | outgrown=>exact hret
        | returned v =>
          obtain ⟨y,μ1,hpost,hh1,hR1⟩:=hret
          let C1:Ctx:=bQ w T (Ufresh S.fresh U) μ0 S.nx0
          have hfrm:Frm T w w':=hh1.frm
          -- the caller's new names
          have nm:∀ j o,(j,o)∈S.h1 x y->∃ m,(j,m)∈l:=by
            intro j o hm
            obtain ⟨o',ho'⟩:=Lf hm
            obtain ⟨m,hg⟩:=uA ck5 j (hh1.keys _ _ ho')
            exact ⟨m,get?_mem hg⟩
          -- numbers of the callee's that were the caller's
          have old:∀ j m,(j,m)∈l->j < S.nx0->(m,j)∈prs:=by
            intro j m hm hj
            obtain ⟨m',hm'⟩:∃ m',ids[j]?=some m':=⟨ids[j],by simp [clen,hj]⟩
            have:=kK (j:=0) ck6 hm'
            rw [Nat.zero_add] at this
            have e:m=m':=l1 _ _ _ hm (get?_mem this)
            subst e
            rw [<- hprs]
            have:=L7 (j:=0) hm'
            rwa [Nat.zero_add] at this
          have old':∀ j m,(m,j)∈prs->(j,m)∈l/\j < S.nx0:=by
            intro j m hm
            rw [<- hprs] at hm
            obtain ⟨i,rfl,hi⟩:=yR hm
            have:=kK (j:=0) ck6 hi
            refine ⟨get?_mem this,?_⟩
            have:=(List.getElem?_eq_some_iff.1 hi).1
            omega
          obtain ⟨hp',hhp'⟩:∃ hp',hp'=rB (pX l (flip l) (S.h1 x y)) (wE ids st.hp):=⟨_,rfl⟩
          have key:∀ n,get? hp' n=match back l n with
              | some j=>(get? (S.h1 x y) j).map (rnO l (flip l))
              | none=>get? st.hp n:=by
            intro n
            rw [hhp',get?_app,get?_map ck4 nm,get?_rm]
            cases hb:back l n with
            | none =>
              have:bS ids n≠true:=by
                intro hm
                obtain ⟨i,hi⟩:=List.getElem?_of_mem (eM.1 hm)
                have:=kK (j:=0) ck6 hi
                have:=dP ck4 (get?_mem this)
                rw [hb] at this
                cases this
              simp [this]
            | some j =>
              cases hg:get? (S.h1 x y) j with
              | some o=>simp [hg]
              | none =>
                simp only [Option.bind_some,hg,Option.map_none]
                by_cases hj:j < S.nx0
                · have hm:=old j n (back_mem hb) hj
                  rw [<- hprs] at hm
                  obtain ⟨i,_,hi⟩:=yR hm
                  have:bS ids n=true:=eM.2 (List.mem_of_getElem? hi)
                  simp [this]
                · have:=kL ck7 _ _ (back_mem hb) (by omega)
                  have:get? st.hp n=none:=by
                    cases e:get? st.hp n with
                    | none=>rfl
                    | some o=>have:=h.keys _ _ e; omega
                  simp [this]
          have hkey:∀ n,hget hp' n=match back l (fbase n) with
              | some j=>(hget (S.h1 x y) (cid n j)).map (rnO l (flip l))
              | none=>hget st.hp n:=by
            intro n
            by_cases hn:n < FB
            · rw [cB hn,key n]
              simp only [fbase,hn,if_true,cid]
              cases hb:back l n with
              | none=>simp only [cB hn]
              | some j =>
                have hj:=(l3 _ _ (back_mem hb)).2.2
                simp only [cB hj]
                cases get? (S.h1 x y) j with
                | none=>rfl
                | some o=>simp [I9]
            · simp only [fbase,hn,if_false,cid]
              simp only [hget,hn,if_false]
              rw [key (n % FB)]
              cases hb:back l (n % FB) with
              | none=>rfl
              | some j =>
                have hj:=(l3 _ _ (back_mem hb)).2.2
                have h3:¬ fid j (n / FB - 1) < FB:=Nat.not_lt.2 (dE _ _)
                simp only [h3,if_false,fB _ hj,fQ _ hj]
                cases get? (S.h1 x y) j with
                | none=>rfl
                | some o=>cases o <;> first
                  | rfl
                  | (simp [rnO,E5])
          obtain ⟨μ2,hμ2⟩:∃ μ2:Nat->Option (Nat×Nat),μ2=fun n=>match back l (fbase n) with|some j=>μ1 (cid n j)|none=>μ n:=⟨_,rfl⟩
          have base_fid:∀ {d i:Nat},d < FB->fbase (fid d i)=d:=by
            intro d i hd
            have:¬ fid d i < FB:=Nat.not_lt.2 (dE _ _)
            simp only [fbase,this,if_false,fB i hd]
          have base_low:∀ {d:Nat},d < FB->fbase d=d:=by intro d hd; simp [fbase,hd]
          have keep:∀ id p,μ id=some p->μ2 id=some p:=by
            intro id p e
            rw [hμ2]
            simp only
            cases hb:back l (fbase id) with
            | none=>exact e
            | some j =>
              have hm:=back_mem hb
              by_cases hn:id < FB
              · simp only [cid,hn,if_true]
                rw [base_low hn] at hm
                by_cases hj:j < S.nx0
                · have:=get?_of_mem ck2 (old _ _ hm hj)
                  exact hh1.pin _ _ (k2 _ _ _ this e)
                · have:=kL ck7 _ _ hm (by omega)
                  have:=h.nx _ _ e hn
                  omega
              · simp only [cid,hn,if_false]
                simp only [fbase,hn,if_false] at hm
                by_cases hj:j < S.nx0
                · have hg:=get?_of_mem ck2 (old _ _ hm hj)
                  have he:=oL (Nat.not_lt.1 hn)
                  exact hh1.pin _ _ (k3 _ _ (id / FB - 1) p hg (by rw [he]; exact e))
                · have h3:=kL ck7 _ _ hm (by omega)
                  obtain ⟨o,ho⟩:=h.fam _ _ e (Nat.not_lt.1 hn)
                  simp only [hget,hn,if_false] at ho
                  split at ho
                  · rename_i f' hf'
                    have:=h.keys _ _ hf'
                    omega
                  · cases ho
          -- what the callee could change is the caller's,and under the callee's names
          have tin:∀ n b c,back l (fbase n)=none->(∃ o,hget st.hp n=some o)->μ n=some (b,c)->¬ T b:=by
            rintro n b c hb ⟨o,ho⟩ hm ht
            obtain ⟨n',m,o',c',q1,q2,q3⟩:=tmine b ht
            have:=h.inj _ _ _ _ _ _ _ ho q2 hm q3
            subst this
            rcases q1 with ⟨a1,a2,a3⟩|⟨d,cc,i,rfl,rfl,a3⟩
            · rw [base_low a2,dP ck4 (old' _ _ a3).1] at hb; cases hb
            · rw [base_fid (p3 _ _ a3).2.2,dP ck4 (old' _ _ a3).1] at hb; cases hb
          have split:∀ n o b c,hget hp' n=some o->μ2 n=some (b,c) ->
              (∃ j o1,back l (fbase n)=some j/\hget (S.h1 x y) (cid n j)=some o1/\o=rnO l (flip l) o1/\μ1 (cid n j)=some (b,c))\/(back l (fbase n)=none/\hget st.hp n=some o/\μ n=some (b,c)):=by
            intro n o b c hg hm
            rw [hkey] at hg
            rw [hμ2] at hm
            simp only at hm
            cases hb:back l (fbase n) with
            | none=>rw [hb] at hg hm; exact .inr ⟨rfl,hg,hm⟩
            | some j =>
              rw [hb] at hg hm
              simp only [Option.map_eq_some_iff] at hg
              obtain ⟨o1,g1,g2⟩:=hg
              exact .inl ⟨j,o1,rfl,g1,g2.symm,hm⟩
          have m1:∀ n o b c,hget (S.h1 x y) n=some o->μ1 n=some (b,c)->T b\/w.heap.size<=b:=fun n o b c g e=>hh1.mine n o b c g e
          have hE:(aC C μ st.hp w).Le (aC C μ2 hp' w'):=by
            have same:∀ b,(aC C μ st.hp w).U b->w'.heap[b]?=w.heap[b]?:=by
              intro b hb
              refine hfrm.block b hb.1 ?_
              intro ht
              obtain ⟨n',m,o',c',q1,q2,q3⟩:=tmine b ht
              exact hb.2.2.1 _ _ _ q2 q3
            have hkd:Kd w w':=by
              have lt:∀ (b:Nat) (o:Obj),w.heap[b]?=some o->b < w.heap.size:=fun b o e=>(Array.getElem?_eq_some_iff.1 e).1
              refine ⟨hfrm.size,fun b r e=>⟨r,(hfrm.block b (lt b _ e) fun ht=>(tplain b ht).1 r e).trans e⟩,fun b ds e=>(hfrm.block b (lt b _ e) fun ht=>(tplain b ht).2 ds e).trans e⟩
            refine ⟨⟨⟨?_,same⟩,keep⟩,hkd,fun _ _ _ e=>e⟩
            · intro b hb
              refine ⟨Nat.lt_of_lt_of_le hb.1 hfrm.size,hb.2.1,?_,fun ds e=>hb.2.2.2 ds ((same b hb).symm.trans e)⟩
              intro n o c hg hm
              rcases split n o b c hg hm with ⟨j,o1,_,g1,_,g3⟩|⟨_,g1,g2⟩
              · rcases m1 _ _ _ _ g1 g3 with h1|h1
                · obtain ⟨n',m,o',c',q1,q2,q3⟩:=tmine b h1
                  exact hb.2.2.1 _ _ _ q2 q3
                · have:=hb.1; omega
              · exact hb.2.2.1 _ _ _ g1 g2
          have hRn:RnE l (aC C1 μ1 (S.h1 x y) w') (aC C μ2 hp' w'):=by
            have nameOf:∀ j,j < S.nx1->∃ m,get? l j=some m/\(j,m)∈l:=fun j hj=>by
              obtain ⟨m,hg⟩:=uA ck5 j hj
              exact ⟨m,hg,get?_mem hg⟩
            refine ⟨?_,?_,?_,rfl,fun _ _ _ e=>e.elim⟩
            · intro j p hj e
              obtain ⟨m,hg,hm⟩:=nameOf j (hh1.nx _ _ e hj)
              have hml:=(l3 _ _ hm).2.1
              show μ2 _=_
              rw [hg,hμ2]
              simp only [Option.getD_some,base_low hml,dP ck4 hm,cid,hml,if_true]
              exact e
            · intro d i p hd e
              obtain ⟨o,ho⟩:=hh1.fam _ _ e (dE _ _)
              have h2:¬ fid d i < FB:=Nat.not_lt.2 (dE _ _)
              have hd1:d < S.nx1:=by
                simp only [hget,h2,if_false,fB i hd,fQ i hd] at ho
                split at ho
                · rename_i f' hf'; exact hh1.keys _ _ hf'
                · cases ho
              obtain ⟨m,hg,hm⟩:=nameOf d hd1
              have hml:=(l3 _ _ hm).2.1
              have h3:¬ fid m i < FB:=Nat.not_lt.2 (dE _ _)
              show μ2 _=_
              rw [hg,hμ2]
              simp only [Option.getD_some,base_fid hml,dP ck4 hm,cid,h3,if_false,fQ i hml]
              exact e
            · rintro b ⟨hb1,hb2,hb3,hb4⟩
              refine ⟨hb1,?_,?_,hb4⟩
              · rcases hb2 with hh|hh|hh
                · obtain ⟨hfr,hu⟩:=hh
                  rw [hU,hfr] at hu
                  exact hu.2.1
                · obtain ⟨n',m,o',c',q1,q2,q3⟩:=tmine b hh
                  rcases h.mine _ _ _ _ q2 q3 with h1|h1
                  · exact .inr (.inl h1)
                  · exact .inr (.inr h1)
                · exact .inr (.inr (Nat.le_trans h.frm.size hh))
              · intro n o c hg hm
                rcases split n o b c hg hm with ⟨j,o1,_,g1,_,g3⟩|⟨g0,g1,g2⟩
                · exact hb3 _ _ _ g1 g3
                · rcases hb2 with hh|hh|hh
                  · obtain ⟨hfr,hu⟩:=hh
                    rw [hU,hfr] at hu
                    exact hu.2.2.1 _ _ _ g1 g2
                  · exact tin n b c g0 ⟨_,g1⟩ g2 hh
                  · have:=h.lt g1 g2
                    have hh':w.heap.size<=b:=hh
                    omega
          refine ⟨_,_,μ2,hK y hpost,rfl,?_,?_,?_⟩
          · rw [<- hhp']; exact hE
          · show aL C μ2 (rB (pX l (flip l) (S.h1 x y)) (wE ids st.hp)) nx' w'
            rw [<- hhp']
            refine ⟨⟨?_,?_⟩,?_,?_,?_,?_,?_,?_,?_⟩
            · intro id o hg
              rw [key] at hg
              cases hb:back l id with
              | none=>rw [hb] at hg; exact h.obj.keys _ _ hg
              | some j=>exact (l3 _ _ (back_mem hb)).2.1
            · intro n o hg
              have hg':=hg
              rw [hkey] at hg
              cases hb:back l (fbase n) with
              | none =>
                rw [hb] at hg
                obtain ⟨b,c,z,e1,e2,e3⟩:=h.obj.obj n o hg
                have e1':μ n=some (b,c):=e1
                refine ⟨b,c,z,keep _ _ e1',?_,e3.mono hE⟩
                exact (hfrm.block b (h.lt hg e1') (tin n b c hb ⟨_,hg⟩ e1')).trans e2
              | some j =>
                rw [hb] at hg
                simp only [Option.map_eq_some_iff] at hg
                obtain ⟨o1,g1,rfl⟩:=hg
                obtain ⟨b,c,z,e1,e2,e3⟩:=hh1.obj.obj _ o1 g1
                refine ⟨b,c,z,?_,e2,Rw hRn e3⟩
                show μ2 n=_
                rw [hμ2]
                simp only [hb]
                exact e1
            · intro n n' o1 o2 b c1 c2 g1 g2 e1 e2
              rcases split n o1 b c1 g1 e1 with ⟨j,x1,a0,a1,a2,a3⟩|⟨a0,a1,a2⟩ <;> rcases split n' o2 b c2 g2 e2 with ⟨j',x2,b0,b1,b2,b3⟩|⟨b0,b1,b2⟩
              · have heq:=hh1.inj _ _ _ _ _ _ _ a1 b1 a3 b3
                have hj:=(l3 _ _ (back_mem a0)).2.2
                have hj':=(l3 _ _ (back_mem b0)).2.2
                by_cases hn:n < FB
                · by_cases hn':n' < FB
                  · simp only [cid,hn,hn',if_true] at heq
                    subst heq
                    rw [base_low hn] at a0
                    rw [base_low hn'] at b0
                    exact l1 _ _ _ (back_mem a0) (back_mem b0)
                  · simp only [cid,hn,hn',if_true,if_false] at heq
                    have:=dE j' (n' / FB - 1)
                    omega
                · by_cases hn':n' < FB
                  · simp only [cid,hn,hn',if_true,if_false] at heq
                    have:=dE j (n / FB - 1)
                    omega
                  · simp only [cid,hn,hn',if_false] at heq
                    obtain ⟨rfl,hi⟩:=C6 hj hj' heq
                    have hbe:=l1 _ _ _ (back_mem a0) (back_mem b0)
                    simp only [fbase,hn,hn',if_false] at hbe
                    rw [<- oL (Nat.not_lt.1 hn),<- oL (Nat.not_lt.1 hn'),hbe,hi]
              · exfalso
                rcases m1 _ _ _ _ a1 a3 with hh|hh
                · exact tin n' b c2 b0 ⟨_,b1⟩ b2 hh
                · have:=h.lt b1 b2; omega
              · exfalso
                rcases m1 _ _ _ _ b1 b3 with hh|hh
                · exact tin n b c1 a0 ⟨_,a1⟩ a2 hh
                · have:=h.lt a1 a2; omega
              · exact h.inj _ _ _ _ _ _ _ a1 b1 a2 b2
            · intro n o b c g e
              rcases split n o b c g e with ⟨j,x1,a0,a1,a2,a3⟩|⟨a0,a1,a2⟩
              · rcases m1 _ _ _ _ a1 a3 with hh|hh
                · obtain ⟨n',m,o',c',q1,q2,q3⟩:=tmine b hh
                  exact h.mine _ _ _ _ q2 q3
                · exact .inr (Nat.le_trans h.frm.size hh)
              · exact h.mine _ _ _ _ a1 a2
            · intro id o hg
              rw [key] at hg
              cases hb:back l id with
              | none=>rw [hb] at hg; have:=h.keys _ _ hg; omega
              | some j=>exact (l3 _ _ (back_mem hb)).1
            · intro id p e hlt
              rw [hμ2] at e
              simp only [base_low hlt] at e
              cases hb:back l id with
              | none=>rw [hb] at e; have:=h.nx _ _ e hlt; omega
              | some j=>exact (l3 _ _ (back_mem hb)).1
            · intro id p e hge
              rw [hμ2] at e
              simp only at e
              rw [hkey]
              cases hb:back l (fbase id) with
              | none=>rw [hb] at e; exact h.fam _ _ e hge
              | some j =>
                rw [hb] at e
                have hn:¬ id < FB:=Nat.not_lt.2 hge
                simp only [cid,hn,if_false] at e ⊢
                obtain ⟨o,ho⟩:=hh1.fam _ _ e (dE _ _)
                exact ⟨rnO l (flip l) o,by simp [ho]⟩
            · exact fun id p e=>keep _ _ (h.pin id p e)
            · refine h.frm.trans' hfrm ?_
              intro i hi
              obtain ⟨n',m,o',c',q1,q2,q3⟩:=tmine i hi
              rcases h.mine _ _ _ _ q2 q3 with h1|h1
              · exact .inl h1
              · exact .inr h1
          · show R (aC C μ2 (rB (pX l (flip l) (S.h1 x y)) (wE ids st.hp)) w') _ _
            rw [<- hhp']
            exact Fq hRn hR1
  · exact he.elim
end
end Go.Eng
