/- A part of the proof. -/
import Derived.Test.YtpiolkcdfgiefaaGreatDoorEngT
import Derived.Laws.AppendOwn
namespace Go.Eng
open Go Go.RowKit
theorem pB {hp:List (Nat×aT)} {k:Nat} (hk:k < FB) (hnf:∀ f,get? hp k≠some (.fam f)) (n:Nat):hget (drop? hp k) n=if n=k then none else hget hp n:=by
 by_cases hn:n < FB
 ·rw [fH hn,fH hn,get?_drop];by_cases e:k=n
  ·simp [e]
  ·have:¬ n=k:=fun h=>e h.symm;simp [e,this]
 ·have hne:¬ n=k:=by omega
  simp only [hget,hn,if_false,hne,get?_drop];by_cases e:k=n % FB
  ·simp only [e,if_true];rw [e] at hnf;cases hg:get? hp (n % FB) with
   | none=>rfl
   | some o=>cases o <;> first|rfl|exact absurd hg (hnf _)
  ·simp [e]
section
variable {C:Ctx} {μ:Nat->Option (Nat×Nat)} {hp:List (Nat×aT)} {nx:Nat} {w:World}
theorem bO.wD (h:bO C μ hp nx w) {k:Nat} {o0:aT} (hg:get? hp k=some o0) (hs:solid? o0=some o0) :
  (aN C μ hp w).Le (aN C μ (drop? hp k) w)/\bO C μ (drop? hp k) nx w:=by
 have hk:=h.obj.keys _ _ hg;have hd:=pB hk (fun f e=>by rw [hg] at e; cases e; cases hs);have old:∀ {id:Nat} {o:aT},hget (drop? hp k) id=some o->id≠k/\hget hp id=some o:=by
  intro id o ho;rw [hd] at ho;split at ho
  ·cases ho
  ·rename_i hne; exact ⟨hne,ho⟩
 have kold:∀ {id:Nat} {o:aT},get? (drop? hp k) id=some o->get? hp id=some o:=by
  intro id o ho;rw [get?_drop] at ho;split at ho
  ·cases ho
  ·exact ho
 have hE:(aN C μ hp w).Le (aN C μ (drop? hp k) w):=by
  refine ⟨⟨⟨?_,fun _ _=>rfl⟩,fun _ _ e=>e⟩,Kd.refl _,fun _ _ _ e=>e⟩;rintro b ⟨a1,a2,a3,a4⟩;exact ⟨a1,a2,fun id o c ho=>a3 id o c (old ho).2,a4⟩
 refine ⟨hE,⟨⟨fun id o e=>h.obj.keys _ _ (kold e),?_⟩,?_,?_,fun id o e=>h.keys _ _ (kold e),h.nx,?_,h.pin,h.frm,fun id p q e hge g=>h.pos id p q e hge (old g).2⟩⟩
 ·intro id o ho;obtain ⟨b,c,x,e1,e2,e3⟩:=h.obj.obj id o (old ho).2;exact ⟨b,c,x,e1,e2,e3.mono hE⟩
 ·intro id id' o o' b c c' g g' e e';exact h.inj _ _ _ _ _ _ _ (old g).2 (old g').2 e e'
 ·intro id o b c g e;exact h.mine _ _ _ _ (old g).2 e
 ·intro id p e hge;obtain ⟨o,ho⟩:=h.fam id p e hge;refine ⟨o,?_⟩;rw [hd,if_neg (by omega)];exact ho
theorem bO.rename (h:bO C μ hp nx w) (hnx:nx < FB) {k b c:Nat} {o0:aT} (hg:get? hp k=some o0) (hs:solid? o0=some o0) (hm:μ k=some (b,c)) :
  (aN C μ hp w).Le (aN C (upd μ nx (b,c)) ((nx,o0)::drop? hp k) w)/\bO C (upd μ nx (b,c)) ((nx,o0)::drop? hp k) (nx+1) w:=by
 have hk:=h.obj.keys _ _ hg;have hknx:=h.keys _ _ hg;have hd:=pB hk (fun f e=>by rw [hg] at e; cases e; cases hs);have hmn:μ nx=none:=by
  cases e:μ nx with
  | none=>rfl
  | some p=>have:=h.nx nx p e hnx; omega
 have hgn:get? (drop? hp k) nx=none:=by
  rw [get?_drop];split
  ·rfl
  ·cases e:get? hp nx with
   | none=>rfl
   | some p=>have:=h.keys nx p e; omega
 have hc:=iW (hp:=drop? hp k) (id:=nx) (x:=o0) hnx hs (fun f e=>by rw [hgn] at e; cases e);have hgk:hget hp k=some o0:=h.get hg hs
 -- an object of the new store is one of the old,in the same block
 have old:∀ {id:Nat} {o:aT},hget ((nx,o0)::drop? hp k) id=some o->(id=nx/\o=o0)\/(id≠nx/\id≠k/\hget hp id=some o):=by
  intro id o ho;rw [hc] at ho;split at ho
  ·rename_i e; cases ho; exact .inl ⟨e.symm,rfl⟩
  ·rename_i hne;rw [hd] at ho;split at ho
   ·cases ho
   ·rename_i hne'; exact .inr ⟨dY hne,hne',ho⟩
 have upo:∀ {id:Nat},id≠nx->upd μ nx (b,c) id=μ id:=by intro id hne; simp [upd,hne]
 have upn:upd μ nx (b,c) nx=some (b,c):=by simp [upd]
 have hE:(aN C μ hp w).Le (aN C (upd μ nx (b,c)) ((nx,o0)::drop? hp k) w):=by
  refine ⟨⟨⟨?_,fun _ _=>rfl⟩,S5 hmn _⟩,Kd.refl _,fun _ _ _ e=>e⟩;rintro q ⟨a1,a2,a3,a4⟩;refine ⟨a1,a2,?_,a4⟩;intro id o c' ho he;rcases old ho with ⟨rfl,rfl⟩|⟨h1,_,h3⟩
  ·rw [upn] at he;cases he;exact a3 _ _ _ hgk hm
  ·rw [upo h1] at he;exact a3 _ _ _ h3 he
 refine ⟨hE,⟨⟨?_,?_⟩,?_,?_,?_,?_,?_,fun id p e=>hE.μ _ _ (h.pin id p e),h.frm,?_⟩⟩
 ·intro id o e;rw [get?_cons] at e;split at e
  ·omega
  ·rw [get?_drop] at e;split at e
   ·cases e
   ·exact h.obj.keys _ _ e
 ·intro id o ho;rcases old ho with ⟨rfl,rfl⟩|⟨h1,_,h3⟩
  ·obtain ⟨b',c',x,e1,e2,e3⟩:=h.obj.obj k _ hgk;have e1':μ k=some (b',c'):=e1;rw [hm] at e1';cases e1';exact ⟨b,c,x,upn,e2,e3.mono hE⟩
  ·obtain ⟨b',c',x,e1,e2,e3⟩:=h.obj.obj id o h3;exact ⟨b',c',x,hE.μ _ _ e1,e2,e3.mono hE⟩
 ·intro id id' o o' q c1 c2 g g' e e';rcases old g with ⟨rfl,rfl⟩|⟨h1,h2,h3⟩ <;> rcases old g' with ⟨rfl,rfl⟩|⟨k1,k2,k3⟩
  ·rfl
  ·rw [upn] at e;rw [upo k1] at e';cases e;exact absurd (h.inj _ _ _ _ _ _ _ hgk k3 hm e').symm k2
  ·rw [upn] at e';rw [upo h1] at e;cases e';exact absurd (h.inj _ _ _ _ _ _ _ h3 hgk e hm) h2
  ·rw [upo h1] at e;rw [upo k1] at e';exact h.inj _ _ _ _ _ _ _ h3 k3 e e'
 ·intro id o q c1 g e;rcases old g with ⟨rfl,rfl⟩|⟨h1,h2,h3⟩
  ·rw [upn] at e;cases e;exact h.mine _ _ _ _ hgk hm
  ·rw [upo h1] at e;exact h.mine _ _ _ _ h3 e
 ·intro id o e;rw [get?_cons] at e;split at e
  ·omega
  ·rw [get?_drop] at e;split at e
   ·cases e
   ·have:=h.keys _ _ e; omega
 ·intro id p e hlt;by_cases h1:id=nx
  ·omega
  ·rw [upo h1] at e;have:=h.nx id p e hlt;omega
 ·intro id p e hge;have h1:id≠nx:=by omega
  rw [upo h1] at e;obtain ⟨o,ho⟩:=h.fam id p e hge;refine ⟨o,?_⟩;rw [hc,if_neg (dY h1),hd,if_neg (by omega)];exact ho
 ·intro id p q e hge g;have h1:id≠nx:=by omega
  rw [upo h1] at e;rcases old g with ⟨rfl,_⟩|⟨_,_,h3⟩
  ·exact absurd rfl h1
  ·exact h.pos id p q e hge h3
end
def mW:SV->Bool
 | .nil=>true
 | .cons h t=>Ar h && mW t
 | .ints _ _ _ t=>mW t
 | _=>false
theorem Gm {E:Env} {s:SV} {v:Value} (h:Ar s=true) (hr:R E s [v]):v.oneCell'=true:=by
 cases s <;> simp only [Ar,dU] at h <;> simp only [R] at hr
 case val u=>obtain rfl:=aC.1 hr; exact h
 case fn=>obtain ⟨_,hv,_⟩:=hr; obtain rfl:=aC.1 hv; exact Uc _ _
 case osl=>rcases hr with ⟨_,_,_,hv⟩|⟨_,_,_,_,hv,_⟩ <;> (obtain rfl:=aC.1 hv; rfl)
 case lsl=>rcases hr with ⟨_,_,hv⟩|⟨_,_,_,_,hv,_⟩ <;> (obtain rfl:=aC.1 hv; rfl)
 case flsl=>rcases hr with ⟨_,_,hv⟩|⟨_,_,_,hv,_⟩ <;> (obtain rfl:=aC.1 hv; rfl)
 all_goals first
  | (obtain rfl:=aC.1 hr; rfl)
  | (obtain ⟨_,_,_,hv⟩:=hr; obtain rfl:=aC.1 hv; rfl)
  | (obtain ⟨_,_,_,_,hv,_⟩:=hr; obtain rfl:=aC.1 hv; rfl)
  | (obtain ⟨_,_,hv,_⟩:=hr; obtain rfl:=aC.1 hv; rfl)
  | (obtain ⟨_,hv,_⟩:=hr; obtain rfl:=aC.1 hv; rfl)
  | (obtain ⟨_,_,_,hv,_⟩:=hr; obtain rfl:=aC.1 hv; rfl)
theorem qN {E:Env}:∀ {l:SV} {cs:List Value},mW l=true->R E l cs->∀ v∈cs,v.oneCell'=true:=by
 intro l;induction l with
 | cons h t _ iht =>
  intro cs h1 hr v hv;simp only [mW,aO] at h1;simp only [R] at hr;obtain ⟨x,xs,rfl,k1,k2⟩:=hr;rcases aI.1 hv with rfl|hv
  ·exact Gm h1.1 k1
  ·exact iht h1.2 k2 v hv
 | ints k n f t iht =>
  intro cs h1 hr v hv;simp only [R] at hr;obtain ⟨xs,rfl,k2⟩:=hr;rcases bM.1 hv with hv|hv
  ·unfold jR at hv;obtain ⟨i,_,rfl⟩:=bF.1 hv;rfl
  ·exact iht h1 k2 v hv
 | nil=>intro cs _ hr v hv; simp only [R] at hr; subst hr; cases hv
 | _=>intro cs h1; simp [mW] at h1
def rL:SV->Bool
 | .nil=>true
 | .cons h t=>mW h && rL t
 | _=>false
def Zm (hp:List (Nat×aT)) (sz:Nat):SV->(Nat->(Nat->SV)->Prop)->Prop
 | .nilsl,k=>k 0 fun _=>.junk
 | .slit sz' els,k=>bif Nat.beq sz sz' then bif rL els then iP els.len fun m=>k m (nV els) else False else False
 | .slice sz' n enc,k=>bif Nat.beq sz sz' then (∀ j,j < n->mW (enc j)=true)/\k n enc else False
 | .osl id sz' lo n,k=>match get? hp id with
  | some (.arr _ sz'' len enc)=>bif Nat.beq sz sz' then bif Nat.beq sz sz'' then lo+n<=len/\(∀ j,j < n->mW (enc (lo+j))=true)/\k n fun j=>enc (lo+j) else False else False
  | _=>False
 | _,_=>False
def aBd (y:SV) (m:Nat) (none some:Prop):Prop :=
 match y with
 | .nilsl=>none
 | .slit _ .nil=>none
 | .slit _ (.cons _ _)=>some
 | _=>(m=0->none)/\(0 < m->some)
def kO (n:Nat) (f g:Nat->SV):Nat->SV:=fun j=>bif Nat.blt j n then f j else g (j - n)
def Bg (n bytes:Nat):Prop:=n<=9223372036854775807/\n * bytes<=140737488355328
def Lr (st:St) (T sz bytes:Nat) (x y:SV) (k:SV->St->Prop):Prop :=
 match st with
 | ⟨fr,hp,nx⟩=>bif Nat.blt nx FB then Zm hp sz (qC y) fun m enc =>
   match x with
   | .nilsl=>Bg m bytes/\k (.lsl nx sz m) ⟨fr,(nx,.arr T sz m enc)::hp,nx+1⟩
   | .slit sz' els=>bif Nat.beq sz sz' then match els with
     | .nil=>Bg m bytes/\k (.lsl nx sz m) ⟨fr,(nx,.arr T sz m enc)::hp,nx+1⟩
     | els=>aBd (qC y) m (k (.slit sz els) ⟨fr,hp,nx⟩)
      (Bg (els.len+m) bytes/\k (.lsl nx sz (els.len+m)) ⟨fr,(nx,.arr T sz (els.len+m) (kO els.len (nV els) enc))::hp,nx+1⟩) else False
   | .osl id sz' lo n=>match get? hp id with
    | some (.arr T' sz'' len enc0)=>bif Nat.beq sz sz' then bif Nat.beq sz sz'' then bif Nat.beq T T' then
      (0 < n/\lo+n=len)/\Bg (n+m) bytes/\k (.osl nx sz lo (n+m)) ⟨fr,(nx,.arr T sz (lo+(n+m)) (kO (lo+n) enc0 enc))::drop? hp id,nx+1⟩ /\
       k (.osl nx sz 0 (n+m)) ⟨fr,(nx,.arr T sz (n+m) (kO n (fun j=>enc0 (lo+j)) enc))::drop? hp id,nx+1⟩ else False else False else False
    | _=>False
   | .lsl id sz' n=>match get? hp id with
    | some (.arr T' sz'' len enc0)=>bif Nat.beq sz sz' then bif Nat.beq sz sz'' then bif Nat.beq T T' then
      n=len/\Bg (n+m) bytes/\k (.lsl nx sz (n+m)) ⟨fr,(nx,.arr T sz (n+m) (kO n enc0 enc))::drop? hp id,nx+1⟩ else False else False else False
    | _=>False
   | _=>False
  else False
def B2 (E:Env) (sz m:Nat) (enc:Nat->SV) (v:Value):Prop :=
 ∃ a cap,v=.slice a m cap/\(0 < m->∃ b off,a=some ⟨b,off,none⟩/\∀ j,j < m->∃ cs,R E (enc j) cs/\cs.length=sz/\Holds E.w b (off+j * sz) cs/\∀ u∈cs,u.oneCell'=true)
theorem xC {E:Env} {sz m:Nat} {enc:Nat->SV} {a:Option Addr} {cap:Nat} (h:∀ j,j < m->qL E a sz j (R E (enc j))) (h1:∀ j,j < m->mW (enc j)=true):B2 E sz m enc (.slice a m cap):=by
 refine ⟨a,cap,rfl,fun hm=>?_⟩;obtain ⟨b,off,cs,ea,_⟩:=h 0 hm;refine ⟨b,off,ea,fun j hj=>?_⟩;obtain ⟨b',off',cs',ea',_,hr,hl,hh⟩:=h j hj;rw [ea] at ea';cases ea';exact ⟨cs',hr,hl,hh,fun u hu=>qN (h1 j hj) hr u hu⟩
theorem Ij {E:Env} {a:Option Addr} {sz:Nat}:∀ {els:SV} {i:Nat},RE E els a sz i->∀ j,j < els.len->qL E a sz (i+j) (R E (nV els j)):=by
 intro els;induction els with
 | cons h t _ iht =>
  intro i hr j hj;simp only [RE] at hr;cases j with
  | zero=>exact hr.1
  | succ j =>
   have:=iht hr.2 j (by simp only [SV.len] at hj; omega);rw [show i+(j+1)=i+1+j by omega];exact this
 | ints=>intro i hr; simp [RE] at hr
 | _=>intro i _ j hj; simp [SV.len] at hj
theorem Fs:∀ {els:SV},rL els=true->∀ j,j < els.len->mW (nV els j)=true:=by
 intro els;induction els with
 | cons h t _ iht =>
  intro hr j hj;simp only [rL,aO] at hr;cases j with
  | zero=>exact hr.1
  | succ j=>exact iht hr.2 j (by simp only [SV.len] at hj; omega)
 | ints=>intro hr; simp [rL] at hr
 | _=>intro _ j hj; simp [SV.len] at hj
section
variable {P:Program} {C:Ctx} {μ:Nat->Option (Nat×Nat)} {hp:List (Nat×aT)} {nx:Nat} {w:World}
theorem Ks (h:bO C μ hp nx w) {sz:Nat} {y:SV} {v:Value} (hr:R (aN C μ hp w) y [v]) {k:Nat->(Nat->SV)->Prop} (he:Zm hp sz y k) :
  ∃ m enc,k m enc/\B2 (aN C μ hp w) sz m enc v/\∀ (p q:Prop),aBd y m p q->(m=0->p)/\(0 < m->q):=by
 cases y <;> simp only [Zm] at he <;> try exact he.elim
 ·rename_i id sz' lo n;split at he
  ·rename_i T sz'' len enc hg;cases h1:Nat.beq sz sz' with
   | false=>simp [h1] at he
   | true =>
   cases h2:Nat.beq sz sz'' with
   | false=>simp [h1,h2] at he
   | true =>
   have e1:=nbeq h1;have e2:=nbeq h2;subst e1;subst e2;simp only [h1,cond_true] at he;obtain ⟨g1,g2,g3⟩:=he;simp only [R] at hr;rcases hr with ⟨rfl,a,cap,hv⟩|⟨hn0,b,c,m1,hv,hle⟩
   ·exact ⟨0,_,g3,⟨_,_,aC.1 hv,fun hn=>absurd hn (fE 0)⟩,fun _ _ e=>e⟩
   refine ⟨n,_,g3,⟨_,_,aC.1 hv,fun hn=>?_⟩,fun _ _ e=>e⟩;obtain ⟨cs,c1,c2,c3,c4⟩:=h.obj.arr hg (by omega) m1;refine ⟨b,lo * sz,rfl,fun j hj=>?_⟩;obtain ⟨xs,x1,x2,x3⟩:=c4 (lo+j) (by omega);refine ⟨xs,x1,x2,?_,fun u hu=>qN (g2 j hj) x1 u hu⟩;intro q u hq;have hh:=Holds.row c1 0 ((lo+j) * sz+q) u (by simpa using x3 q u hq);rw [<- hh];congr 2;rw [bW];omega
  ·exact he.elim
 ·simp only [R] at hr;refine ⟨0,_,he,⟨_,_,aC.1 hr,fun h=>by omega⟩,fun p q e=>⟨fun _=>e,fun h=>by omega⟩⟩
 ·rename_i sz' n enc;cases h1:Nat.beq sz sz' with
  | false=>simp [h1] at he
  | true =>
  have e1:=nbeq h1;subst e1;simp only [h1,cond_true] at he;simp only [R] at hr;obtain ⟨a,cap,hv,hle,hel⟩:=hr;refine ⟨n,enc,he.2,?_,fun _ _ e=>e⟩;rw [aC.1 hv];exact xC hel he.1
 ·rename_i sz' els;cases h1:Nat.beq sz sz' with
  | false=>simp [h1] at he
  | true =>
  cases h2:rL els with
  | false=>simp [h1,h2] at he
  | true =>
  have e1:=nbeq h1;subst e1;simp only [h1,h2,cond_true,kF] at he;simp only [R] at hr;obtain ⟨a,hv,hel⟩:=hr;refine ⟨els.len,nV els,he,?_,?_⟩
  ·rw [aC.1 hv];exact xC (fun j hj=>by simpa using Ij hel j hj) (Fs h2)
  ·intro p q e;cases els with
   | nil=>exact ⟨fun _=>e,fun h=>by simp [SV.len] at h⟩
   | cons x r=>exact ⟨fun h=>by simp [SV.len] at h,fun _=>e⟩
   | _=>simp [rL] at h2
theorem yK {E:Env} {sz b off:Nat} {enc:Nat->SV} {p:Value->Prop}:∀ (m:Nat),(∀ j,j < m->∃ cs,R E (enc j) cs/\cs.length=sz/\Holds E.w b (off+j * sz) cs/\∀ u∈cs,p u) ->
  ∃ news:List Value,news.length=m * sz/\Holds E.w b off news/\(∀ u∈news,p u)/\∀ j,j < m->∃ cs,R E (enc j) cs/\cs.length=sz/\∀ q v,cs[q]?=some v->news[j * sz+q]?=some v:=by
 intro m;induction m with
 | zero=>intro _; exact ⟨[],by simp,(fun j v e=>by simp at e),(fun u hu=>by cases hu),fun j hj=>by omega⟩
 | succ m ih =>
  intro h;obtain ⟨news,n1,n2,n3,n4⟩:=ih fun j hj=>h j (by omega);obtain ⟨cs,c1,c2,c3,c4⟩:=h m (by omega);refine ⟨news++cs,by rw [aV,n1,c2,bW,eK],?_,?_,?_⟩
  ·intro q v e;by_cases hq:q < news.length
   ·rw [aU hq] at e;exact n2 q v e
   ·rw [bG (by omega)] at e;have:=c3 _ v e;rw [<- this];congr 2;omega
  ·intro u hu;rcases bM.1 hu with hu|hu
   ·exact n3 u hu
   ·exact c4 u hu
  ·intro j hj;by_cases hjm:j < m
   ·obtain ⟨ds,d1,d2,d3⟩:=n4 j hjm;refine ⟨ds,d1,d2,fun q v e=>?_⟩;have hlt:=(aR.1 (d3 q v e)).1;rw [aU hlt];exact d3 q v e
   ·have:j=m:=by omega
    subst this;refine ⟨cs,c1,c2,fun q v e=>?_⟩;rw [bG (by omega),n1,Nat.add_sub_cancel_left];exact e
theorem Fx {w:World} {b off j:Nat}:w.cell? ((⟨b,off,none⟩:Addr).add j)=w.cell? ⟨b,off+j,none⟩:=by
 congr 1;unfold Addr.add;split
 ·subst_vars; rfl
 ·rfl
theorem mU {t ty e:TypeId} {i:TypeInfo} (ht:P.underlying t=some (.slice e)) (hi:P.info? e=some i) {base:Option Addr} {n cap:Nat} (hle:n<=cap) {a:Option Addr} {c:Nat} :
  (Builtin.append_ #[t,t] ty #[.slice base n cap,.slice a 0 c]).run P w=.ok (.slice base n cap) w:=by
 cases base <;> cases a <;> simp [Builtin.append_,run_underlying ht,sizeOf,typeInfo,hi,Builtin.lenOf,Builtin.firstCells,hle,loadCells,loadCellsFrom,storeCells]
theorem pA (k:Nat) (o:aT):∀ hp:List (Nat×aT),drop? (gQ hp k o) k=drop? hp k:=by
 intro hp;induction hp with
 | nil=>simp [gQ,drop?,Nat.beq_refl]
 | cons p r ih =>
  obtain ⟨n,x⟩:=p;simp only [gQ];cases hb:Nat.beq n k with
  | true=>simp [drop?,hb,Nat.beq_refl]
  | false=>simp [drop?,hb,ih]
theorem bO.yQ (h:bO C μ hp nx w) {id b c:Nat} {o x:aT} (hg:get? hp id=some o) (hs:solid? o=some o) (hsx:solid? x=some x) (hm:μ id=some (b,c)) (hn:∀ l p,o≠.hid l p) (hnx:∀ l p,x≠.hid l p) (hx:∀ y,w.heap[b]?=some y->HR (aN C μ hp w) o c y->HR (aN C μ hp w) x c y) :
  (aN C μ hp w).Le (aN C μ (gQ hp id x) w)/\bO C μ (gQ hp id x) nx w:=by
 obtain ⟨b',c',y,e1,e2,e3⟩:=h.obj.obj id _ (h.get hg hs);have e1':μ id=some (b',c'):=e1;rw [hm] at e1';cases e1';exact h.write (hp':=gQ hp id x) (x:=x) (id:=id) (b:=b) (c:=c) (o:=o) (y:=y) (fun n=>by rw [gK]; exact iW (h.obj.keys _ _ hg) hsx (fun f e=>by rw [hg] at e; cases e; cases hs) n) (gL hg) (h.get hg hs) hm rfl (fun _ _=>rfl) e2 rfl rfl rfl (hx y e2 e3) hn (DLe.of_le (aL _)) (fun hf=>absurd (h.obj.keys _ _ hg) (bJ.2 hf)) hnx
def Els (E:Env) (sz n:Nat) (enc:Nat->SV) (xs:List Value):Prop :=
 xs.length=n * sz/\∀ j,j < n->∃ cs,R E (enc j) cs/\cs.length=sz/\∀ q v,cs[q]?=some v->xs[j * sz+q]?=some v
theorem Els.app {E:Env} {sz n m:Nat} {f g:Nat->SV} {xs ys:List Value} (h:Els E sz n f xs) (k:Els E sz m g ys):Els E sz (n+m) (kO n f g) (xs++ys):=by
 refine ⟨by rw [aV,h.1,k.1,bW],fun j hj=>?_⟩;unfold kO;by_cases hjn:j < n
 ·have hb:Nat.blt j n=true:=cZ hjn;obtain ⟨cs,c1,c2,c3⟩:=h.2 j hjn;refine ⟨cs,by simpa [hb] using c1,c2,fun q v e=>?_⟩;rw [aU (aR.1 (c3 q v e)).1];exact c3 q v e
 ·have hb:Nat.blt j n=false:=by
   cases e:Nat.blt j n with
   | false=>rfl
   | true=>exact absurd (aM (n:=j+1) e) hjn
  obtain ⟨cs,c1,c2,c3⟩:=k.2 (j - n) (by omega);refine ⟨cs,by simpa [hb] using c1,c2,fun q v e=>?_⟩;have hle:n * sz<=j * sz:=bT _ (by omega);rw [bG (by rw [h.1]; omega),h.1];have:=c3 q v e;rw [Nat.sub_mul] at this;rw [<- this];congr 1;omega
theorem Els.mono {E E':Env} (hE:E.LeR E') {sz n:Nat} {f:Nat->SV} {xs:List Value} (h:Els E sz n f xs):Els E' sz n f xs :=
 ⟨h.1,fun j hj=>let ⟨cs,c1,c2,c3⟩:=h.2 j hj; ⟨cs,fQ hE c1,c2,c3⟩⟩
theorem Ms (h:bO C μ hp nx w) (hnx:nx < FB) {e sz n gc:Nat} (hn0:0 < n) {enc:Nat->SV} {xs:List Value} (hx:Els (aN C μ hp w) sz n enc xs) (hgc:n<=gc/\gc<=9223372036854775807) (zs:Array Value) (hzs:zs.size=(gc - n) * sz) :
  (aN C μ hp w).Le (aN C (upd μ nx (w.heap.size,gc)) ((nx,.arr e sz n enc)::hp) (w.drew.alloc (.cells (xs.toArray++zs) e))) /\
  bO C (upd μ nx (w.heap.size,gc)) ((nx,.arr e sz n enc)::hp) (nx+1) (w.drew.alloc (.cells (xs.toArray++zs) e)):=by
 have hb:Below w.heap.size w w.drew:=(Below.refl _ _).drew;have h1:=h.below hb;have hE1:=kT (C:=C) (μ:=μ) (hp:=hp) hb;have hx1:=hx.mono hE1.toLeR;obtain ⟨hE2,h2⟩:=h1.alloc hnx (.cells (xs.toArray++zs) e) (.arr e sz n enc) (dJ hn0) gc (by
  refine ⟨(xs.toArray++zs).toList,by simp,?_,hgc,?_⟩
  ·rw [gI,lX,hzs,fA,hx1.1,<- bW];congr 1;omega
  ·intro j hj;obtain ⟨cs,c1,c2,c3⟩:=hx1.2 j hj;refine ⟨cs,c1,c2,fun q v e=>?_⟩;have:=c3 q v e;rw [iQ,aU (aR.1 this).1];exact this)
 exact ⟨hE1.trans hE2,h2⟩
theorem Vw {_P:Program} {_e:Nat} {i:TypeInfo} {z:CV} (hz:nM i=some z) (hzl:z.len=i.size):∃ v,i.zero=some v/\v.cells.size=i.size:=by
 obtain ⟨v,h1,_,_,h4⟩:=mK (E:=kP (fun _=>False) ⟨#[],default,default,default,default⟩) hz;exact ⟨v,h1,by omega⟩
theorem Holds.add {w:World} {b off:Nat} {cs:List Value} (h:Holds w b off cs):∀ j u,cs[j]?=some u->w.cell? ((⟨b,off,none⟩:Addr).add j)=some u :=
 fun j u e=>by rw [Fx]; exact h j u e
theorem vX (h:bO C μ hp nx w) (hnx:nx < FB) {t ty e:TypeId} {i:TypeInfo} {z:CV} (ht:P.underlying t=some (.slice e)) (hi:P.info? e=some i) (hz:nM i=some z) (hzl:z.len=i.size)
  {base:Option Addr} {n cap m c':Nat} {b off:Nat} {enc0 enc:Nat->SV} {olds news:List Value} (ho:Els (aN C μ hp w) i.size n enc0 olds) (hn:Els (aN C μ hp w) i.size m enc news) (hnh:Holds w b off news)
  (hbase:(base=none/\n=0/\cap=0)\/∃ ad,base=some ad/\∀ j u,olds[j]?=some u->w.cell? (ad.add j)=some u) (hm:0 < m) (hcap:cap < n+m) (hroom:Bg (n+m) i.bytes) {encA:Nat->SV} (hA:Els (aN C μ hp w) i.size (n+m) encA (olds++news)) :
  ∃ v' w' gc,(Builtin.append_ #[t,t] ty #[.slice base n cap,.slice (some ⟨b,off,none⟩) m c']).run P w=.ok v' w'/\(aN C μ hp w).Le (aN C (upd μ nx (w.heap.size,gc)) ((nx,.arr e i.size (n+m) encA)::hp) w') /\
   bO C (upd μ nx (w.heap.size,gc)) ((nx,.arr e i.size (n+m) encA)::hp) (nx+1) w'/\R (aN C (upd μ nx (w.heap.size,gc)) ((nx,.arr e i.size (n+m) encA)::hp) w') (.lsl nx i.size (n+m)) [v']:=by
 obtain ⟨zv,z1,z2⟩:=Vw (_P:=P) (_e:=e) hz hzl;have hr1:=hroom.1;have hr2:=hroom.2;have res:∀ gc w',(aN C μ hp w).Le (aN C (upd μ nx (w.heap.size,gc)) ((nx,.arr e i.size (n+m) encA)::hp) w')->n+m<=gc->R (aN C (upd μ nx (w.heap.size,gc)) ((nx,.arr e i.size (n+m) encA)::hp) w') (.lsl nx i.size (n+m)) [.slice (some ⟨w.heap.size,0,none⟩) (n+m) gc]:=by
  intro gc w' _ hgc;simp only [R];exact .inr ⟨by omega,w.heap.size,gc,by simp [aN,upd],rfl,hgc⟩
 rcases hbase with ⟨rfl,rfl,rfl⟩|⟨ad,rfl,hold⟩
 ·have hgc:=grownCap_ge w m 0 e;have hx0:olds=[]:=List.eq_nil_of_length_eq_zero (by simpa using ho.1);subst hx0;have run:=run_append_nil (P:=P) w t ty e i zv ht hi z1 ⟨b,off,none⟩ m c' news hn.1 hnh.add hm (by omega) (by simp only [aW] at hr2; omega);have na:=Ms (e:=e) h hnx (by omega) hA (gc:=grownCap w m 0 e) ⟨by omega,by have:=grownCap_le_maxLen w m 0 e (by simp only [maxLen]; omega); simpa only [maxLen] using this⟩ (Builtin.zeroCells zv.cells (grownCap w m 0 e - m)) (by rw [size_zeroCells,z2]; simp);simp only [fZ,aW] at na res ⊢;exact ⟨_,_,_,run,na.1,na.2,res _ _ na.1 hgc⟩
 ·have hgc:=grownCap_ge w (n+m) cap e;have run:=run_append_grow (P:=P) w t ty e i zv ht hi z1 ad n cap olds ho.1 hold ⟨b,off,none⟩ m c' news hn.1 hnh.add hcap (by omega) (growslice_fits hcap hr2);have na:=Ms (e:=e) h hnx (by omega) hA (gc:=grownCap w (n+m) cap e) ⟨by omega,by have:=grownCap_le_maxLen w (n+m) cap e (by simp only [maxLen]; omega); simpa only [maxLen] using this⟩ (Builtin.zeroCells zv.cells (grownCap w (n+m) cap e - (n+m))) (by rw [size_zeroCells,z2]);have ea:(olds++news).toArray=olds.toArray++news.toArray:=by simp
  rw [ea] at na;exact ⟨_,_,_,run,na.1,na.2,res _ _ na.1 hgc⟩
theorem Nf (f g:Nat->SV):kO 0 f g=g:=by
 funext j;unfold kO;have hb:Nat.blt j 0=false:=by cases j <;> rfl
 rw [hb];rfl
theorem B2.mono {E E':Env} (hE:E.Le E') (hw:E'.w=E.w) {sz m:Nat} {enc:Nat->SV} {v:Value} (h:B2 E sz m enc v):B2 E' sz m enc v:=by
 obtain ⟨a,cap,h1,h2⟩:=h;refine ⟨a,cap,h1,fun hm=>?_⟩;obtain ⟨b,off,h3,h4⟩:=h2 hm;refine ⟨b,off,h3,fun j hj=>?_⟩;obtain ⟨cs,c1,c2,c3,c4⟩:=h4 j hj;exact ⟨cs,lN hE c1,c2,by rw [hw]; exact c3,c4⟩
theorem xJ (h:bO C μ hp nx w) (hnx:nx < FB) {t ty e:TypeId} {i:TypeInfo} {z:CV} (ht:P.underlying t=some (.slice e)) (hi:P.info? e=some i) (hz:nM i=some z) (hzl:z.len=i.size)
  {a0:Option Addr} {m:Nat} {enc:Nat->SV} {vy:Value} (hsrc:B2 (aN C μ hp w) i.size m enc vy) (hroom:Bg m i.bytes) :
  ∃ v' w' μ',(Builtin.append_ #[t,t] ty #[.slice a0 0 0,vy]).run P w=.ok v' w'/\(aN C μ hp w).Le (aN C μ' ((nx,.arr e i.size m enc)::hp) w') /\
   bO C μ' ((nx,.arr e i.size m enc)::hp) (nx+1) w'/\R (aN C μ' ((nx,.arr e i.size m enc)::hp) w') (.lsl nx i.size m) [v']:=by
 obtain ⟨a,c',rfl,hsrc⟩:=hsrc;by_cases hm:m=0
 ·subst hm;have hgn:get? hp nx=none:=by
   cases e:get? hp nx with
   | none=>rfl
   | some p=>have:=h.keys nx p e; omega
  obtain ⟨hE,hh⟩:=h.same (hp':=(nx,.arr e i.size 0 enc)::hp) (nx':=nx+1) (Jf pX (fun f e=>by cases e) hgn) (by
   intro id o e;rw [get?_cons] at e;split at e
   ·subst_vars; exact ⟨fK _,hnx⟩
   ·have:=h.keys _ _ e; exact ⟨by omega,h.obj.keys _ _ e⟩) (iH _)
  refine ⟨_,_,μ,mU ht hi (aL _),hE,hh,?_⟩;simp only [R];exact .inl ⟨trivial,_,rfl⟩
 ·obtain ⟨b,off,ha,hel⟩:=hsrc (by omega);subst ha;obtain ⟨ns,n1,n2,n3,n4⟩:=yK m hel;have hb:(a0=none/\0=0/\0=0)\/∃ ad,a0=some ad/\∀ j u,([]:List Value)[j]?=some u->w.cell? (ad.add j)=some u:=by
   cases a0 with
   | none=>exact .inl ⟨rfl,rfl,rfl⟩
   | some ad=>exact .inr ⟨ad,rfl,fun j u e=>by simp at e⟩
  obtain ⟨v',w',gc,run,hE,hh,hR⟩:=vX (ty:=ty) (c':=c') (n:=0) (cap:=0) (base:=a0) (enc0:=fun _=>.junk) (olds:=[]) h hnx ht hi hz hzl ⟨by simp,fun j hj=>by omega⟩ ⟨n1,n4⟩ n2 hb (by omega) (by omega) (by simpa using hroom) (encA:=enc) (by rw [aW]; exact ⟨n1,n4⟩);simp only [aW] at hE hh hR;exact ⟨v',w',_,run,hE,hh,hR⟩
theorem vP {t ty e:TypeId} {i:TypeInfo} (ht:P.underlying t=some (.slice e)) (hi:P.info? e=some i)
  (g o sLen sCap:Nat) (cur:Array Value) (hg:w.heap[g]?=some (.cells cur e (0,0)))
  (a:Addr) (m c:Nat) (news:List Value) (hl:news.length=m * i.size) (hnews:∀ j u,news[j]?=some u->w.cell? (a.add j)=some u) (h1:∀ u∈news,u.oneCell'=true)
  (hroom:sLen+m<=sCap) (hfit:o+sLen * i.size+news.length<=cur.size) :
  (Builtin.append_ #[t,t] ty #[.slice (some ⟨g,o,none⟩) sLen sCap,.slice (some a) m c]).run P w =
   .ok (.slice (some ⟨g,o,none⟩) (sLen+m) sCap) (w.setRow g (cur.toList.take (o+sLen * i.size)++news++cur.toList.drop (o+sLen * i.size+news.length)).toArray):=by
 have hf:=run_firstCells_some (P:=P) w i.size m a m c news hl hnews;have hst:=run_storeCells_at P g (o+sLen * i.size) e news 0 cur w hg (by simpa using hfit) h1;simp only [iK] at hst;simp [Builtin.append_,run_underlying ht,sizeOf,typeInfo,hi,Builtin.lenOf,hroom,hf,Addr.add_lit,hst]
theorem Ga (h:bO C μ hp nx w) {t ty e:TypeId} {i:TypeInfo} {z:CV} (ht:P.underlying t=some (.slice e)) (hi:P.info? e=some i) (hz:nM i=some z) (hzl:z.len=i.size) (_hsz:0 < i.size) {x y:SV} {vx vy:Value}
  (hx:R (aN C μ hp w) x [vx]) (hy:R (aN C μ hp w) y [vy]) {fr:List (Nat×SV)} {K:SV->St->Prop} (he:Lr ⟨fr,hp,nx⟩ e i.size i.bytes x y K) :
  ∃ v' w',(Builtin.append_ #[t,t] ty #[vx,vy]).run P w=.ok v' w'/\∃ s st' μ',K s st'/\st'.fr=fr/\(aN C μ hp w).Le (aN C μ' st'.hp w')/\bO C μ' st'.hp st'.nx w'/\R (aN C μ' st'.hp w') s [v']:=by
 unfold Lr at he;simp only at he;cases hb:Nat.blt nx FB with
 | false=>simp [hb] at he
 | true =>
 have hnx:nx < FB:=aM (n:=nx+1) hb;simp only [hb,cond_true] at he;obtain ⟨m,enc,hk,hsrc0,hpos⟩:=Ks h (rI hy) he;obtain ⟨a,c',hvy,hsrc⟩:=id hsrc0;have news:0 < m->∃ b off news,a=some ⟨b,off,none⟩/\Holds w b off news/\(∀ u∈news,u.oneCell'=true)/\Els (aN C μ hp w) i.size m enc news:=by
  intro hm;obtain ⟨b,off,ha,hel⟩:=hsrc hm;obtain ⟨news,n1,n2,n3,n4⟩:=yK m hel;exact ⟨b,off,news,ha,n2,n3,n1,n4⟩
 cases x <;> (try simp only at hk) <;> try exact hk.elim
 ·rename_i id sz' lo n;split at hk
  ·rename_i T' sz'' len enc0 hg;cases h1:Nat.beq i.size sz' with
   | false=>simp [h1] at hk
   | true =>
   cases h2:Nat.beq i.size sz'' with
   | false=>simp [h1,h2] at hk
   | true =>
   cases h3:Nat.beq e T' with
   | false=>simp [h1,h2,h3] at hk
   | true =>
   have e1:=nbeq h1;have e2:=nbeq h2;have e3:=nbeq h3;subst e1 e2 e3;simp only [h1,h3,cond_true] at hk;obtain ⟨⟨hn0,hlen⟩,hroom,hk,hk0⟩:=hk;subst hlen;simp only [R] at hx;rcases hx with ⟨rfl,_⟩|⟨_,b0,cp,m1,hv,hle⟩
   ·exact absurd hn0 (fE 0)
   rw [aC.1 hv,hvy];have hl0:0 < lo+n:=by omega
   have hsol:=dJ (T:=e) (sz:=i.size) (enc:=enc0) hl0;obtain ⟨cur,c1,c2,c3,c4⟩:=h.obj.arr hg hl0 m1;have hnc:(lo+n) * i.size<=cp * i.size:=bT _ (by omega);have hmul:(lo+n) * i.size=lo * i.size+n * i.size:=bW ..;by_cases hm:m=0
   ·subst hm;refine ⟨_,_,mU ht hi (by omega),?_⟩;obtain ⟨hE,hh⟩:=h.yQ hg hsol (x:=.arr e i.size (lo+(n+0)) (kO (lo+n) enc0 enc)) (dJ (by omega)) m1 (fun _ _ e=>by cases e) (fun _ _ e=>by cases e) (by
     rintro y _ ⟨cs,d1,d2,d3,d4⟩;refine ⟨cs,d1,d2,by omega,fun j hj=>?_⟩;obtain ⟨xs,x1,x2,x3⟩:=d4 j (by omega);have hb:Nat.blt j (lo+n)=true:=cZ (show j+1<=lo+n by omega);exact ⟨xs,by simpa [kO,hb] using x1,x2,x3⟩)
    obtain ⟨hE2,hh2⟩:=hh.rename hnx (k:=id) (by rw [get?_putH,get?_cons,if_pos rfl]) (dJ (by omega)) m1;rw [pA] at hE2 hh2;refine ⟨_,_,_,hk,rfl,hE.trans hE2,hh2,?_⟩;simp only [R];exact .inr ⟨by omega,b0,cp,by simp [aN,upd],by simp,by omega⟩
   ·obtain ⟨b,off,ns,rfl,n1,n2,n3⟩:=news (by omega);by_cases hfit:n+m<=cp - lo
    ·have hnl:ns.length=m * i.size:=n3.1;have hsum0:(lo+n) * i.size+ns.length<=cur.length:=by rw [hnl,c2,<- bW]; exact bT _ (by omega)
     have hsum:lo * i.size+n * i.size+ns.length<=cur.length:=by omega
     have run:=vP (P:=P) (w:=w) (ty:=ty) ht hi b0 (lo * i.size) n (cp - lo) cur.toArray c1 ⟨b,off,none⟩ m c' ns hnl n1.add n2 hfit (by simpa using hsum);refine ⟨_,_,run,?_⟩;have hold:Els (aN C μ hp w) i.size (lo+n) enc0 (cur.take ((lo+n) * i.size)):=by
      refine ⟨by rw [cG,c2]; omega,fun j hj=>?_⟩;obtain ⟨xs,x1,x2,x3⟩:=c4 j hj;refine ⟨xs,x1,x2,fun q v e=>?_⟩;have hq:q < i.size:=by have:=(aR.1 e).1; omega
      have hj2:(j+1) * i.size<=(lo+n) * i.size:=bT _ hj;rw [bW,eK] at hj2;rw [jF,if_pos (by omega)];exact x3 q v e
     have hA:=hold.app n3;obtain ⟨row,hrow⟩:∃ row:List Value,row=(cur.take (lo * i.size+n * i.size)++ns)++cur.drop (lo * i.size+n * i.size+ns.length):=⟨_,rfl⟩;have hrl:row.length=cp * i.size:=by
      rw [hrow,aV,aV,cG,cN,<- c2];omega
     have herow:(cur.toArray.toList.take (lo * i.size+n * i.size)++ns++cur.toArray.toList.drop (lo * i.size+n * i.size+ns.length)).toArray=row.toArray:=by rw [hrow]
     rw [herow];obtain ⟨hE,hh⟩:=h.write (hp':=gQ hp id (.arr e i.size (lo+(n+m)) (kO (lo+n) enc0 enc))) (x:=.arr e i.size (lo+(n+m)) (kO (lo+n) enc0 enc)) (id:=id) (b:=b0) (c:=cp) (o:=.arr e i.size (lo+n) enc0) (y:=.cells row.toArray e (0,0))
      (w':=w.setRow b0 row.toArray) (fun n=>by rw [gK]; exact iW (h.obj.keys _ _ hg) (dJ (by omega)) (fun f e=>by rw [hg] at e; cases e) n) (gL hg) (h.get hg hsol) m1 (by simp) (fun k hk=>setRow_other w b0 k _ hk) (setRow_heap w b0 cur.toArray _ e (0,0) c1) rfl rfl rfl
      (by
       refine ⟨row,rfl,hrl,by omega,fun j hj=>?_⟩;obtain ⟨xs,x1,x2,x3⟩:=hA.2 j (by omega);refine ⟨xs,x1,x2,fun q v e=>?_⟩;have:=x3 q v e;rw [hmul] at this;rw [hrow,aU (aR.1 this).1];exact this)
     obtain ⟨hE2,hh2⟩:=hh.rename hnx (k:=id) (by rw [get?_putH,get?_cons,if_pos rfl]) (dJ (by omega)) m1;rw [pA] at hE2 hh2;refine ⟨_,_,_,hk,rfl,hE.trans hE2,hh2,?_⟩;simp only [R];exact .inr ⟨by omega,b0,cp,by simp [aN,upd],rfl,by omega⟩
    ·have hold:Els (aN C μ hp w) i.size n (fun j=>enc0 (lo+j)) ((cur.drop (lo * i.size)).take (n * i.size)):=by
      refine ⟨by rw [cG,cN,c2]; omega,fun j hj=>?_⟩;obtain ⟨xs,x1,x2,x3⟩:=c4 (lo+j) (by omega);refine ⟨xs,x1,x2,fun q v e=>?_⟩;have hq:q < i.size:=by have:=(aR.1 e).1; omega
      have hj2:(j+1) * i.size<=n * i.size:=bT _ hj;rw [bW,eK] at hj2;rw [jF,if_pos (by omega),bQ];have:=x3 q v e;rw [bW] at this;rw [<- this];congr 1;omega
     have hhold:Holds w b0 (lo * i.size) ((cur.drop (lo * i.size)).take (n * i.size)):=by
      have hr:Holds w b0 0 cur:=by have:=Holds.row (w:=w) c1 0; simpa using this
      have hd:Holds w b0 (lo * i.size) (cur.drop (lo * i.size)):=by
       intro j v e;rw [bQ] at e;have:=hr _ v e
       rwa [aW] at this
      exact hd.take _
     obtain ⟨v',w',gc,run,hE,hh,hR⟩:=vX (ty:=ty) (c':=c') h hnx ht hi hz hzl (cap:=cp - lo) hold n3 n1 (.inr ⟨_,rfl,hhold.add⟩) (by omega) (by omega) hroom (hold.app n3);refine ⟨v',w',run,?_⟩;have hne:nx≠id:=by have:=h.keys _ _ hg; omega
     have hg2:get? ((nx,aT.arr e i.size (n+m) (kO n (fun j=>enc0 (lo+j)) enc))::hp) id=some (.arr e i.size (lo+n) enc0):=by rw [get?_cons,if_neg hne]; exact hg
     obtain ⟨hE2,hh2⟩:=hh.wD hg2 hsol;have hd:drop? ((nx,aT.arr e i.size (n+m) (kO n (fun j=>enc0 (lo+j)) enc))::hp) id=(nx,aT.arr e i.size (n+m) (kO n (fun j=>enc0 (lo+j)) enc))::drop? hp id:=by
      simp only [drop?];cases hbb:Nat.beq nx id with
      | false=>rfl
      | true=>exact absurd (nbeq hbb) hne
     rw [hd] at hE2 hh2;exact ⟨_,_,_,hk0,rfl,hE.trans hE2,hh2,rI (lN hE2 hR)⟩
  ·exact hk.elim
 ·rename_i id sz' n;split at hk
  ·rename_i T' sz'' len enc0 hg;cases h1:Nat.beq i.size sz' with
   | false=>simp [h1] at hk
   | true =>
   cases h2:Nat.beq i.size sz'' with
   | false=>simp [h1,h2] at hk
   | true =>
   cases h3:Nat.beq e T' with
   | false=>simp [h1,h2,h3] at hk
   | true =>
   have e1:=nbeq h1;have e2:=nbeq h2;have e3:=nbeq h3;subst e1 e2 e3;simp only [h1,h3,cond_true] at hk;obtain ⟨hlen,hroom,hk⟩:=hk;subst hlen;simp only [R] at hx;rcases hx with ⟨rfl,a0,hv⟩|⟨hn0,b0,cp,m1,hv,hle⟩
   ·rw [aC.1 hv];have hid:=h.obj.keys _ _ hg;have hdr:=pB hid (hp:=hp) (fun f e=>by rw [hg] at e; cases e);have hgh:hget hp id=none:=by rw [fH hid,hg]; exact pX (T:=e) (sz:=i.size) (enc:=enc0)
    obtain ⟨hE0,hh0⟩:=h.same (hp':=drop? hp id) (nx':=nx) (fun n=>by
     rw [hdr];split
     ·rename_i e; rw [e,hgh]
     ·rfl) (by
     intro k o e;rw [get?_drop] at e;split at e
     ·cases e
     ·exact ⟨h.keys _ _ e,h.obj.keys _ _ e⟩) (aL _)
    obtain ⟨v',w',μ',run,hE,hh,hR⟩:=xJ (ty:=ty) (a0:=a0) hh0 hnx ht hi hz hzl (hsrc0.mono hE0 rfl) (by simpa using hroom);rw [Nf,aW] at hk;exact ⟨v',w',run,_,_,_,hk,rfl,hE0.trans hE,hh,hR⟩
   rw [aC.1 hv,hvy];have hsol:=dJ (T:=e) (sz:=i.size) (enc:=enc0) hn0;obtain ⟨cur,c1,c2,c3,c4⟩:=h.obj.arr hg hn0 m1;have hnc:n * i.size<=cp * i.size:=bT _ (by omega);have hold:Els (aN C μ hp w) i.size n enc0 (cur.take (n * i.size)):=by
    refine ⟨by rw [cG,c2]; omega,fun j hj=>?_⟩;obtain ⟨xs,x1,x2,x3⟩:=c4 j hj;refine ⟨xs,x1,x2,fun q v e=>?_⟩;have hq:q < i.size:=by have:=(aR.1 e).1; omega
    have hj2:(j+1) * i.size<=n * i.size:=bT _ hj;rw [bW,eK] at hj2;rw [jF,if_pos (by omega)];exact x3 q v e
   by_cases hm:m=0
   ·subst hm;refine ⟨_,_,mU ht hi (by omega),?_⟩;obtain ⟨hE,hh⟩:=h.yQ hg hsol (x:=.arr e i.size (n+0) (kO n enc0 enc)) (dJ (by omega)) m1 (fun _ _ e=>by cases e) (fun _ _ e=>by cases e) (by
     rintro y _ ⟨cs,d1,d2,d3,d4⟩;refine ⟨cs,d1,d2,by omega,fun j hj=>?_⟩;obtain ⟨xs,x1,x2,x3⟩:=d4 j (by omega);have hb:Nat.blt j n=true:=cZ (show j+1<=n by omega);exact ⟨xs,by simpa [kO,hb] using x1,x2,x3⟩)
    obtain ⟨hE2,hh2⟩:=hh.rename hnx (k:=id) (by rw [get?_putH,get?_cons,if_pos rfl]) (dJ (by omega)) m1;rw [pA] at hE2 hh2;refine ⟨_,_,_,hk,rfl,hE.trans hE2,hh2,?_⟩;simp only [R];exact .inr ⟨by omega,b0,cp,by simp [aN,upd],by simp,by omega⟩
   ·obtain ⟨b,off,ns,rfl,n1,n2,n3⟩:=news (by omega);by_cases hfit:n+m<=cp
    ·have hnl:ns.length=m * i.size:=n3.1;have hsum:n * i.size+ns.length<=cur.length:=by rw [hnl,c2,<- bW]; exact bT _ hfit
     have run:=run_append_room (P:=P) w t ty e i ht hi b0 n cp cur.toArray c1 ⟨b,off,none⟩ m c' ns hnl n1.add n2 (by omega) (by simpa using hsum);refine ⟨_,_,run,?_⟩;have hA:=hold.app n3;obtain ⟨row,hrow⟩:∃ row:List Value,row=(cur.take (n * i.size)++ns)++cur.drop (n * i.size+ns.length):=⟨_,rfl⟩;have hrl:row.length=cp * i.size:=by
      rw [hrow,aV,aV,cG,cN,<- c2];omega
     have herow:(cur.toArray.toList.take (n * i.size)++ns++cur.toArray.toList.drop (n * i.size+ns.length)).toArray=row.toArray:=by rw [hrow]
     rw [herow];obtain ⟨hE,hh⟩:=h.write (hp':=gQ hp id (.arr e i.size (n+m) (kO n enc0 enc))) (x:=.arr e i.size (n+m) (kO n enc0 enc)) (id:=id) (b:=b0) (c:=cp) (o:=.arr e i.size n enc0) (y:=.cells row.toArray e (0,0))
      (w':=w.setRow b0 row.toArray) (fun n=>by rw [gK]; exact iW (h.obj.keys _ _ hg) (dJ (by omega)) (fun f e=>by rw [hg] at e; cases e) n) (gL hg) (h.get hg hsol) m1 (by simp) (fun k hk=>setRow_other w b0 k _ hk) (setRow_heap w b0 cur.toArray _ e (0,0) c1) rfl rfl rfl
      (by
       refine ⟨row,rfl,hrl,⟨hfit,by omega⟩,fun j hj=>?_⟩;obtain ⟨xs,x1,x2,x3⟩:=hA.2 j hj;refine ⟨xs,x1,x2,fun q v e=>?_⟩;have:=x3 q v e;rw [hrow,aU (aR.1 this).1];exact this)
     obtain ⟨hE2,hh2⟩:=hh.rename hnx (k:=id) (by rw [get?_putH,get?_cons,if_pos rfl]) (dJ (by omega)) m1;rw [pA] at hE2 hh2;refine ⟨_,_,_,hk,rfl,hE.trans hE2,hh2,?_⟩;simp only [R];exact .inr ⟨by omega,b0,cp,by simp [aN,upd],rfl,hfit⟩
    ·have hhold:Holds w b0 0 (cur.take (n * i.size)):=by
      have hr:Holds w b0 0 cur:=by have:=Holds.row (w:=w) c1 0; simpa using this
      exact hr.take _
     obtain ⟨v',w',gc,run,hE,hh,hR⟩:=vX (ty:=ty) (c':=c') h hnx ht hi hz hzl (cap:=cp) hold n3 n1 (.inr ⟨_,rfl,hhold.add⟩) (by omega) (by omega) hroom (hold.app n3);refine ⟨v',w',run,?_⟩;have hne:nx≠id:=by have:=h.keys _ _ hg; omega
     have hg2:get? ((nx,aT.arr e i.size (n+m) (kO n enc0 enc))::hp) id=some (.arr e i.size n enc0):=by rw [get?_cons,if_neg hne]; exact hg
     obtain ⟨hE2,hh2⟩:=hh.wD hg2 hsol;have hd:drop? ((nx,aT.arr e i.size (n+m) (kO n enc0 enc))::hp) id=(nx,aT.arr e i.size (n+m) (kO n enc0 enc))::drop? hp id:=by
      simp only [drop?];cases hbb:Nat.beq nx id with
      | false=>rfl
      | true=>exact absurd (nbeq hbb) hne
     rw [hd] at hE2 hh2;exact ⟨_,_,_,hk,rfl,hE.trans hE2,hh2,lN hE2 hR⟩
  ·exact hk.elim
 ·simp only [R] at hx;rw [aC.1 hx];obtain ⟨v',w',μ',run,hE,hh,hR⟩:=xJ (ty:=ty) (a0:=none) h hnx ht hi hz hzl hsrc0 hk.1;exact ⟨v',w',run,_,_,_,hk.2,rfl,hE,hh,hR⟩
 ·rename_i sz' els;cases h1:Nat.beq i.size sz' with
  | false=>simp [h1] at hk
  | true =>
  have e1:=nbeq h1;subst e1;simp only [h1,cond_true] at hk;have hx':=hx;simp only [R] at hx;obtain ⟨a0,hv,hel⟩:=hx;have ev:=aC.1 hv;split at hk
  ·rw [ev];obtain ⟨v',w',μ',run,hE,hh,hR⟩:=xJ (ty:=ty) (a0:=a0) h hnx ht hi hz hzl hsrc0 hk.1;exact ⟨v',w',run,_,_,_,hk.2,rfl,hE,hh,hR⟩
  rw [ev] at hx' ⊢;rw [hvy];obtain ⟨hp0,hp1⟩:=hpos _ _ hk;by_cases hm:m=0
  ·subst hm;exact ⟨_,_,mU ht hi (aL _),_,_,μ,hp0 rfl,rfl,Env.Le.refl _,h,hx'⟩
  ·obtain ⟨hroom,hK⟩:=hp1 (by omega);obtain ⟨b,off,ns,rfl,n1,n2,n3⟩:=news (by omega);have hold:∃ olds,Els (aN C μ hp w) i.size els.len (nV els) olds/\((a0=none/\els.len=0/\els.len=0)\/∃ ad,a0=some ad/\∀ j u,olds[j]?=some u->w.cell? (ad.add j)=some u):=by
    by_cases hl0:els.len=0
    ·refine ⟨[],⟨by simp [hl0],fun j hj=>by omega⟩,?_⟩;cases a0 with
     | none=>exact .inl ⟨rfl,hl0,hl0⟩
     | some ad=>exact .inr ⟨ad,rfl,fun j u e=>by simp at e⟩
    ·obtain ⟨b0,off0,cs0,ea,_⟩:=Ij hel 0 (by omega);have all:∀ j,j < els.len->∃ cs,R (aN C μ hp w) (nV els j) cs/\cs.length=i.size/\Holds w b0 (off0+j * i.size) cs/\∀ u∈cs,True:=by
      intro j hj;obtain ⟨b1,off1,cs,ea1,_,r1,l1,h1⟩:=Ij hel j hj;rw [aW] at h1;rw [ea] at ea1;cases ea1;exact ⟨cs,r1,l1,h1,fun _ _=>trivial⟩
     obtain ⟨olds,o1,o2,_,o4⟩:=yK els.len all;exact ⟨olds,⟨o1,o4⟩,.inr ⟨_,ea,o2.add⟩⟩
   obtain ⟨olds,ho,hbase⟩:=hold;obtain ⟨v',w',gc,run,hE,hh,hR⟩:=vX (ty:=ty) (c':=c') h hnx ht hi hz hzl ho n3 n1 hbase (by omega) (by omega) hroom (ho.app n3);exact ⟨v',w',run,_,_,_,hK,rfl,hE,hh,hR⟩
end
end Go.Eng
