/- A part of the proof. -/
import Derived.Test.YtijddkljgihcnaaGreatDoorEngS
import Derived.Maps.RangeRun
namespace Go.Eng
open Go Go.RowKit
def Th:SOp->Bool
 | .mkmap ..|.mlook ..|.mupd ..|.ment ..|.mesto ..|.mdele ..|.mlen ..|.mrange ..|.mnext ..|.mentry ..=>true
 | _=>false
section
variable {P:Program} {C:Ctx} {μ:Nat->Option (Nat×Nat)} {w:World}
theorem dY {st:St} (h:aL C μ st.hp st.nx w) {K:SV->St->Prop} {s:SV} {u:Value} (hk:K s st) (hr:R (aC C μ st.hp w) s [u]) {r:Result Next} (hrun:r=.ok (.value u) w):Acts P C μ st.hp w st.fr K r:=by
 subst hrun
 exact ⟨s,st,μ,hk,rfl,Env.Le.refl _,h,hr⟩
theorem hM {k k':KK} {p:Prop} (h:bif gD k k' then p else False):k=k'/\p:=by
 cases e:gD k k' with
 | false=>simp [e] at h
 | true=>simp only [e,cond_true] at h; exact ⟨Lg e,h⟩
theorem yO {st:St} {a:Act} (h:aV C μ st a w) {g:Option (Nat×Bool)} (hg:GOk g a.tmps) {t:TypeId} {m k:Operand} {ok:Bool} {dst:Option Tmp} {ty:TypeId} {pos:String} {after:Array Edge} {guard:Option (Nat×Bool)} {so:SOp}
  (hc:cOp P (.lookup t m k ok)=some so) {K:SV->St->Prop} (he:evM g st K so):Acts P C μ st.hp w st.fr K ((execOp a.eval ⟨dst,.lookup t m k ok,ty,pos,after,guard⟩).run P w):=by
 have gX:∀ {o:Operand} {x:SX},cX o=some x->R (aC C μ st.hp w) (gx g st.fr x) [a.eval o]:=fun hx=>iF hg h.fr hx
 simp only [cOp] at hc
 split at hc
 ·rename_i kt et ht
  simp only [Option.bind_eq_bind,Option.bind_eq_some_iff] at hc
  obtain ⟨z,hz,kk,hkk,m',hm,k',hk,h3⟩:=hc
  cases h3
  simp only [evM] at he
  split at he
  ·rename_i kv hkv
   obtain ⟨hkd,he⟩:=hM he
   have hkey:=qM (gX hk) hkv
   have hmr:=gX hm
   simp only [execOp]
   rw [hkey]
   split at he
   ·rename_i hmv
    rw [hmv] at hmr
    have hmn:a.eval m=.map none:=List.singleton_inj.1 hmr
    obtain ⟨u,hu,hrun⟩:=lookup_nil (P:=P) (w:=w) ht hkk hz hkd (E:=aC C μ st.hp w) ok
    rw [hmn]
    exact dY h.hep he (oR hu) (bO hrun)
   ·split at he
    ·rename_i V kk' l clock ev iv ha
     obtain ⟨rfl,h1,h2⟩:=hM he
     obtain ⟨id,b,c,es,q1,q2,q3,q4,q5,q6,q7⟩:=dF h.hep hmr ha
     rw [q3]
     rcases Bi (P:=P) (w:=w) ht hkk hz hkd q4 q5 q6 ok with ⟨v,t',u,r1,r2,r3⟩|⟨r1,u,r2,r3⟩
     ·exact dY h.hep (h1 v t' r1) (oR r2) (bO r3)
     ·exact dY h.hep (h2 r1) (oR r2) (bO r3)
    ·exact he.elim
  ·exact he.elim
 ·cases hc
theorem rZ {st:St} {a:Act} (h:aV C μ st a w) {g:Option (Nat×Bool)} (hg:GOk g a.tmps) {t:TypeId} {m k v:Operand} {dst:Option Tmp} {ty:TypeId} {pos:String} {after:Array Edge} {guard:Option (Nat×Bool)} {so:SOp}
  (hc:cOp P (.mapUpdate t m k v)=some so) {K:SV->St->Prop} (he:evM g st K so):Acts P C μ st.hp w st.fr K ((execOp a.eval ⟨dst,.mapUpdate t m k v,ty,pos,after,guard⟩).run P w):=by
 have gX:∀ {o:Operand} {x:SX},cX o=some x->R (aC C μ st.hp w) (gx g st.fr x) [a.eval o]:=fun hx=>iF hg h.fr hx
 simp only [cOp] at hc
 split at hc
 ·rename_i kt et ht
  simp only [Option.bind_eq_bind,Option.bind_eq_some_iff] at hc
  obtain ⟨kk,hkk,m',hm,k',hk,v',hv,h3⟩:=hc
  cases h3
  simp only [evM] at he
  split at he
  ·rename_i kv hkv
   obtain ⟨hkd,he⟩:=hM he
   have hkey:=qM (gX hk) hkv
   split at he
   ·rename_i V kk' l clock ev iv ha
    obtain ⟨e1,he2⟩:=hM he
    subst e1
    clear he
    obtain ⟨id,b,c,es,q1,q2,q3,q4,q5,q6,q7⟩:=dF h.hep (gX hm) ha
    obtain ⟨W,ev',iv',l',u,hq,p1,p2,p3⟩:=oS h.hep.obj (gX hv) q5 q6 he2
    simp only [execOp]
    rw [hkey,q3]
    rcases Ci (P:=P) (w:=w) ht hkk hkd q4 p1 p2 p3 with ⟨v0,t',es',r1,r2,r3⟩|⟨r1,es',r2,r3⟩
    ·obtain ⟨s1,s2⟩:=q7 (.map W kk' (mput l' kv u) clock ev' iv') rfl
     obtain ⟨k1,k2⟩:=fN h.hep s1 s2 q1 q2 (y:=.map es'.toArray clock) ⟨Bb hkd _ p2,es',rfl,r2⟩
     simp only [Sem.run_bind,r3,Result.andThen_ok,Sem.run_pure]
     exact ⟨_,_,μ,hq.1 _ _ r1,rfl,k1,k2,rfl⟩
    ·obtain ⟨s1,s2⟩:=q7 (.map W kk' (l'++[(kv,u,clock)]) (clock+1) ev' iv') rfl
     obtain ⟨k1,k2⟩:=fN h.hep s1 s2 q1 q2 (y:=.map es'.toArray (clock+1)) ⟨by
      intro x hx
      rcases List.mem_append.1 hx with hx|hx
      ·exact p2 x hx
      ·simp at hx; subst hx; exact hkd,es',rfl,r2⟩
     simp only [Sem.run_bind,r3,Result.andThen_ok,Sem.run_pure]
     exact ⟨_,_,μ,hq.2 r1,rfl,k1,k2,rfl⟩
   ·exact he.elim
  ·exact he.elim
 ·cases hc
theorem Bk {st:St} {a:Act} (h:aV C μ st a w) {g:Option (Nat×Bool)} (hg:GOk g a.tmps) {t:TypeId} {m k:Operand} {dst:Option Tmp} {ty:TypeId} {pos:String} {after:Array Edge} {guard:Option (Nat×Bool)} {so:SOp}
  (hc:cOp P (.mapEntry t m k)=some so) {K:SV->St->Prop} (he:evM g st K so):Acts P C μ st.hp w st.fr K ((execOp a.eval ⟨dst,.mapEntry t m k,ty,pos,after,guard⟩).run P w):=by
 have gX:∀ {o:Operand} {x:SX},cX o=some x->R (aC C μ st.hp w) (gx g st.fr x) [a.eval o]:=fun hx=>iF hg h.fr hx
 simp only [cOp] at hc
 split at hc
 ·rename_i kt et ht
  simp only [Option.bind_eq_bind,Option.bind_eq_some_iff] at hc
  obtain ⟨z,hz,kk,hkk,m',hm,k',hk,h3⟩:=hc
  cases h3
  simp only [evM] at he
  split at he
  ·rename_i kv hkv
   obtain ⟨hkd,he⟩:=hM he
   have hkey:=qM (gX hk) hkv
   split at he
   ·rename_i V kk' l clock ev iv ha
    obtain ⟨e1,he2⟩:=hM he
    subst e1
    clear he
    obtain ⟨id,b,c,es,q1,q2,q3,q4,q5,q6,q7⟩:=dF h.hep (gX hm) ha
    simp only [execOp]
    rw [hkey,q3]
    have tupR:∀ {E:Env} {s:SV} {u:Value} {n:Int},R E s [u]->R E (.tup (.cons s (.cons (.int .i64 n) .nil))) [.tuple #[u,goInt n]] :=
     fun {E s u n} hu=>⟨[u,goInt n],rfl,u,[goInt n],rfl,hu,goInt n,[],rfl,rfl,rfl⟩
    rcases D1 (P:=P) (w:=w) ht hkk hz hkd q4 q5 q6 with ⟨v0,t',u,r1,r2,r3⟩|⟨r1,u,r2,r3⟩
    ·rw [bO r3]
     have same:∀ n,hget st.hp n=if id=n then some (.map V kk' l clock ev iv) else hget st.hp n:=by
      intro n
      by_cases e:id=n
      ·subst e; simp [q1]
      ·simp [e]
     obtain ⟨k1,k2⟩:=fN h.hep same (fun n o' e=>⟨o',e⟩) q1 q2 (y:=.map es.toArray clock) ⟨q6,es,rfl,q5⟩
     exact ⟨_,st,μ,he2.1 _ _ r1,rfl,k1,k2,tupR (eE k1 r2)⟩
    ·rw [bO r3]
     obtain ⟨W,ev',iv',l',v',hq,p1,p2,p3⟩:=oS h.hep.obj r2 q5 q6 (he2.2 r1)
     obtain ⟨s1,s2⟩:=q7 (.map W kk' (l'++[(kv,v',clock)]) (clock+1) ev' iv') rfl
     obtain ⟨k1,k2⟩:=fN h.hep s1 s2 q1 q2 (y:=.map (es++[({ key:=kv.val,val:=u,born:=clock }:MapEntry)]).toArray (clock+1)) ⟨by
      intro x hx
      rcases List.mem_append.1 hx with hx|hx
      ·exact p2 x hx
      ·simp at hx; subst hx; exact hkd,_,rfl,pP p1 ⟨_,[],rfl,rfl,p3,rfl,rfl⟩⟩
     exact ⟨_,_,μ,hq,rfl,k1,k2,tupR (eE k1 r2)⟩
   ·exact he.elim
  ·exact he.elim
 ·cases hc
theorem yM {st:St} {a:Act} (h:aV C μ st a w) {g:Option (Nat×Bool)} (hg:GOk g a.tmps) {t:TypeId} {m k v:Operand} {dst:Option Tmp} {ty:TypeId} {pos:String} {after:Array Edge} {guard:Option (Nat×Bool)} {so:SOp}
  (hc:cOp P (.entryStore t m k v)=some so) {K:SV->St->Prop} (he:evM g st K so):Acts P C μ st.hp w st.fr K ((execOp a.eval ⟨dst,.entryStore t m k v,ty,pos,after,guard⟩).run P w):=by
 have gX:∀ {o:Operand} {x:SX},cX o=some x->R (aC C μ st.hp w) (gx g st.fr x) [a.eval o]:=fun hx=>iF hg h.fr hx
 simp only [cOp,Option.bind_eq_bind,Option.bind_eq_some_iff] at hc
 obtain ⟨m',hm,k',hk,v',hv,h3⟩:=hc
 cases h3
 simp only [evM] at he
 split at he
 ·rename_i ik n hn
  have hkr:=gX hk
  rw [hn] at hkr
  have hkey:a.eval k=.int ik n:=List.singleton_inj.1 hkr
  split at he
  ·rename_i V kk' l clock ev iv ha
   obtain ⟨id,b,c,es,q1,q2,q3,q4,q5,q6,q7⟩:=dF h.hep (gX hm) ha
   obtain ⟨W,ev',iv',l',u,⟨tt,hnt,hex,hq⟩,p1,p2,p3⟩:=oS h.hep.obj (gX hv) q5 q6 he
   obtain ⟨j,j1,j2⟩:=Em p3 l' es p1 hex
   simp only [execOp]
   rw [hkey,q3,hnt]
   have run:(Instr.entryStore t (.map (some b)) (.int ik (tt:Int)) (a.eval v)).run P w=.ok () (jU w b (.map (es.modify j fun e=>{ e with val:=a.eval v }).toArray clock)):=by
    unfold Instr.entryStore
    simp only [Sem.run_bind,MapKept.run_getObj_map q4,Result.andThen_ok,Sem.run_pure,asInt,asIntOf,List.findIdx?_toArray,j1,MapKept.run_setObj_map _ q4]
    simp [jU]
   obtain ⟨s1,s2⟩:=q7 (.map W kk' (mset l' tt u) clock ev' iv') rfl
   obtain ⟨k1,k2⟩:=fN h.hep s1 s2 q1 q2 (y:=.map (es.modify j fun e=>{ e with val:=a.eval v }).toArray clock) ⟨Bc p2,_,rfl,j2⟩
   simp only [Sem.run_bind,run,Result.andThen_ok,Sem.run_pure]
   exact ⟨_,_,μ,hq,rfl,k1,k2,rfl⟩
  ·exact he.elim
 ·exact he.elim
theorem _root_.Go.Eng.aL.J9 {hp hp':List (Nat×aG)} {nx n0:Nat} (h:aL C μ hp nx w) (hm:μ n0=none) (hn:FB<=n0) (o:Obj) (x:aG) (c:Nat)
  (hh:∀ n,hget hp' n=if n0=n then some x else hget hp n) (hk:∀ n o',get? hp' n=some o'->∃ o'',get? hp n=some o'')
  (hx:HR (aC C μ hp w) x c o):(aC C μ hp w).Le (aC C (upd μ n0 (w.heap.size,c)) hp' (w.alloc o))/\aL C (upd μ n0 (w.heap.size,c)) hp' nx (w.alloc o):=by
 have hE:=yF (C:=C) (μ:=μ) (hp:=hp) (hp':=hp') (w:=w) o x c hm hh
 refine ⟨hE,⟨?_,?_,?_,?_,?_,?_,fun id p e=>hE.μ _ _ (h.pin id p e),?_⟩⟩
 ·refine ⟨?_,?_⟩
  ·intro id o' e
   obtain ⟨o'',e'⟩:=hk _ _ e
   exact h.obj.keys _ _ e'
  ·intro id o' ho'
   rw [hh] at ho'
   by_cases hid:n0=id
   ·subst hid
    simp at ho'
    subst ho'
    exact ⟨w.heap.size,c,o,by simp [aC,upd],heap_alloc_new w o,hx.mono hE⟩
   ·simp [hid] at ho'
    obtain ⟨b,c',y,h1,h2,h3⟩:=h.obj.obj id o' ho'
    have hlt:b < w.heap.size:=(Array.getElem?_eq_some_iff.1 h2).1
    exact ⟨b,c',y,hE.μ _ _ h1,(Below.heap_alloc w o b hlt).trans h2,h3.mono hE⟩
 ·intro id id' o1 o2 b c1 c2 g1 g2 e1 e2
  rw [hh] at g1 g2
  by_cases h1:n0=id <;> by_cases h2:n0=id'
  ·exact h1.symm.trans h2
  ·subst h1
   simp [h2] at g2
   have n2:id'≠n0:=fun e=>h2 e.symm
   simp [upd] at e1
   simp [upd,n2] at e2
   have:=h.lt g2 e2
   omega
  ·subst h2
   simp [h1] at g1
   have n1:id≠n0:=fun e=>h1 e.symm
   simp [upd] at e2
   simp [upd,n1] at e1
   have:=h.lt g1 e1
   omega
  ·have n1:id≠n0:=fun e=>h1 e.symm
   have n2:id'≠n0:=fun e=>h2 e.symm
   simp [h1] at g1
   simp [h2] at g2
   simp [upd,n1] at e1
   simp [upd,n2] at e2
   exact h.inj _ _ _ _ _ _ _ g1 g2 e1 e2
 ·intro id o' b c' g e
  rw [hh] at g
  by_cases h1:n0=id
  ·subst h1
   simp [upd] at e
   exact .inr (e.1 ▸ h.frm.size)
  ·simp [h1] at g
   have n1:id≠n0:=fun e=>h1 e.symm
   simp [upd,n1] at e
   exact h.mine _ _ _ _ g e
 ·intro id o' e
  obtain ⟨o'',e'⟩:=hk _ _ e
  exact h.keys _ _ e'
 ·intro id p e hlt
  have h1:id≠n0:=by omega
  simp [upd,h1] at e
  exact h.nx id p e hlt
 ·intro id p e hge
  by_cases n1:n0=id
  ·exact ⟨x,by rw [hh,if_pos n1]⟩
  ·have n2:id≠n0:=fun e=>n1 e.symm
   simp [upd,n2] at e
   obtain ⟨o',ho'⟩:=h.fam id p e hge
   exact ⟨o',by rw [hh,if_neg n1]; exact ho'⟩
 ·exact h.frm.trans (Frm.fT ((Below.refl _ _).alloc (Nat.le_refl _) _))
theorem yN {st:St} {a:Act} (h:aV C μ st a w) {g:Option (Nat×Bool)} {t:TypeId} {r:Option Operand} {dst:Option Tmp} {ty:TypeId} {pos:String} {after:Array Edge} {guard:Option (Nat×Bool)} {so:SOp}
  (hc:cOp P (.makeMap t r)=some so) {K:SV->St->Prop} (he:evM g st K so):Acts P C μ st.hp w st.fr K ((execOp a.eval ⟨dst,.makeMap t r,ty,pos,after,guard⟩).run P w):=by
 cases r with
 | some r=>simp [cOp] at hc
 | none =>
  simp only [cOp] at hc
  split at hc
  ·simp only [Option.map_eq_some_iff] at hc
   obtain ⟨kk,hk,rfl⟩:=hc
   simp only [evM] at he
   have run:(execOp a.eval ⟨dst,.makeMap t none,ty,pos,after,guard⟩).run P w=.ok (.value (.map (some w.heap.size))) (w.alloc (.map #[] 0)):=by
    simp [execOp,Instr.makeMap]
   rw [run]
   split at he
   ·cases hlt:Nat.blt st.nx FB with
    | false=>simp [hlt] at he
    | true =>
     simp only [hlt,cond_true] at he
     obtain ⟨k1,k2⟩:=h.hep.alloc (eY hlt) (.map #[] 0) (.map SV kk [] 0 id some) rfl 0 ⟨by simp,[],rfl,rfl⟩
     exact ⟨_,_,_,he,rfl,k1,k2,w.heap.size,0,by simp [aC,upd],rfl⟩
   ·rename_i d _
    split at he
    ·rename_i f hf
     obtain ⟨j,hj,he⟩:=he
     have hd:=h.hep.obj.keys _ _ hf
     have hm:μ (fid d j)=none:=by
      cases e:μ (fid d j) with
      | none=>rfl
      | some p =>
       obtain ⟨o,ho⟩:=h.hep.fam _ p e (dE d j)
       rw [nJ hd hf,hj] at ho
       cases ho
     obtain ⟨k1,k2⟩:=h.hep.J9 (hp':=dC st.hp (.fmref d j) (.map SV kk [] 0 id some)) hm (dE d j) (.map #[] 0) (.map SV kk [] 0 id some) 0 (fun n=>by
      simp only [dC,hf]
      rw [cK]
      exact pW hd hf rfl n) (by
      simp only [dC,hf]
      exact cM hf) ⟨by simp,[],rfl,rfl⟩
     exact ⟨_,_,_,he,rfl,k1,k2,w.heap.size,0,by simp [aC,upd],rfl⟩
    ·exact he.elim
  ·cases hc
theorem vO {st:St} {a:Act} (h:aV C μ st a w) {g:Option (Nat×Bool)} (hg:GOk g a.tmps) {t:TypeId} {m:Operand} {dst:Option Tmp} {ty:TypeId} {pos:String} {after:Array Edge} {guard:Option (Nat×Bool)} {so:SOp}
  (hc:cOp P (.range t m)=some so) {K:SV->St->Prop} (he:evM g st K so):Acts P C μ st.hp w st.fr K ((execOp a.eval ⟨dst,.range t m,ty,pos,after,guard⟩).run P w):=by
 have gX:∀ {o:Operand} {x:SX},cX o=some x->R (aC C μ st.hp w) (gx g st.fr x) [a.eval o]:=fun hx=>iF hg h.fr hx
 simp only [cOp] at hc
 split at hc
 ·rename_i kt et ht
  simp only [Option.map_eq_some_iff] at hc
  obtain ⟨m',hm,rfl⟩:=hc
  simp only [evM] at he
  cases hlt:Nat.blt st.nx FB with
  | false=>simp [hlt] at he
  | true =>
   simp only [hlt,cond_true] at he
   have hmr:=gX hm
   split at he
   ·rename_i hmv
    rw [hmv] at hmr
    have hmn:a.eval m=.map none:=List.singleton_inj.1 hmr
    have run:(execOp a.eval ⟨dst,.range t m,ty,pos,after,guard⟩).run P w=.ok (.value (.pointer (some ⟨w.heap.size,0,none⟩))) (w.alloc (.mapIter none 0 #[] 0)):=by
     simp [execOp,Instr.range,hmn,aB w ht]
    rw [run]
    obtain ⟨k1,k2⟩:=h.hep.alloc (eY hlt) (.mapIter none 0 #[] 0) (.iter (.val (.map none)) 0 [] 0) rfl 0 ⟨none,rfl,rfl⟩
    exact ⟨_,_,_,he,rfl,k1,k2,w.heap.size,0,by simp [aC,upd],rfl⟩
   ·split at he
    ·rename_i V kk' l clock ev iv ha
     obtain ⟨id,b,c,es,q1,q2,q3,q4,q5,q6,q7⟩:=dF h.hep hmr ha
     have run:(execOp a.eval ⟨dst,.range t m,ty,pos,after,guard⟩).run P w=.ok (.value (.pointer (some ⟨w.heap.size,0,none⟩))) (w.alloc (.mapIter (some b) clock #[] clock)):=by
      simp [execOp,Instr.range,q3,aB w ht,MapKept.run_getObj_map q4]
     rw [run]
     obtain ⟨k1,k2⟩:=h.hep.alloc (eY hlt) (.mapIter (some b) clock #[] clock) (.iter (gx g st.fr m') clock [] clock) rfl 0 ⟨some b,q3 ▸ hmr,rfl⟩
     exact ⟨_,_,_,he,rfl,k1,k2,w.heap.size,0,by simp [aC,upd],rfl⟩
    ·exact he.elim
 ·cases hc
theorem aL.iter {hp:List (Nat×aG)} {nx:Nat} (h:aL C μ hp nx w) {id b c:Nat} {src:SV} {since last:Nat} {seen:List Nat} (hg:get? hp id=some (.iter src since seen last)) (hm:μ id=some (b,c)) :
  ∃ r,R (aC C μ hp w) src [.map r]/\w.heap[b]?=some (.mapIter r since seen.toArray last):=by
 obtain ⟨b',c',y,e1,e2,r,e3,e4⟩:=h.obj.obj id _ (h.get hg rfl)
 have e1':μ id=some (b',c'):=e1
 rw [hm] at e1'
 cases e1'
 exact ⟨r,e3,e4 ▸ e2⟩
theorem yP {st:St} {a:Act} (h:aV C μ st a w) {g:Option (Nat×Bool)} (hg:GOk g a.tmps) {it:Operand} {dst:Option Tmp} {ty:TypeId} {pos:String} {after:Array Edge} {guard:Option (Nat×Bool)} {so:SOp}
  (hc:cOp P (.next it false)=some so) {K:SV->St->Prop} (he:evM g st K so):Acts P C μ st.hp w st.fr K ((execOp a.eval ⟨dst,.next it false,ty,pos,after,guard⟩).run P w):=by
 have gX:∀ {o:Operand} {x:SX},cX o=some x->R (aC C μ st.hp w) (gx g st.fr x) [a.eval o]:=fun hx=>iF hg h.fr hx
 simp only [cOp,Option.map_eq_some_iff] at hc
 obtain ⟨it',hit,rfl⟩:=hc
 simp only [evM] at he
 split at he
 ·rename_i id hid
  have hr:=gX hit
  rw [hid] at hr
  simp only [R] at hr
  obtain ⟨b,c,m1,hv⟩:=hr
  have hv':=List.singleton_inj.1 hv
  have tup1:∀ {E:Env},R E (.tup (.cons (.bool false) .nil)) [.tuple #[.bool false]]:=⟨[.bool false],rfl,.bool false,[],rfl,rfl,rfl⟩
  simp only [execOp]
  rw [hv']
  split at he
  ·rename_i s1 s2 s3 hi
   obtain ⟨r,r1,r2⟩:=h.hep.iter hi m1
   have:r=none:=by simpa [R] using r1
   subst this
   have run:(Instr.next (.pointer (some ⟨b,0,none⟩)) false ty).run P w=.ok (.tuple #[.bool false]) w:=by
    simp [Instr.next,getObj,Sem.run,r2]
   exact dY h.hep he tup1 (bO run)
  ·rename_i src since seen last _ hi
   obtain ⟨r,r1,r2⟩:=h.hep.iter hi m1
   split at he
   ·rename_i V kk l clock ev iv ha
    obtain ⟨h1,h2,h3,h4⟩:=he
    obtain ⟨id2,b2,c2,es,q1,q2,q3,q4,q5,q6,q7⟩:=dF h.hep r1 ha
    have hr':r=some b2:=by simpa using q3
    subst hr'
    have hold:∀ x∈es.toArray.toList,x.born < since:=by
     intro e hE
     obtain ⟨x,hx,_,_,hb⟩:=qU q5 e (by simpa using hE)
     rw [hb]; exact h1 x hx
    rcases run_next_at (P:=P) w ty b b2 since last seen.toArray es.toArray clock r2 q4 hold h2 with ⟨hz,hrun⟩|⟨e,hE,w1,hw1,hrun⟩
    ·refine dY h.hep (h4 ?_) tup1 (bO hrun)
     intro x hx
     obtain ⟨e,he,_,_,hb⟩:=tG q5 x hx
     have hem:(leftOf es.toArray seen.toArray)=#[]:=Array.eq_empty_of_size_eq_zero hz
     unfold leftOf at hem
     rw [Array.filter_eq_empty_iff] at hem
     have:=hem e (by simpa using he)
     simpa [hb] using this
    ·have hem:e∈es/\e.born ∉ seen:=by
      unfold leftOf at hE
      simpa using hE
     obtain ⟨x,hx,hk,hval,hb⟩:=qU q5 e hem.1
     have hw1B:Below w.heap.size w w1:=by
      rcases hw1 with rfl|rfl
      ·exact Below.refl _ _
      ·exact ⟨rfl,rfl,rfl,Nat.le_refl _,fun _ _=>rfl,DLe.of_le (Nat.le_succ _)⟩
     have hh1:=h.hep.below hw1B
     have hE1:=dV (C:=C) (μ:=μ) (hp:=st.hp) hw1B
     rw [bO hrun]
     have hsolid:=hh1.get hi rfl
     obtain ⟨k1,k2⟩:=fN hh1 (hp':=dZ st.hp id (.iter src since (seen++[x.2.2]) clock)) (x:=.iter src since (seen++[x.2.2]) clock) (y:=.mapIter (some b2) since (seen.toArray.push e.born) clock)
      (fun n=>by rw [cK]; exact cJ (hh1.obj.keys _ _ hi) rfl (fun f e=>by rw [hi] at e; cases e) n) (cM hi) hsolid m1 ⟨some b2,eE hE1 r1,by simp [hb]⟩
     refine ⟨_,_,μ,h3 x hx (by rw [<- hb]; exact hem.2),rfl,hE1.trans k1,k2,?_⟩
     refine ⟨[.bool true,e.key,e.val],rfl,.bool true,[e.key,e.val],rfl,rfl,e.key,[e.val],rfl,?_,e.val,[],rfl,eE (hE1.trans k1) hval,rfl⟩
     rw [hk]
     exact xY _
   ·exact he.elim
  ·exact he.elim
 ·exact he.elim
theorem vM {st:St} {a:Act} (h:aV C μ st a w) {g:Option (Nat×Bool)} (hg:GOk g a.tmps) {it:Operand} {dst:Option Tmp} {ty:TypeId} {pos:String} {after:Array Edge} {guard:Option (Nat×Bool)} {so:SOp}
  (hc:cOp P (.entry it)=some so) {K:SV->St->Prop} (he:evM g st K so):Acts P C μ st.hp w st.fr K ((execOp a.eval ⟨dst,.entry it,ty,pos,after,guard⟩).run P w):=by
 have gX:∀ {o:Operand} {x:SX},cX o=some x->R (aC C μ st.hp w) (gx g st.fr x) [a.eval o]:=fun hx=>iF hg h.fr hx
 simp only [cOp,Option.map_eq_some_iff] at hc
 obtain ⟨it',hit,rfl⟩:=hc
 simp only [evM] at he
 split at he
 ·rename_i id hid
  have hr:=gX hit
  rw [hid] at hr
  simp only [R] at hr
  obtain ⟨b,c,m1,hv⟩:=hr
  have hv':=List.singleton_inj.1 hv
  simp only [execOp]
  rw [hv']
  split at he
  ·rename_i src since seen last hi
   obtain ⟨r,r1,r2⟩:=h.hep.iter hi m1
   split at he
   ·rename_i V kk l clock ev iv ha
    obtain ⟨rfl,x,hx,huni,⟨s0,rfl⟩,hk⟩:=he
    obtain ⟨id2,b2,c2,es,q1,q2,q3,q4,q5,q6,q7⟩:=dF h.hep r1 ha
    have hr':r=some b2:=by simpa using q3
    subst hr'
    obtain ⟨e,hE,hkey,hval,hb⟩:=tG q5 x hx
    -- the first entry with the stamp
    have hfind:∃ e',es.toArray.find? (fun y=>y.born == x.2.2)=some e'/\e'∈es/\e'.born=x.2.2:=by
     cases hf:es.toArray.find? (fun y=>y.born == x.2.2) with
     | none =>
      rw [Array.find?_eq_none] at hf
      have:=hf e (by simpa using hE)
      simp [hb] at this
     | some e' =>
      have h1:=Array.find?_some hf
      have h2:=Array.mem_of_find?_eq_some hf
      exact ⟨e',rfl,by simpa using h2,by simpa using h1⟩
    obtain ⟨e',f1,f2,f3⟩:=hfind
    obtain ⟨y,hy,hkey',hval',hb'⟩:=qU q5 e' f2
    have hyx:=huni y hy (hb'.symm.trans f3)
    subst hyx
    have hback:(s0++[y.2.2]).toArray.back?=some y.2.2:=by simp
    have run:(Instr.entry (.pointer (some ⟨b,0,none⟩))).run P w=.ok (.tuple #[e'.key,e'.val]) w:=by
     simp only [Instr.entry,getObj,Sem.run_bind,Sem.run,r2,q4,Result.andThen,hback,bne_self_eq_false,Bool.false_eq_true,if_false,f1]
     rfl
    refine dY h.hep hk ?_ (bO run)
    refine ⟨[e'.key,e'.val],rfl,e'.key,[e'.val],rfl,?_,e'.val,[],rfl,hval',rfl⟩
    rw [hkey']
    exact xY _
   ·exact he.elim
  ·exact he.elim
 ·exact he.elim
theorem yK {st:St} {a:Act} (h:aV C μ st a w) {g:Option (Nat×Bool)} (hg:GOk g a.tmps) {al:List Operand} {tl:List TypeId} {dst:Option Tmp} {ty:TypeId} {pos:String} {after:Array Edge} {guard:Option (Nat×Bool)} {so:SOp}
  (hc:eZ P .delete al tl=some so) {K:SV->St->Prop} (he:evM g st K so):Acts P C μ st.hp w st.fr K ((execOp a.eval ⟨dst,.call ⟨.builtin .delete,al.toArray,tl.toArray⟩,ty,pos,after,guard⟩).run P w):=by
 have gX:∀ {o:Operand} {x:SX},cX o=some x->R (aC C μ st.hp w) (gx g st.fr x) [a.eval o]:=fun hx=>iF hg h.fr hx
 simp only [eZ] at hc
 split at hc
 ·rename_i m k t tr
  split at hc
  ·rename_i kt et ht
   simp only [Option.bind_eq_bind,Option.bind_eq_some_iff] at hc
   obtain ⟨kk,hkk,m',hm,k',hk,h3⟩:=hc
   cases h3
   simp only [evM] at he
   split at he
   ·rename_i kv hkv
    obtain ⟨hkd,he⟩:=hM he
    have hkey:=qM (gX hk) hkv
    have hmr:=gX hm
    have step:∀ {r:Result Value},(Builtin.delete_ (t::tr).toArray ty #[a.eval m,kv.val]).run P w=r ->
      (execOp a.eval ⟨dst,.call ⟨.builtin .delete,[m,k].toArray,(t::tr).toArray⟩,ty,pos,after,guard⟩).run P w=r.andThen fun v w'=>.ok (.value v) w':=by
     intro r hr
     subst hr
     simp [execOp,resolve,invoke,builtin,hkey]
    split at he
    ·rename_i hmv
     rw [hmv] at hmr
     have hmn:a.eval m=.map none:=List.singleton_inj.1 hmr
     have run:(Builtin.delete_ (t::tr).toArray ty #[a.eval m,kv.val]).run P w=.ok (.tuple #[]) w:=by
      rw [hmn]
      unfold Builtin.delete_
      simp [aB w ht,gJ (w:=w) hkk hkd]
     rw [step run]
     exact dY h.hep he rfl rfl
    ·split at he
     ·rename_i V kk' l clock ev iv ha
      obtain ⟨e1,he2⟩:=hM he
      subst e1
      clear he
      obtain ⟨id,b,c,es,q1,q2,q3,q4,q5,q6,q7⟩:=dF h.hep hmr ha
      obtain ⟨es',d1,d2⟩:=Am (P:=P) (w:=w) ht hkk hkd q4 q5 q6 (t::tr).toArray (by simp) ty
      rw [<- q3] at d2
      rw [step d2]
      obtain ⟨s1,s2⟩:=q7 (.map V kk' (mdel l kv) clock ev iv) rfl
      obtain ⟨k1,k2⟩:=fN h.hep s1 s2 q1 q2 (y:=.map es'.toArray clock) ⟨Ba q6,es',rfl,d1⟩
      exact ⟨_,_,μ,he2,rfl,k1,k2,rfl⟩
     ·exact he.elim
   ·exact he.elim
  ·cases hc
 ·cases hc
theorem Bl {st:St} {a:Act} (h:aV C μ st a w) {g:Option (Nat×Bool)} (hg:GOk g a.tmps) {m:Operand} {t kt et:TypeId} (ht:P.underlying t=some (.map kt et)) {dst:Option Tmp} {ty:TypeId} {pos:String} {after:Array Edge} {guard:Option (Nat×Bool)} {m':SX} (hm:cX m=some m')
  {K:SV->St->Prop} (he:evM g st K (.mlen m')):Acts P C μ st.hp w st.fr K ((execOp a.eval ⟨dst,.call ⟨.builtin .len,#[m],#[t]⟩,ty,pos,after,guard⟩).run P w):=by
 have hmr:=iF hg h.fr hm
 simp only [evM] at he
 have step:∀ {r:Result Value},(Builtin.len_ #[t] ty #[a.eval m]).run P w=r ->
   (execOp a.eval ⟨dst,.call ⟨.builtin .len,#[m],#[t]⟩,ty,pos,after,guard⟩).run P w=r.andThen fun v w'=>.ok (.value v) w':=by
  intro r hr
  subst hr
  simp [execOp,resolve,invoke,builtin]
 split at he
 ·rename_i hmv
  rw [hmv] at hmr
  have hmn:a.eval m=.map none:=List.singleton_inj.1 hmr
  have run:(Builtin.len_ #[t] ty #[a.eval m]).run P w=.ok (goInt 0) w:=by
   rw [hmn]
   simp [Builtin.len_,aB w ht]
  rw [step run]
  exact dY h.hep he rfl rfl
 ·split at he
  ·rename_i V kk' l clock ev iv ha
   obtain ⟨id,b,c,es,q1,q2,q3,q4,q5,q6,q7⟩:=dF h.hep hmr ha
   have run:(Builtin.len_ #[t] ty #[a.eval m]).run P w=.ok (goInt (l.length:Int)) w:=by
    rw [q3]
    simp [Builtin.len_,aB w ht,MapKept.run_getObj_map q4,wT q5]
   rw [step run]
   exact dY h.hep he rfl rfl
  ·exact he.elim
end
end Go.Eng
