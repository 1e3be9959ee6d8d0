/- A part of the proof. -/
import Derived.Test.YtpiolkcdfgiefaaGreatDoorEngS
import Derived.Maps.RangeRun
import Derived.Laws.AppendOwn
section
namespace Go.Eng
open Go Go.RowKit
def aE7:SOp->Bool
 |.mkmap ..|.mlook ..|.mupd ..|.ment ..|.mesto ..|.mdele ..|.mlen ..|.mrange ..|.mnext ..|.mentry ..=>true
 |_=>false
section
variable {P:Program} {C:Ctx} {μ:Nat->Option (Nat×Nat)} {w:World}
theorem lB{st:St}(h:bD C μ st.hp st.nx w){K:SV->St->Prop}{s:SV}{u:Value}(hk:K s st)(hr:R (aG C μ st.hp w) s [u]){r:Result Next}(hrun:r=.ok (.value u) w):Acts P C μ st.hp w st.fr K r:=by
 subst hrun;exact⟨s,st,μ,hk,rfl,Env.Le.refl _,h,hr⟩
theorem pF{k k':KK}{p:Prop}(h:bif nY k k' then p else False):k=k'/\p:=by
 cases e:nY k k' with
 |false=>grind
 |true=>simp only[e,cond_true]at h; grind[Xe]
theorem G9{st:St}{a:Act}(h:cR C μ st a w){g:Option (Nat×Bool)}(hg:GOk g a.tmps){t:TypeId}{m k:Operand}{ok:Bool}{dst:Option Tmp}{ty:TypeId}{pos:String}{after:Array Edge}{guard:Option (Nat×Bool)}{so:SOp}
  (hc:cOp P (.lookup t m k ok)=some so) {K:SV->St->Prop} (he:evM g st K so):Acts P C μ st.hp w st.fr K ((execOp a.eval ⟨dst,.lookup t m k ok,ty,pos,after,guard⟩).run P w):=by
 have gX:∀{o:Operand} {x:SX},cX o=some x->R (aG C μ st.hp w) (gx g st.fr x) [a.eval o]:=λhx=>oW hg h.fr hx;simp only[cOp]at hc;split at hc
 .rename_i kt et ht;simp only[aE,aD]at hc;obtain⟨z,hz,kk,hkk,m',hm,k',hk,h3⟩:=hc;cases h3;simp only[evM]at he;split at he
  .rename_i kv hkv;obtain⟨hkd,he⟩:=pF he;have hkey:=yY (gX hk) hkv;have hmr:=gX hm;simp only[execOp];rw[hkey];split at he
   .rename_i hmv;rw[hmv]at hmr;have hmn:a.eval m=.map none:=aC.1 hmr;obtain⟨u,hu,hrun⟩:=lookup_nil (P:=P) (w:=w) ht hkk hz hkd (E:=aG C μ st.hp w) ok;rw[hmn];exact lB h.hep he (xM hu) (eH hrun)
   .split at he
    .rename_i V kk' l clock ev iv ha;obtain⟨rfl,h1,h2⟩:=pF he;obtain⟨id,b,c,es,q1,q2,q3,q4,q5,q6,q7⟩:=jO h.hep hmr ha;rw[q3];rcases Jz (P:=P) (w:=w) ht hkk hz hkd q4 q5 q6 ok with⟨v,t',u,r1,r2,r3⟩|⟨r1,u,r2,r3⟩
     .exact lB h.hep (h1 v t' r1) (xM r2) (eH r3)
     .exact lB h.hep (h2 r1) (xM r2) (eH r3)
    grind
  grind
 .cases hc
theorem Av{st:St}{a:Act}(h:cR C μ st a w){g:Option (Nat×Bool)}(hg:GOk g a.tmps){t:TypeId}{m k v:Operand}{dst:Option Tmp}{ty:TypeId}{pos:String}{after:Array Edge}{guard:Option (Nat×Bool)}{so:SOp}
  (hc:cOp P (.mapUpdate t m k v)=some so) {K:SV->St->Prop} (he:evM g st K so):Acts P C μ st.hp w st.fr K ((execOp a.eval ⟨dst,.mapUpdate t m k v,ty,pos,after,guard⟩).run P w):=by
 have gX:∀{o:Operand} {x:SX},cX o=some x->R (aG C μ st.hp w) (gx g st.fr x) [a.eval o]:=λhx=>oW hg h.fr hx;simp only[cOp]at hc;split at hc
 .rename_i kt et ht;simp only[aE,aD]at hc;obtain⟨kk,hkk,m',hm,k',hk,v',hv,h3⟩:=hc;cases h3;simp only[evM]at he;split at he
  .rename_i kv hkv;obtain⟨hkd,he⟩:=pF he;have hkey:=yY (gX hk) hkv;split at he
   .rename_i V kk' l clock ev iv ha;obtain⟨e1,he2⟩:=pF he;subst e1;clear he;obtain⟨id,b,c,es,q1,q2,q3,q4,q5,q6,q7⟩:=jO h.hep (gX hm) ha;obtain⟨W,ev',iv',l',u,hq,p1,p2,p3⟩:=xN h.hep.obj (gX hv) q5 q6 he2;simp only[execOp];rw[hkey,q3];rcases K5 (P:=P) (w:=w) ht hkk hkd q4 p1 p2 p3 with⟨v0,t',es',r1,r2,r3⟩|⟨r1,es',r2,r3⟩
    .obtain ⟨s1,s2⟩:=q7 (.map W kk' (mput l' kv u) clock ev' iv') rfl;obtain⟨k1,k2⟩:=mV h.hep s1 s2 q1 q2 (y:=.map es'.toArray clock) ⟨Ju hkd _ p2,es',rfl,r2⟩;simp only[Sem.run_bind,r3,Result.andThen_ok,Sem.run_pure];exact⟨_,_,μ,hq.1 _ _ r1,rfl,k1,k2,rfl⟩
    .obtain ⟨s1,s2⟩:=q7 (.map W kk' (l'++[(kv,u,clock)]) (clock+1) ev' iv') rfl;obtain⟨k1,k2⟩:=mV h.hep s1 s2 q1 q2 (y:=.map es'.toArray (clock+1)) ⟨by
      grind,es',rfl,r2⟩
     simp only[Sem.run_bind,r3,Result.andThen_ok,Sem.run_pure];exact⟨_,_,μ,hq.2 r1,rfl,k1,k2,rfl⟩
   grind
  grind
 .cases hc
theorem J3{st:St}{a:Act}(h:cR C μ st a w){g:Option (Nat×Bool)}(hg:GOk g a.tmps){t:TypeId}{m k:Operand}{dst:Option Tmp}{ty:TypeId}{pos:String}{after:Array Edge}{guard:Option (Nat×Bool)}{so:SOp}
  (hc:cOp P (.mapEntry t m k)=some so) {K:SV->St->Prop} (he:evM g st K so):Acts P C μ st.hp w st.fr K ((execOp a.eval ⟨dst,.mapEntry t m k,ty,pos,after,guard⟩).run P w):=by
 have gX:∀{o:Operand} {x:SX},cX o=some x->R (aG C μ st.hp w) (gx g st.fr x) [a.eval o]:=λhx=>oW hg h.fr hx;simp only[cOp]at hc;split at hc
 .rename_i kt et ht;simp only[aE,aD]at hc;obtain⟨z,hz,kk,hkk,m',hm,k',hk,h3⟩:=hc;cases h3;simp only[evM]at he;split at he
  .rename_i kv hkv;obtain⟨hkd,he⟩:=pF he;have hkey:=yY (gX hk) hkv;split at he
   .rename_i V kk' l clock ev iv ha;obtain⟨e1,he2⟩:=pF he;subst e1;clear he;obtain⟨id,b,c,es,q1,q2,q3,q4,q5,q6,q7⟩:=jO h.hep (gX hm) ha;simp only[execOp];rw[hkey,q3];have tupR:∀{E:Env} {s:SV} {u:Value} {n:Int},R E s [u]->R E (.tup (.cons s (.cons (.int .i64 n) .nil))) [.tuple #[u,goInt n]] :=
     λ{E s u n} hu=>⟨[u,goInt n],rfl,u,[goInt n],rfl,hu,goInt n,[],rfl,rfl,rfl⟩
    rcases Oe (P:=P) (w:=w) ht hkk hz hkd q4 q5 q6 with⟨v0,t',u,r1,r2,r3⟩|⟨r1,u,r2,r3⟩
    .rw [eH r3];have same:∀n,hget st.hp n=if id=n then some (.map V kk' l clock ev iv)else hget st.hp n:=by
      simp[*]
     obtain⟨k1,k2⟩:=mV h.hep same (by grind) q1 q2 (y:=.map es.toArray clock) ⟨q6,es,rfl,q5⟩;exact⟨_,st,μ,he2.1 _ _ r1,rfl,k1,k2,tupR (kJ k1 r2)⟩
    .rw [eH r3];obtain⟨W,ev',iv',l',v',hq,p1,p2,p3⟩:=xN h.hep.obj r2 q5 q6 (he2.2 r1);obtain⟨s1,s2⟩:=q7 (.map W kk' (l'++[(kv,v',clock)]) (clock+1) ev' iv') rfl;obtain⟨k1,k2⟩:=mV h.hep s1 s2 q1 q2 (y:=.map (es++[({ key:=kv.val,val:=u,born:=clock }:MapEntry)]).toArray (clock+1)) ⟨by
      grind,_,rfl,yB p1 ⟨_,[],rfl,rfl,p3,rfl,rfl⟩⟩
     exact⟨_,_,μ,hq,rfl,k1,k2,tupR (kJ k1 r2)⟩
   grind
  grind
 .cases hc
theorem G6{st:St}{a:Act}(h:cR C μ st a w){g:Option (Nat×Bool)}(hg:GOk g a.tmps){t:TypeId}{m k v:Operand}{dst:Option Tmp}{ty:TypeId}{pos:String}{after:Array Edge}{guard:Option (Nat×Bool)}{so:SOp}
  (hc:cOp P (.entryStore t m k v)=some so) {K:SV->St->Prop} (he:evM g st K so):Acts P C μ st.hp w st.fr K ((execOp a.eval ⟨dst,.entryStore t m k v,ty,pos,after,guard⟩).run P w):=by
 have gX:∀{o:Operand} {x:SX},cX o=some x->R (aG C μ st.hp w) (gx g st.fr x) [a.eval o]:=λhx=>oW hg h.fr hx;simp only[cOp,aE,aD]at hc;obtain⟨m',hm,k',hk,v',hv,h3⟩:=hc;cases h3;simp only[evM]at he;split at he
 .rename_i ik n hn;have hkr:=gX hk;rw[hn]at hkr;have hkey:a.eval k=.int ik n:=aC.1 hkr;split at he
  .rename_i V kk' l clock ev iv ha;obtain⟨id,b,c,es,q1,q2,q3,q4,q5,q6,q7⟩:=jO h.hep (gX hm) ha;obtain⟨W,ev',iv',l',u,⟨tt,hnt,hex,hq⟩,p1,p2,p3⟩:=xN h.hep.obj (gX hv) q5 q6 he;obtain⟨j,j1,j2⟩:=O6 p3 l' es p1 hex;simp only[execOp];rw[hkey,q3,hnt];have run:(Instr.entryStore t (.map (some b)) (.int ik (tt:Int)) (a.eval v)).run P w=.ok () (rR w b (.map (es.modify j λe=>{ e with val:=a.eval v }).toArray clock)):=by
    unfold Instr.entryStore;simp only[Sem.run_bind,MapKept.run_getObj_map q4,Result.andThen_ok,Sem.run_pure,asInt,asIntOf,List.findIdx?_toArray,j1,MapKept.run_setObj_map _ q4];simp[rR]
   obtain⟨s1,s2⟩:=q7 (.map W kk' (mset l' tt u) clock ev' iv') rfl;obtain⟨k1,k2⟩:=mV h.hep s1 s2 q1 q2 (y:=.map (es.modify j λe=>{ e with val:=a.eval v }).toArray clock) ⟨Jv p2,_,rfl,j2⟩;simp only[Sem.run_bind,run,Result.andThen_ok,Sem.run_pure];exact⟨_,_,μ,hq,rfl,k1,k2,rfl⟩
  grind
 grind
theorem _root_.Go.Eng.bD.Db{hp hp':List (Nat×aL)}{nx n0:Nat}(h:bD C μ hp nx w)(hm:μ n0=none)(hn:FB<=n0)(o:Obj)(x:aL)(c:Nat)
  (hh:∀n,hget hp' n=if n0=n then some x else hget hp n) (hk:∀n o',get? hp' n=some o'->∃o'',get? hp n=some o'')
  (hx:HR (aG C μ hp w) x c o) (hxo:∀q,x≠.obj q:=by intro _ e; cases e):(aG C μ hp w).Le (aG C (upd μ n0 (w.heap.size,c)) hp' (w.alloc o))/\bD C (upd μ n0 (w.heap.size,c)) hp' nx (w.alloc o):=by
 have hE:=Gy (C:=C) (μ:=μ) (hp:=hp) (hp':=hp') (w:=w) o x c hm hh;refine⟨hE,⟨?_,?_,?_,?_,?_,?_,λid p e=>hE.μ _ _ (h.pin id p e),?_,?_⟩⟩
 .refine ⟨?_,?_⟩
  .intro id o' e;obtain⟨o'',e'⟩:=hk _ _ e;exact h.obj.keys _ _ e'
  .intro id o' ho';rw[hh]at ho';by_cases hid:n0=id
   .subst hid;simp at ho';subst ho';exact⟨w.heap.size,c,o,by simp[aG,upd],heap_alloc_new w o,hx.mono hE⟩
   .simp [hid]at ho';obtain⟨b,c',y,h1,h2,h3⟩:=h.obj.obj id o' ho';have hlt:b<w.heap.size:=(aU.1 h2).1;exact⟨b,c',y,hE.μ _ _ h1,(Below.heap_alloc w o b hlt).trans h2,h3.mono hE⟩
 .intro id id' o1 o2 b c1 c2 g1 g2 e1 e2;rw[hh]at g1 g2;by_cases h1:n0=id<;>by_cases h2:n0=id'
  .omega
  .subst h1;simp[h2]at g2;have n2:id'≠n0:=λe=>h2 e.symm;simp[upd]at e1;simp[upd,n2]at e2;have:=h.lt g2 e2;omega
  .subst h2;simp[h1]at g1;have n1:id≠n0:=λe=>h1 e.symm;simp[upd]at e2;simp[upd,n1]at e1;have:=h.lt g1 e1;omega
  .have n1:id≠n0:=λe=>h1 e.symm;have n2:id'≠n0:=λe=>h2 e.symm;simp[h1]at g1;simp[h2]at g2;simp[upd,n1]at e1;simp[upd,n2]at e2;exact h.inj _ _ _ _ _ _ _ g1 g2 e1 e2
 .intro id o' b c' g e;rw[hh]at g;by_cases h1:n0=id
  .subst h1;simp[upd]at e;exact .inr (e.1▸h.frm.size)
  .simp [h1]at g;have n1:id≠n0:=λe=>h1 e.symm;simp[upd,n1]at e;exact h.mine _ _ _ _ g e
 .intro id o' e;obtain⟨o'',e'⟩:=hk _ _ e;exact h.keys _ _ e'
 .intro id p e hlt;have h1:id≠n0:=by omega
  simp[upd,h1]at e;exact h.nx id p e hlt
 .intro id p e hge;by_cases n1:n0=id
  .simp [*]
  .have n2:id≠n0:=λe=>n1 e.symm;simp[upd,n2]at e;obtain⟨o',ho'⟩:=h.fam id p e hge;simp[*]
 .exact h.frm.trans (Frm.jR ((Below.refl _ _).alloc (aN _) _))
 .intro id p q e hge g;rw[hh]at g;by_cases n1:n0=id
  .grind
  .have n2:id≠n0:=λe=>n1 e.symm;simp[upd,n2]at e;rw[if_neg n1]at g;exact h.pos id p q e hge g
theorem G8{st:St}{a:Act}(h:cR C μ st a w){g:Option (Nat×Bool)}{t:TypeId}{r:Option Operand}{dst:Option Tmp}{ty:TypeId}{pos:String}{after:Array Edge}{guard:Option (Nat×Bool)}{so:SOp}
  (hc:cOp P (.makeMap t r)=some so) {K:SV->St->Prop} (he:evM g st K so):Acts P C μ st.hp w st.fr K ((execOp a.eval ⟨dst,.makeMap t r,ty,pos,after,guard⟩).run P w):=by
 cases r with
 |some r=>simp[cOp]at hc
 |none =>
  simp only[cOp]at hc;split at hc
  .simp only [aF]at hc;obtain⟨kk,hk,rfl⟩:=hc;simp only[evM]at he;have run:(execOp a.eval ⟨dst,.makeMap t none,ty,pos,after,guard⟩).run P w=.ok (.value (.map (some w.heap.size))) (w.alloc (.map #[] 0)):=by
    rfl
   rw[run];split at he
   .cases hlt:Nat.blt st.nx FB with
    |false=>grind
    |true =>
     simp only[hlt,cond_true]at he;obtain⟨k1,k2⟩:=h.hep.alloc (kO hlt) (.map #[] 0) (.map SV kk [] 0 id some) rfl 0 ⟨by simp,[],rfl,rfl⟩;exact⟨_,_,_,he,rfl,k1,k2,w.heap.size,0,by simp[aG,upd],rfl⟩
   .rename_i d _;split at he
    .rename_i f hf;obtain⟨j,hj,he⟩:=he;have hd:=h.hep.obj.keys _ _ hf;have hm:μ (fid d j)=none:=by
      cases e:μ (fid d j) with
      |none=>rfl
      |some p =>
       obtain⟨o,ho⟩:=h.hep.fam _ p e (cQ d j);rw[iZ hd hf,hj]at ho;cases ho
     obtain⟨k1,k2⟩:=h.hep.Db (hp':=jC st.hp (.fmref d j) (.map SV kk [] 0 id some)) hm (cQ d j) (.map #[] 0) (.map SV kk [] 0 id some) 0 (λn=>by
      simp only[jC,hf];rw[fH];exact lZ hd hf rfl n) (by
      grind[jC,fI]) ⟨by simp,[],rfl,rfl⟩
     exact⟨_,_,_,he,rfl,k1,k2,w.heap.size,0,by simp[aG,upd],rfl⟩
    grind
  .cases hc
theorem E0{st:St}{a:Act}(h:cR C μ st a w){g:Option (Nat×Bool)}(hg:GOk g a.tmps){t:TypeId}{m:Operand}{dst:Option Tmp}{ty:TypeId}{pos:String}{after:Array Edge}{guard:Option (Nat×Bool)}{so:SOp}
  (hc:cOp P (.range t m)=some so) {K:SV->St->Prop} (he:evM g st K so):Acts P C μ st.hp w st.fr K ((execOp a.eval ⟨dst,.range t m,ty,pos,after,guard⟩).run P w):=by
 have gX:∀{o:Operand} {x:SX},cX o=some x->R (aG C μ st.hp w) (gx g st.fr x) [a.eval o]:=λhx=>oW hg h.fr hx;simp only[cOp]at hc;split at hc
 .rename_i kt et ht;simp only[aF]at hc;obtain⟨m',hm,rfl⟩:=hc;simp only[evM]at he;cases hlt:Nat.blt st.nx FB with
  |false=>grind
  |true =>
   simp only[hlt,cond_true]at he;have hmr:=gX hm;split at he
   .rename_i hmv;rw[hmv]at hmr;have hmn:a.eval m=.map none:=aC.1 hmr;have run:(execOp a.eval ⟨dst,.range t m,ty,pos,after,guard⟩).run P w=.ok (.value (.pointer (some ⟨w.heap.size,0,none⟩))) (w.alloc (.mapIter none 0 #[] 0)):=by
     simp_all[execOp,Instr.range,aJ]
    rw[run];obtain⟨k1,k2⟩:=h.hep.alloc (kO hlt) (.mapIter none 0 #[] 0) (.iter (.val (.map none)) 0 [] 0) rfl 0 ⟨none,rfl,rfl⟩;exact⟨_,_,_,he,rfl,k1,k2,w.heap.size,0,by simp[aG,upd],rfl⟩
   .split at he
    .rename_i V kk' l clock ev iv ha;obtain⟨id,b,c,es,q1,q2,q3,q4,q5,q6,q7⟩:=jO h.hep hmr ha;have run:(execOp a.eval ⟨dst,.range t m,ty,pos,after,guard⟩).run P w=.ok (.value (.pointer (some ⟨w.heap.size,0,none⟩))) (w.alloc (.mapIter (some b) clock #[] clock)):=by
      simp[execOp,Instr.range,q3,aJ w ht,MapKept.run_getObj_map q4]
     rw[run];obtain⟨k1,k2⟩:=h.hep.alloc (kO hlt) (.mapIter (some b) clock #[] clock) (.iter (gx g st.fr m') clock [] clock) rfl 0 ⟨some b,q3▸hmr,rfl⟩;exact⟨_,_,_,he,rfl,k1,k2,w.heap.size,0,by simp[aG,upd],rfl⟩
    grind
 .cases hc
theorem bD.iter{hp:List (Nat×aL)}{nx:Nat}(h:bD C μ hp nx w){id b c:Nat}{src:SV}{since last:Nat}{seen:List Nat}(hg:get? hp id=some (.iter src since seen last))(hm:μ id=some (b,c)) :
  ∃r,R (aG C μ hp w) src [.map r]/\w.heap[b]?=some (.mapIter r since seen.toArray last):=by
 obtain⟨b',c',y,e1,e2,r,e3,e4⟩:=h.obj.obj id _ (h.get hg rfl);have e1':μ id=some (b',c'):=e1;rw[hm]at e1';cases e1';exact⟨r,e3,e4▸e2⟩
theorem Ha{st:St}{a:Act}(h:cR C μ st a w){g:Option (Nat×Bool)}(hg:GOk g a.tmps){it:Operand}{dst:Option Tmp}{ty:TypeId}{pos:String}{after:Array Edge}{guard:Option (Nat×Bool)}{so:SOp}
  (hc:cOp P (.next it false)=some so) {K:SV->St->Prop} (he:evM g st K so):Acts P C μ st.hp w st.fr K ((execOp a.eval ⟨dst,.next it false,ty,pos,after,guard⟩).run P w):=by
 have gX:∀{o:Operand} {x:SX},cX o=some x->R (aG C μ st.hp w) (gx g st.fr x) [a.eval o]:=λhx=>oW hg h.fr hx;simp only[cOp,aF]at hc;obtain⟨it',hit,rfl⟩:=hc;simp only[evM]at he;split at he
 .rename_i id hid;have hr:=gX hit;rw[hid]at hr;simp only[R]at hr;obtain⟨b,c,m1,hv⟩:=hr;have hv':=aC.1 hv;have tup1:∀{E:Env},R E (.tup (.cons (.bool false) .nil)) [.tuple #[.bool false]]:=⟨[.bool false],rfl,.bool false,[],rfl,rfl,rfl⟩;simp only[execOp];rw[hv'];split at he
  .rename_i s1 s2 s3 hi;obtain⟨r,r1,r2⟩:=h.hep.iter hi m1;have:r=none:=by simp_all[R]
   subst this;have run:(Instr.next (.pointer (some ⟨b,0,none⟩)) false ty).run P w=.ok (.tuple #[.bool false]) w:=by
    simp[Instr.next,getObj,Sem.run,r2]
   exact lB h.hep he tup1 (eH run)
  .rename_i src since seen last _ hi;obtain⟨r,r1,r2⟩:=h.hep.iter hi m1;split at he
   .rename_i V kk l clock ev iv ha;obtain⟨h1,h2,h3,h4⟩:=he;obtain⟨id2,b2,c2,es,q1,q2,q3,q4,q5,q6,q7⟩:=jO h.hep r1 ha;have hr':r=some b2:=by grind
    subst hr';have hold:∀x∈es.toArray.toList,x.born<since:=by
     grind[zR]
    rcases run_next_at (P:=P) w ty b b2 since last seen.toArray es.toArray clock r2 q4 hold h2 with⟨hz,hrun⟩|⟨e,hE,w1,hw1,hrun⟩
    .refine lB h.hep (h4 ?_) tup1 (eH hrun)
     grind[By,leftOf,Array.filter_eq_empty_iff]
    .have hem:e∈es/\e.born∉seen:=by
      grind[leftOf]
     obtain⟨x,hx,hk,hval,hb⟩:=zR q5 e hem.1;have hw1B:Below w.heap.size w w1:=by
      rcases hw1 with rfl|rfl
      .exact Below.refl _ _
      .exact ⟨rfl,rfl,rfl,aN _,λ_ _=>rfl,DLe.of_le (jH _)⟩
     have hh1:=h.hep.below hw1B;have hE1:=jM (C:=C) (μ:=μ) (hp:=st.hp) hw1B;rw[eH hrun];have hsolid:=hh1.get hi rfl;obtain⟨k1,k2⟩:=mV hh1 (hp':=fL st.hp id (.iter src since (seen++[x.2.2]) clock)) (x:=.iter src since (seen++[x.2.2]) clock) (y:=.mapIter (some b2) since (seen.toArray.push e.born) clock)
      (λn=>by rw[fH]; exact gU (hh1.obj.keys _ _ hi) rfl (by grind) n) (fI hi) hsolid m1 ⟨some b2,kJ hE1 r1,by simp[hb]⟩
     refine⟨_,_,μ,h3 x hx (by rw[<- hb]; exact hem.2),rfl,hE1.trans k1,k2,?_⟩;refine⟨[.bool true,e.key,e.val],rfl,.bool true,[e.key,e.val],rfl,rfl,e.key,[e.val],rfl,?_,e.val,[],rfl,kJ (hE1.trans k1) hval,rfl⟩;rw[hk];exact Gs _
   grind
  grind
 grind
theorem Ez{st:St}{a:Act}(h:cR C μ st a w){g:Option (Nat×Bool)}(hg:GOk g a.tmps){it:Operand}{dst:Option Tmp}{ty:TypeId}{pos:String}{after:Array Edge}{guard:Option (Nat×Bool)}{so:SOp}
  (hc:cOp P (.entry it)=some so) {K:SV->St->Prop} (he:evM g st K so):Acts P C μ st.hp w st.fr K ((execOp a.eval ⟨dst,.entry it,ty,pos,after,guard⟩).run P w):=by
 have gX:∀{o:Operand} {x:SX},cX o=some x->R (aG C μ st.hp w) (gx g st.fr x) [a.eval o]:=λhx=>oW hg h.fr hx;simp only[cOp,aF]at hc;obtain⟨it',hit,rfl⟩:=hc;simp only[evM]at he;split at he
 .rename_i id hid;have hr:=gX hit;rw[hid]at hr;simp only[R]at hr;obtain⟨b,c,m1,hv⟩:=hr;have hv':=aC.1 hv;simp only[execOp];rw[hv'];split at he
  .rename_i src since seen last hi;obtain⟨r,r1,r2⟩:=h.hep.iter hi m1;split at he
   .rename_i V kk l clock ev iv ha;obtain⟨rfl,x,hx,huni,⟨s0,rfl⟩,hk⟩:=he;obtain⟨id2,b2,c2,es,q1,q2,q3,q4,q5,q6,q7⟩:=jO h.hep r1 ha;have hr':r=some b2:=by grind
    subst hr';obtain⟨e,hE,hkey,hval,hb⟩:=By q5 x hx
    -- the first entry with the stamp
    have hfind:∃e',es.toArray.find? (λy=>y.born == x.2.2)=some e'/\e'∈es/\e'.born=x.2.2:=by
     cases hf:es.toArray.find? (λy=>y.born == x.2.2) with
     |none =>
      grind
     |some e' =>
      grind
    obtain⟨e',f1,f2,f3⟩:=hfind;obtain⟨y,hy,hkey',hval',hb'⟩:=zR q5 e' f2;have hyx:=huni y hy (hb'.symm.trans f3);subst hyx;have hback:(s0++[y.2.2]).toArray.back?=some y.2.2:=by simp
    have run:(Instr.entry (.pointer (some ⟨b,0,none⟩))).run P w=.ok (.tuple #[e'.key,e'.val]) w:=by
     simp only[Instr.entry,getObj,Sem.run_bind,Sem.run,r2,q4,Result.andThen,hback,bne_self_eq_false,eR,if_false,f1];rfl
    refine lB h.hep hk ?_ (eH run);refine⟨[e'.key,e'.val],rfl,e'.key,[e'.val],rfl,?_,e'.val,[],rfl,hval',rfl⟩
    grind[Gs]
   grind
  grind
 grind
theorem G5{st:St}{a:Act}(h:cR C μ st a w){g:Option (Nat×Bool)}(hg:GOk g a.tmps){al:List Operand}{tl:List TypeId}{dst:Option Tmp}{ty:TypeId}{pos:String}{after:Array Edge}{guard:Option (Nat×Bool)}{so:SOp}
  (hc:lO P .delete al tl=some so) {K:SV->St->Prop} (he:evM g st K so):Acts P C μ st.hp w st.fr K ((execOp a.eval ⟨dst,.call ⟨.builtin .delete,al.toArray,tl.toArray⟩,ty,pos,after,guard⟩).run P w):=by
 have gX:∀{o:Operand} {x:SX},cX o=some x->R (aG C μ st.hp w) (gx g st.fr x) [a.eval o]:=λhx=>oW hg h.fr hx;simp only[lO]at hc;split at hc
 .rename_i m k t tr;split at hc
  .rename_i kt et ht;simp only[aE,aD]at hc;obtain⟨kk,hkk,m',hm,k',hk,h3⟩:=hc;cases h3;simp only[evM]at he;split at he
   .rename_i kv hkv;obtain⟨hkd,he⟩:=pF he;have hkey:=yY (gX hk) hkv;have hmr:=gX hm;have step:∀{r:Result Value},(Builtin.delete_ (t::tr).toArray ty #[a.eval m,kv.val]).run P w=r ->
      (execOp a.eval ⟨dst,.call ⟨.builtin .delete,[m,k].toArray,(t::tr).toArray⟩,ty,pos,after,guard⟩).run P w=r.andThen λv w'=>.ok (.value v) w':=by
     simp_all[execOp,resolve,invoke,builtin]
    split at he
    .rename_i hmv;rw[hmv]at hmr;have hmn:a.eval m=.map none:=aC.1 hmr;have run:(Builtin.delete_ (t::tr).toArray ty #[a.eval m,kv.val]).run P w=.ok (.tuple #[]) w:=by
      simp_all[Builtin.delete_,aJ,oF]
     rw[step run];exact lB h.hep he rfl rfl
    .split at he
     .rename_i V kk' l clock ev iv ha;obtain⟨e1,he2⟩:=pF he;subst e1;clear he;obtain⟨id,b,c,es,q1,q2,q3,q4,q5,q6,q7⟩:=jO h.hep hmr ha;obtain⟨es',d1,d2⟩:=I0 (P:=P) (w:=w) ht hkk hkd q4 q5 q6 (t::tr).toArray (by simp) ty;rw[<- q3]at d2;rw[step d2];obtain⟨s1,s2⟩:=q7 (.map V kk' (mdel l kv) clock ev iv) rfl;obtain⟨k1,k2⟩:=mV h.hep s1 s2 q1 q2 (y:=.map es'.toArray clock) ⟨Jt q6,es',rfl,d1⟩;exact⟨_,_,μ,he2,rfl,k1,k2,rfl⟩
     grind
   grind
  .cases hc
 .cases hc
theorem J4{st:St}{a:Act}(h:cR C μ st a w){g:Option (Nat×Bool)}(hg:GOk g a.tmps){m:Operand}{t kt et:TypeId}(ht:P.underlying t=some (.map kt et)){dst:Option Tmp}{ty:TypeId}{pos:String}{after:Array Edge}{guard:Option (Nat×Bool)}{m':SX}(hm:cX m=some m')
  {K:SV->St->Prop} (he:evM g st K (.mlen m')):Acts P C μ st.hp w st.fr K ((execOp a.eval ⟨dst,.call ⟨.builtin .len,#[m],#[t]⟩,ty,pos,after,guard⟩).run P w):=by
 have hmr:=oW hg h.fr hm;simp only[evM]at he;have step:∀{r:Result Value},(Builtin.len_ #[t] ty #[a.eval m]).run P w=r ->
   (execOp a.eval ⟨dst,.call ⟨.builtin .len,#[m],#[t]⟩,ty,pos,after,guard⟩).run P w=r.andThen λv w'=>.ok (.value v) w':=by
  simp_all[execOp,resolve,invoke,builtin]
 split at he
 .rename_i hmv;rw[hmv]at hmr;have hmn:a.eval m=.map none:=aC.1 hmr;have run:(Builtin.len_ #[t] ty #[a.eval m]).run P w=.ok (goInt 0) w:=by
   simp_all[Builtin.len_,aJ]
  rw[step run];exact lB h.hep he rfl rfl
 .split at he
  .rename_i V kk' l clock ev iv ha;obtain⟨id,b,c,es,q1,q2,q3,q4,q5,q6,q7⟩:=jO h.hep hmr ha;have run:(Builtin.len_ #[t] ty #[a.eval m]).run P w=.ok (goInt (l.length:Int)) w:=by
    rw[q3];simp[Builtin.len_,aJ w ht,MapKept.run_getObj_map q4,Fq q5]
   rw[step run];exact lB h.hep he rfl rfl
  grind
end
end Go.Eng
end
section
namespace Go.Eng
open Go Go.RowKit
theorem oE{hp:List (Nat×aL)}{k:Nat}(hk:k<FB)(hnf:∀f,get? hp k≠some (.fam f))(n:Nat):hget (drop? hp k) n=if n=k then none else hget hp n:=by
 by_cases hn:n<FB
 .grind [fF,get?_drop]
 .have hne:¬n=k:=by omega
  simp only[hget,hn,if_false,hne,get?_drop]
  grind
section
variable {C:Ctx} {μ:Nat->Option (Nat×Nat)} {hp:List (Nat×aL)} {nx:Nat} {w:World}
theorem bD.vP(h:bD C μ hp nx w){k:Nat}{o0:aL}(hg:get? hp k=some o0)(hs:solid? o0=some o0) :
  (aG C μ hp w).Le (aG C μ (drop? hp k) w)/\bD C μ (drop? hp k) nx w:=by
 have hk:=h.obj.keys _ _ hg;have hd:=oE hk (λf e=>by rw[hg]at e; cases e; cases hs);have old:∀{id:Nat} {o:aL},hget (drop? hp k) id=some o->id≠k/\hget hp id=some o:=by
  simp[*]
 have kold:∀{id:Nat} {o:aL},get? (drop? hp k) id=some o->get? hp id=some o:=by
  grind[get?_drop]
 have hE:(aG C μ hp w).Le (aG C μ (drop? hp k) w):=by
  refine⟨⟨⟨?_,λ_ _=>rfl⟩,λ_ _ e=>e⟩,Kd.refl _,λ_ _ _ e=>e⟩;rintro b ⟨a1,a2,a3,a4⟩;exact⟨a1,a2,(by grind),a4⟩
 refine⟨hE,⟨⟨λid o e=>h.obj.keys _ _ (kold e),?_⟩,?_,?_,λid o e=>h.keys _ _ (kold e),h.nx,?_,h.pin,h.frm,λid p q e hge g=>h.pos id p q e hge (old g).2⟩⟩
 .intro id o ho;obtain⟨b,c,x,e1,e2,e3⟩:=h.obj.obj id o (old ho).2;exact⟨b,c,x,e1,e2,e3.mono hE⟩
 .intro id id' o o' b c c' g g' e e';exact h.inj _ _ _ _ _ _ _ (old g).2 (old g').2 e e'
 .intro id o b c g e;exact h.mine _ _ _ _ (old g).2 e
 .intro id p e hge;obtain⟨o,ho⟩:=h.fam id p e hge
  grind
theorem bD.rename(h:bD C μ hp nx w)(hnx:nx<FB){k b c:Nat}{o0:aL}(hg:get? hp k=some o0)(hs:solid? o0=some o0)(hm:μ k=some (b,c)) :
  (aG C μ hp w).Le (aG C (upd μ nx (b,c)) ((nx,o0)::drop? hp k) w)/\bD C (upd μ nx (b,c)) ((nx,o0)::drop? hp k) (nx+1) w:=by
 have hk:=h.obj.keys _ _ hg;have hknx:=h.keys _ _ hg;have hd:=oE hk (λf e=>by rw[hg]at e; cases e; cases hs);have hmn:μ nx=none:=by
  cases e:μ nx with
  |none=>rfl
  |some p=>have:=h.nx nx p e hnx; omega
 have hgn:get? (drop? hp k) nx=none:=by
  rw[get?_drop];split
  .rfl
  .cases e:get? hp nx with
   |none=>rfl
   |some p=>have:=h.keys nx p e; omega
 have hc:=gU (hp:=drop? hp k) (id:=nx) (x:=o0) hnx hs (λf e=>by rw[hgn]at e; cases e);have hgk:hget hp k=some o0:=h.get hg hs
 -- an object of the new store is one of the old,in the same block
 have old:∀{id:Nat} {o:aL},hget ((nx,o0)::drop? hp k) id=some o->(id=nx/\o=o0)\/(id≠nx/\id≠k/\hget hp id=some o):=by
  intro id o ho;rw[hc]at ho;split at ho
  .rename_i e; cases ho; exact .inl ⟨e.symm,rfl⟩
  .rename_i hne;rw[hd]at ho;split at ho
   .cases ho
   .rename_i hne'; exact .inr ⟨fR hne,hne',ho⟩
 have upo:∀{id:Nat},id≠nx->upd μ nx (b,c) id=μ id:=by grind[upd]
 have upn:upd μ nx (b,c) nx=some (b,c):=by simp[upd]
 have hE:(aG C μ hp w).Le (aG C (upd μ nx (b,c)) ((nx,o0)::drop? hp k) w):=by
  refine⟨⟨⟨?_,λ_ _=>rfl⟩,Vg hmn _⟩,Kd.refl _,λ_ _ _ e=>e⟩;rintro q ⟨a1,a2,a3,a4⟩;refine⟨a1,a2,?_,a4⟩
  grind
 refine⟨hE,⟨⟨?_,?_⟩,?_,?_,?_,?_,?_,λid p e=>hE.μ _ _ (h.pin id p e),h.frm,?_⟩⟩
 .intro id o e;rw[get?_cons]at e;split at e
  .omega
  .rw [get?_drop]at e;split at e
   .cases e
   .exact h.obj.keys _ _ e
 .intro id o ho;rcases old ho with⟨rfl,rfl⟩|⟨h1,_,h3⟩
  .obtain ⟨b',c',x,e1,e2,e3⟩:=h.obj.obj k _ hgk;have e1':μ k=some (b',c'):=e1;rw[hm]at e1';cases e1';exact⟨b,c,x,upn,e2,e3.mono hE⟩
  .obtain ⟨b',c',x,e1,e2,e3⟩:=h.obj.obj id o h3;exact⟨b',c',x,hE.μ _ _ e1,e2,e3.mono hE⟩
 .intro id id' o o' q c1 c2 g g' e e';rcases old g with⟨rfl,rfl⟩|⟨h1,h2,h3⟩<;>rcases old g' with⟨rfl,rfl⟩|⟨k1,k2,k3⟩
  .rfl
  .rw [upn]at e;rw[upo k1]at e';cases e;exact absurd (h.inj _ _ _ _ _ _ _ hgk k3 hm e').symm k2
  .rw [upn]at e';rw[upo h1]at e;cases e';exact absurd (h.inj _ _ _ _ _ _ _ h3 hgk e hm) h2
  .rw [upo h1]at e;rw[upo k1]at e';exact h.inj _ _ _ _ _ _ _ h3 k3 e e'
 .intro id o q c1 g e;rcases old g with⟨rfl,rfl⟩|⟨h1,h2,h3⟩
  .rw [upn]at e;cases e;exact h.mine _ _ _ _ hgk hm
  .rw [upo h1]at e;exact h.mine _ _ _ _ h3 e
 .intro id o e;rw[get?_cons]at e;split at e
  .omega
  .rw [get?_drop]at e;split at e
   .cases e
   .have:=h.keys _ _ e; omega
 .intro id p e hlt;by_cases h1:id=nx
  .omega
  .rw [upo h1]at e;have:=h.nx id p e hlt;omega
 .intro id p e hge;have h1:id≠nx:=by omega
  rw[upo h1]at e;obtain⟨o,ho⟩:=h.fam id p e hge;refine⟨o,?_⟩;rw[hc,if_neg (fR h1),hd,if_neg (by omega)];exact ho
 .intro id p q e hge g;have h1:id≠nx:=by omega
  rw[upo h1]at e;rcases old g with⟨rfl,_⟩|⟨_,_,h3⟩
  .omega
  .exact h.pos id p q e hge h3
end
def lU:SV->Bool
 |.nil=>true
 |.cons h t=>Ak h && lU t
 |.ints _ _ _ t=>lU t
 |_=>false
theorem Gq{E:Env}{s:SV}{v:Value}(h:Ak s=true)(hr:R E s [v]):v.oneCell'=true:=by
 cases s<;>simp only[Ak,eR]at h<;>simp only[R]at hr
 case val u=>grind
 case fn=>obtain⟨_,hv,_⟩:=hr; obtain rfl:=aC.1 hv; exact Wo _ _
 case osl=>rcases hr with⟨_,_,_,hv⟩|⟨_,_,_,_,hv,_⟩<;>(obtain rfl:=aC.1 hv; rfl)
 case lsl=>rcases hr with⟨_,_,hv⟩|⟨_,_,_,_,hv,_⟩<;>(obtain rfl:=aC.1 hv; rfl)
 case flsl=>rcases hr with⟨_,_,hv⟩|⟨_,_,_,hv,_⟩<;>(obtain rfl:=aC.1 hv; rfl)
 all_goals first
  | (obtain rfl:=aC.1 hr; rfl)
  | (obtain⟨_,_,_,hv⟩:=hr; obtain rfl:=aC.1 hv; rfl)
  | (obtain⟨_,_,_,_,hv,_⟩:=hr; obtain rfl:=aC.1 hv; rfl)
  | (obtain⟨_,_,hv,_⟩:=hr; obtain rfl:=aC.1 hv; rfl)
  | (obtain⟨_,hv,_⟩:=hr; obtain rfl:=aC.1 hv; rfl)
  | (obtain⟨_,_,_,hv,_⟩:=hr; obtain rfl:=aC.1 hv; rfl)
theorem pP{E:Env}:∀{l:SV} {cs:List Value},lU l=true->R E l cs->∀v∈cs,v.oneCell'=true:=by
 intro l;induction l with
 |cons h t _ iht =>
  intro cs h1 hr v hv;simp only[lU,aI]at h1;simp only[R]at hr;obtain⟨x,xs,rfl,k1,k2⟩:=hr;rcases aR.1 hv with rfl|hv
  .exact Gq h1.1 k1
  grind
 |ints k n f t iht =>
  intro cs h1 hr v hv;simp only[R]at hr;obtain⟨xs,rfl,k2⟩:=hr;rcases bT.1 hv with hv|hv
  .unfold iN at hv;obtain⟨i,_,rfl⟩:=cD.1 hv;rfl
  .exact iht h1 k2 v hv
 |nil=>grind[R]
 |_=>intro cs h1; simp[lU]at h1
def qQ:SV->Bool
 |.nil=>true
 |.cons h t=>lU h && qQ t
 |_=>false
def aDl(hp:List (Nat×aL))(sz:Nat):SV->(Nat->(Nat->SV)->Prop)->Prop
 |.nilsl,k=>k 0 λ_=>.junk
 |.slit sz' els,k=>bif Nat.beq sz sz' then bif qQ els then gN els.len λm=>k m (mO els)else False else False
 |.slice sz' n enc,k=>bif Nat.beq sz sz' then (∀j,j<n->lU (enc j)=true)/\k n enc else False
 |.osl id sz' lo n,k=>match get? hp id with
  |some (.arr _ sz'' len enc)=>bif Nat.beq sz sz' then bif Nat.beq sz sz'' then lo+n<=len/\(∀j,j<n->lU (enc (lo+j))=true)/\k n λj=>enc (lo+j)else False else False
  |_=>False
 |_,_=>False
def aFo(y:SV)(m:Nat)(none some:Prop):Prop :=
 match y with
 |.nilsl=>none
 |.slit _ .nil=>none
 |.slit _ (.cons _ _)=>some
 |_=>(m=0->none)/\(0<m->some)
def gH(n:Nat)(f g:Nat->SV):Nat->SV:=λj=>bif Nat.blt j n then f j else g (j-n)
def A7(n bytes:Nat):Prop:=n<=9223372036854775807/\n*bytes<=140737488355328
def Ln(st:St)(T sz bytes:Nat)(x y:SV)(k:SV->St->Prop):Prop :=
 match st with
 | ⟨fr,hp,nx⟩=>bif Nat.blt nx FB then aDl hp sz (pB y) λm enc =>
   match x with
   |.nilsl=>A7 m bytes/\k (.lsl nx sz m) ⟨fr,(nx,.arr T sz m enc)::hp,nx+1⟩
   |.slit sz' els=>bif Nat.beq sz sz' then match els with
     |.nil=>A7 m bytes/\k (.lsl nx sz m) ⟨fr,(nx,.arr T sz m enc)::hp,nx+1⟩
     |els=>aFo (pB y) m (k (.slit sz els) ⟨fr,hp,nx⟩)
      (A7 (els.len+m) bytes/\k (.lsl nx sz (els.len+m)) ⟨fr,(nx,.arr T sz (els.len+m) (gH els.len (mO els) enc))::hp,nx+1⟩)else False
   |.osl id sz' lo n=>match get? hp id with
    |some (.arr T' sz'' len enc0)=>bif Nat.beq sz sz' then bif Nat.beq sz sz'' then bif Nat.beq T T' then
      (0<n/\lo+n=len)/\A7 (n+m) bytes/\k (.osl nx sz lo (n+m)) ⟨fr,(nx,.arr T sz (lo+(n+m)) (gH (lo+n) enc0 enc))::drop? hp id,nx+1⟩ /\
       k (.osl nx sz 0 (n+m)) ⟨fr,(nx,.arr T sz (n+m) (gH n (λj=>enc0 (lo+j)) enc))::drop? hp id,nx+1⟩else False else False else False
    |_=>False
   |.lsl id sz' n=>match get? hp id with
    |some (.arr T' sz'' len enc0)=>bif Nat.beq sz sz' then bif Nat.beq sz sz'' then bif Nat.beq T T' then
      n=len/\A7 (n+m) bytes/\k (.lsl nx sz (n+m)) ⟨fr,(nx,.arr T sz (n+m) (gH n enc0 enc))::drop? hp id,nx+1⟩else False else False else False
    |_=>False
   |_=>False
  else False
def B0(E:Env)(sz m:Nat)(enc:Nat->SV)(v:Value):Prop :=
 ∃a cap,v=.slice a m cap/\(0<m->∃b off,a=some ⟨b,off,none⟩/\∀j,j<m->∃cs,R E (enc j) cs/\cs.length=sz/\Holds E.w b (off+j*sz) cs/\∀u∈cs,u.oneCell'=true)
theorem wO{E:Env}{sz m:Nat}{enc:Nat->SV}{a:Option Addr}{cap:Nat}(h:∀j,j<m->pM E a sz j (R E (enc j)))(h1:∀j,j<m->lU (enc j)=true):B0 E sz m enc (.slice a m cap):=by
 refine⟨a,cap,rfl,λhm=>?_⟩;obtain⟨b,off,cs,ea,_⟩:=h 0 hm;refine⟨b,off,ea,λj hj=>?_⟩;obtain⟨b',off',cs',ea',_,hr,hl,hh⟩:=h j hj
 grind[pP]
theorem Ii{E:Env}{a:Option Addr}{sz:Nat}:∀{els:SV} {i:Nat},RE E els a sz i->∀j,j<els.len->pM E a sz (i+j) (R E (mO els j)):=by
 intro els;induction els with
 |cons h t _ iht =>
  intro i hr j hj;simp only[RE]at hr;cases j with
  |zero=>exact hr.1
  |succ j =>
   have:=iht hr.2 j (by grind[SV.len]);rw[show i+(j+1)=i+1+j by omega];exact this
 |ints=>grind[RE]
 |_=>intro i _ j hj; simp[SV.len]at hj
theorem Fv:∀{els:SV},qQ els=true->∀j,j<els.len->lU (mO els j)=true:=by
 intro els;induction els with
 |cons h t _ iht =>
  intro hr j hj;simp only[qQ,aI]at hr;cases j with
  |zero=>exact hr.1
  |succ j=>exact iht hr.2 j (by simp only[SV.len]at hj; omega)
 |ints=>grind[qQ]
 |_=>intro _ j hj; simp[SV.len]at hj
section
variable {P:Program} {C:Ctx} {μ:Nat->Option (Nat×Nat)} {hp:List (Nat×aL)} {nx:Nat} {w:World}
theorem Kw(h:bD C μ hp nx w){sz:Nat}{y:SV}{v:Value}(hr:R (aG C μ hp w) y [v]){k:Nat->(Nat->SV)->Prop}(he:aDl hp sz y k) :
  ∃m enc,k m enc/\B0 (aG C μ hp w) sz m enc v/\∀(p q:Prop),aFo y m p q->(m=0->p)/\(0<m->q):=by
 cases y<;>simp only[aDl]at he<;>try exact he.elim
 .rename_i id sz' lo n;split at he
  .rename_i T sz'' len enc hg;cases h1:Nat.beq sz sz' with
   |false=>grind
   |true =>
   cases h2:Nat.beq sz sz'' with
   |false=>grind
   |true =>
   have e1:=nbeq h1;have e2:=nbeq h2;subst e1;subst e2;simp only[h1,cond_true]at he;obtain⟨g1,g2,g3⟩:=he;simp only[R]at hr;rcases hr with⟨rfl,a,cap,hv⟩|⟨hn0,b,c,m1,hv,hle⟩
   .exact ⟨0,_,g3,⟨_,_,aC.1 hv,(by grind)⟩,λ_ _ e=>e⟩
   refine⟨n,_,g3,⟨_,_,aC.1 hv,λhn=>?_⟩,λ_ _ e=>e⟩;obtain⟨cs,c1,c2,c3,c4⟩:=h.obj.arr hg (by omega) m1;refine⟨b,lo*sz,rfl,λj hj=>?_⟩;obtain⟨xs,x1,x2,x3⟩:=c4 (lo+j) (by omega);refine⟨xs,x1,x2,?_,(by grind[pP])⟩;intro q u hq;have hh:=Holds.row c1 0 ((lo+j)*sz+q) u (by simp[*])
   grind
  grind
 .simp only [R]at hr;refine⟨0,_,he,⟨_,_,aC.1 hr,λh=>by omega⟩,λp q e=>⟨λ_=>e,λh=>by omega⟩⟩
 .rename_i sz' n enc;cases h1:Nat.beq sz sz' with
  |false=>grind
  |true =>
  have e1:=nbeq h1;subst e1;simp only[h1,cond_true]at he;simp only[R]at hr;obtain⟨a,cap,hv,hle,hel⟩:=hr;refine⟨n,enc,he.2,?_,λ_ _ e=>e⟩
  grind[wO]
 .rename_i sz' els;cases h1:Nat.beq sz sz' with
  |false=>grind
  |true =>
  cases h2:qQ els with
  |false=>grind
  |true =>
  have e1:=nbeq h1;subst e1;simp only[h1,h2,cond_true,iW]at he;simp only[R]at hr;obtain⟨a,hv,hel⟩:=hr;refine⟨els.len,mO els,he,?_,?_⟩
  .rw [aC.1 hv];exact wO (λj hj=>by simpa using Ii hel j hj) (Fv h2)
  .intro p q e;cases els with
   |nil=>exact⟨λ_=>e,λh=>by simp[SV.len]at h⟩
   |cons x r=>exact⟨λh=>by simp[SV.len]at h,λ_=>e⟩
   |_=>simp[qQ]at h2
theorem xW{E:Env}{sz b off:Nat}{enc:Nat->SV}{p:Value->Prop}:∀(m:Nat),(∀j,j<m->∃cs,R E (enc j) cs/\cs.length=sz/\Holds E.w b (off+j*sz) cs/\∀u∈cs,p u) ->
  ∃news:List Value,news.length=m*sz/\Holds E.w b off news/\(∀u∈news,p u)/\∀j,j<m->∃cs,R E (enc j) cs/\cs.length=sz/\∀q v,cs[q]?=some v->news[j*sz+q]?=some v:=by
 intro m;induction m with
 |zero=>intro _; exact⟨[],by simp,(λj v e=>by simp at e),(λu hu=>by cases hu),λj hj=>by omega⟩
 |succ m ih =>
  intro h;obtain⟨news,n1,n2,n3,n4⟩:=ih λj hj=>h j (by omega);obtain⟨cs,c1,c2,c3,c4⟩:=h m (by omega);refine⟨news++cs,by grind,?_,?_,?_⟩
  .intro q v e;by_cases hq:q<news.length
   .rw [cH hq]at e;exact n2 q v e
   .rw [dA (by omega)]at e;have:=c3 _ v e
    grind
  .grind
  .intro j hj;by_cases hjm:j<m
   .grind
   grind
theorem F5{w:World}{b off j:Nat}:w.cell? ((⟨b,off,none⟩:Addr).add j)=w.cell? ⟨b,off+j,none⟩:=by
 grind[Addr.add]
theorem lR{t ty e:TypeId}{i:TypeInfo}(ht:P.underlying t=some (.slice e))(hi:P.info? e=some i){base:Option Addr}{n cap:Nat}(hle:n<=cap){a:Option Addr}{c:Nat} :
  (Builtin.append_ #[t,t] ty #[.slice base n cap,.slice a 0 c]).run P w=.ok (.slice base n cap) w:=by
 cases base<;>cases a<;>simp[Builtin.append_,run_underlying ht,sizeOf,typeInfo,hi,Builtin.lenOf,Builtin.firstCells,hle,loadCells,loadCellsFrom,storeCells]
theorem oD(k:Nat)(o:aL):∀hp:List (Nat×aL),drop? (fL hp k o) k=drop? hp k:=by
 intro hp;induction hp with
 |nil=>simp[fL,drop?,Nat.beq_refl]
 |cons p r ih =>
  grind[fL,drop?,Nat.beq_refl]
theorem bD.yA(h:bD C μ hp nx w){id b c:Nat}{o x:aL}(hg:get? hp id=some o)(hs:solid? o=some o)(hsx:solid? x=some x)(hm:μ id=some (b,c))(hn:∀l p,o≠.hid l p)(hnx:∀l p,x≠.hid l p)(hx:∀y,w.heap[b]?=some y->HR (aG C μ hp w) o c y->HR (aG C μ hp w) x c y) :
  (aG C μ hp w).Le (aG C μ (fL hp id x) w)/\bD C μ (fL hp id x) nx w:=by
 obtain⟨b',c',y,e1,e2,e3⟩:=h.obj.obj id _ (h.get hg hs);have e1':μ id=some (b',c'):=e1;rw[hm]at e1';cases e1';exact h.write (hp':=fL hp id x) (x:=x) (id:=id) (b:=b) (c:=c) (o:=o) (y:=y) (λn=>by rw[fH]; exact gU (h.obj.keys _ _ hg) hsx (λf e=>by rw[hg]at e; cases e; cases hs) n) (fI hg) (h.get hg hs) hm rfl (λ_ _=>rfl) e2 rfl rfl rfl (hx y e2 e3) hn (DLe.of_le (aN _)) (λhf=>absurd (h.obj.keys _ _ hg) (bJ.2 hf)) hnx
def Els(E:Env)(sz n:Nat)(enc:Nat->SV)(xs:List Value):Prop :=
 xs.length=n*sz/\∀j,j<n->∃cs,R E (enc j) cs/\cs.length=sz/\∀q v,cs[q]?=some v->xs[j*sz+q]?=some v
theorem Els.app{E:Env}{sz n m:Nat}{f g:Nat->SV}{xs ys:List Value}(h:Els E sz n f xs)(k:Els E sz m g ys):Els E sz (n+m) (gH n f g) (xs++ys):=by
 refine⟨by rw[bF,h.1,k.1,jG],λj hj=>?_⟩;unfold gH;by_cases hjn:j<n
 .have hb:Nat.blt j n=true:=Nat.ble_eq_true_of_le hjn;obtain⟨cs,c1,c2,c3⟩:=h.2 j hjn
  grind
 .have hb:Nat.blt j n=false:=by
   cases e:Nat.blt j n with
   |false=>rfl
   |true=>exact absurd (aQ (n:=j+1) e) hjn
  obtain⟨cs,c1,c2,c3⟩:=k.2 (j-n) (by omega);refine⟨cs,by simp[*],c2,λq v e=>?_⟩;have hle:n*sz<=j*sz:=bP _ (by omega);rw[dA (by rw[h.1]; omega),h.1]
  grind[Nat.sub_mul]
theorem Els.mono{E E':Env}(hE:E.LeR E'){sz n:Nat}{f:Nat->SV}{xs:List Value}(h:Els E sz n f xs):Els E' sz n f xs :=
 ⟨h.1,λj hj=>let ⟨cs,c1,c2,c3⟩:=h.2 j hj; ⟨cs,eW hE c1,c2,c3⟩⟩
theorem Mw(h:bD C μ hp nx w)(hnx:nx<FB){e sz n gc:Nat}(hn0:0<n){enc:Nat->SV}{xs:List Value}(hx:Els (aG C μ hp w) sz n enc xs)(hgc:n<=gc/\gc<=9223372036854775807)(zs:Array Value)(hzs:zs.size=(gc-n)*sz) :
  (aG C μ hp w).Le (aG C (upd μ nx (w.heap.size,gc)) ((nx,.arr e sz n enc)::hp) (w.drew.alloc (.cells (xs.toArray++zs) e))) /\
  bD C (upd μ nx (w.heap.size,gc)) ((nx,.arr e sz n enc)::hp) (nx+1) (w.drew.alloc (.cells (xs.toArray++zs) e)):=by
 have hb:Below w.heap.size w w.drew:=(Below.refl _ _).drew;have h1:=h.below hb;have hE1:=jM (C:=C) (μ:=μ) (hp:=hp) hb;have hx1:=hx.mono hE1.toLeR;obtain⟨hE2,h2⟩:=h1.alloc hnx (.cells (xs.toArray++zs) e) (.arr e sz n enc) (cL hn0) gc (by
  refine⟨(xs.toArray++zs).toList,by simp,?_,hgc,?_⟩
  .rw [jP,kU,hzs,gE,hx1.1,<- jG];congr 1;omega
  .intro j hj;obtain⟨cs,c1,c2,c3⟩:=hx1.2 j hj;refine⟨cs,c1,c2,λq v e=>?_⟩;have:=c3 q v e;rw[Array.toList_append,cH (bZ.1 this).1];exact this)
 exact⟨hE1.trans hE2,h2⟩
theorem Y0{_P:Program}{_e:Nat}{i:TypeInfo}{z:CV}(hz:mM i=some z)(hzl:z.len=i.size):∃v,i.zero=some v/\v.cells.size=i.size:=by
 obtain⟨v,h1,_,_,h4⟩:=lG (E:=iV (λ_=>False) ⟨#[],default,default,default,default⟩) hz
 grind
theorem Holds.add{w:World}{b off:Nat}{cs:List Value}(h:Holds w b off cs):∀j u,cs[j]?=some u->w.cell? ((⟨b,off,none⟩:Addr).add j)=some u :=
 λj u e=>by rw[F5]; exact h j u e
theorem vI(h:bD C μ hp nx w)(hnx:nx<FB){t ty e:TypeId}{i:TypeInfo}{z:CV}(ht:P.underlying t=some (.slice e))(hi:P.info? e=some i)(hz:mM i=some z)(hzl:z.len=i.size)
  {base:Option Addr} {n cap m c':Nat} {b off:Nat} {enc0 enc:Nat->SV} {olds news:List Value} (ho:Els (aG C μ hp w) i.size n enc0 olds) (hn:Els (aG C μ hp w) i.size m enc news) (hnh:Holds w b off news)
  (hbase:(base=none/\n=0/\cap=0)\/∃ad,base=some ad/\∀j u,olds[j]?=some u->w.cell? (ad.add j)=some u) (hm:0<m) (hcap:cap<n+m) (hroom:A7 (n+m) i.bytes) {encA:Nat->SV} (hA:Els (aG C μ hp w) i.size (n+m) encA (olds++news)) :
  ∃v' w' gc,(Builtin.append_ #[t,t] ty #[.slice base n cap,.slice (some ⟨b,off,none⟩) m c']).run P w=.ok v' w'/\(aG C μ hp w).Le (aG C (upd μ nx (w.heap.size,gc)) ((nx,.arr e i.size (n+m) encA)::hp) w') /\
   bD C (upd μ nx (w.heap.size,gc)) ((nx,.arr e i.size (n+m) encA)::hp) (nx+1) w'/\R (aG C (upd μ nx (w.heap.size,gc)) ((nx,.arr e i.size (n+m) encA)::hp) w') (.lsl nx i.size (n+m)) [v']:=by
 obtain⟨zv,z1,z2⟩:=Y0 (_P:=P) (_e:=e) hz hzl;have hr1:=hroom.1;have hr2:=hroom.2;have res:∀gc w',(aG C μ hp w).Le (aG C (upd μ nx (w.heap.size,gc)) ((nx,.arr e i.size (n+m) encA)::hp) w')->n+m<=gc->R (aG C (upd μ nx (w.heap.size,gc)) ((nx,.arr e i.size (n+m) encA)::hp) w') (.lsl nx i.size (n+m)) [.slice (some ⟨w.heap.size,0,none⟩) (n+m) gc]:=by
  intro gc w' _ hgc;simp only[R];exact .inr ⟨by omega,w.heap.size,gc,by simp[aG,upd],rfl,hgc⟩
 rcases hbase with⟨rfl,rfl,rfl⟩|⟨ad,rfl,hold⟩
 .have hgc:=grownCap_ge w m 0 e;have hx0:olds=[]:=List.eq_nil_of_length_eq_zero (by simpa using ho.1);subst hx0;have run:=run_append_nil (P:=P) w t ty e i zv ht hi z1 ⟨b,off,none⟩ m c' news hn.1 hnh.add hm (by omega) (by grind);have na:=Mw (e:=e) h hnx (by omega) hA (gc:=grownCap w m 0 e) ⟨by omega,by grind[grownCap_le_maxLen,maxLen]⟩ (Builtin.zeroCells zv.cells (grownCap w m 0 e-m)) (by simp_all[size_zeroCells])
  grind
 .have hgc:=grownCap_ge w (n+m) cap e;have run:=run_append_grow (P:=P) w t ty e i zv ht hi z1 ad n cap olds ho.1 hold ⟨b,off,none⟩ m c' news hn.1 hnh.add hcap (by omega) (growslice_fits hcap hr2);have na:=Mw (e:=e) h hnx (by omega) hA (gc:=grownCap w (n+m) cap e) ⟨by omega,by grind[grownCap_le_maxLen,maxLen]⟩ (Builtin.zeroCells zv.cells (grownCap w (n+m) cap e-(n+m))) (by rw[size_zeroCells,z2])
  grind
theorem Nt(f g:Nat->SV):gH 0 f g=g:=by
 rfl
theorem B0.mono{E E':Env}(hE:E.Le E')(hw:E'.w=E.w){sz m:Nat}{enc:Nat->SV}{v:Value}(h:B0 E sz m enc v):B0 E' sz m enc v:=by
 obtain⟨a,cap,h1,h2⟩:=h;refine⟨a,cap,h1,λhm=>?_⟩
 grind[kJ]
theorem wV(h:bD C μ hp nx w)(hnx:nx<FB){t ty e:TypeId}{i:TypeInfo}{z:CV}(ht:P.underlying t=some (.slice e))(hi:P.info? e=some i)(hz:mM i=some z)(hzl:z.len=i.size)
  {a0:Option Addr} {m:Nat} {enc:Nat->SV} {vy:Value} (hsrc:B0 (aG C μ hp w) i.size m enc vy) (hroom:A7 m i.bytes) :
  ∃v' w' μ',(Builtin.append_ #[t,t] ty #[.slice a0 0 0,vy]).run P w=.ok v' w'/\(aG C μ hp w).Le (aG C μ' ((nx,.arr e i.size m enc)::hp) w') /\
   bD C μ' ((nx,.arr e i.size m enc)::hp) (nx+1) w'/\R (aG C μ' ((nx,.arr e i.size m enc)::hp) w') (.lsl nx i.size m) [v']:=by
 obtain⟨a,c',rfl,hsrc⟩:=hsrc;by_cases hm:m=0
 .subst hm;have hgn:get? hp nx=none:=by
   cases e:get? hp nx with
   |none=>rfl
   |some p=>have:=h.keys nx p e; omega
  obtain⟨hE,hh⟩:=h.same (hp':=(nx,.arr e i.size 0 enc)::hp) (nx':=nx+1) (by grind[Jf,rE]) (by
   intro id o e;rw[get?_cons]at e;split at e
   .omega
   .have:=h.keys _ _ e; omega) (jH _)
  refine⟨_,_,μ,lR ht hi (aN _),hE,hh,?_⟩;simp only[R];simp
 .obtain ⟨b,off,ha,hel⟩:=hsrc (by omega);subst ha;obtain⟨ns,n1,n2,n3,n4⟩:=xW m hel;have hb:(a0=none/\0=0/\0=0)\/∃ad,a0=some ad/\∀j u,([]:List Value)[j]?=some u->w.cell? (ad.add j)=some u:=by
   cases a0 with
   |none=>simp
   |some ad=>simp
  obtain⟨v',w',gc,run,hE,hh,hR⟩:=vI (ty:=ty) (c':=c') (n:=0) (cap:=0) (base:=a0) (enc0:=λ_=>.junk) (olds:=[]) h hnx ht hi hz hzl ⟨by simp,λj hj=>by omega⟩ ⟨n1,n4⟩ n2 hb (by omega) (by omega) (by simp[*]) (encA:=enc) (by rw[aP]; exact⟨n1,n4⟩)
  grind
theorem uY{t ty e:TypeId}{i:TypeInfo}(ht:P.underlying t=some (.slice e))(hi:P.info? e=some i)
  (g o sLen sCap:Nat) (cur:Array Value) (hg:w.heap[g]?=some (.cells cur e (0,0)))
  (a:Addr) (m c:Nat) (news:List Value) (hl:news.length=m*i.size) (hnews:∀j u,news[j]?=some u->w.cell? (a.add j)=some u) (h1:∀u∈news,u.oneCell'=true)
  (hroom:sLen+m<=sCap) (hfit:o+sLen*i.size+news.length<=cur.size) :
  (Builtin.append_ #[t,t] ty #[.slice (some ⟨g,o,none⟩) sLen sCap,.slice (some a) m c]).run P w =
   .ok (.slice (some ⟨g,o,none⟩) (sLen+m) sCap) (w.setRow g (cur.toList.take (o+sLen*i.size)++news++cur.toList.drop (o+sLen*i.size+news.length)).toArray):=by
 have hf:=run_firstCells_some (P:=P) w i.size m a m c news hl hnews;have hst:=run_storeCells_at P g (o+sLen*i.size) e news 0 cur w hg (by simpa using hfit) h1;simp only[Nat.add_zero]at hst;simp[Builtin.append_,run_underlying ht,sizeOf,typeInfo,hi,Builtin.lenOf,hroom,hf,Addr.add_lit,hst]
theorem Gc(h:bD C μ hp nx w){t ty e:TypeId}{i:TypeInfo}{z:CV}(ht:P.underlying t=some (.slice e))(hi:P.info? e=some i)(hz:mM i=some z)(hzl:z.len=i.size)(_hsz:0<i.size){x y:SV}{vx vy:Value}
  (hx:R (aG C μ hp w) x [vx]) (hy:R (aG C μ hp w) y [vy]) {fr:List (Nat×SV)} {K:SV->St->Prop} (he:Ln ⟨fr,hp,nx⟩ e i.size i.bytes x y K) :
  ∃v' w',(Builtin.append_ #[t,t] ty #[vx,vy]).run P w=.ok v' w'/\∃s st' μ',K s st'/\st'.fr=fr/\(aG C μ hp w).Le (aG C μ' st'.hp w')/\bD C μ' st'.hp st'.nx w'/\R (aG C μ' st'.hp w') s [v']:=by
 unfold Ln at he;simp only at he;cases hb:Nat.blt nx FB with
 |false=>grind
 |true =>
 have hnx:nx<FB:=aQ (n:=nx+1) hb;simp only[hb,cond_true]at he;obtain⟨m,enc,hk,hsrc0,hpos⟩:=Kw h (qN hy) he;obtain⟨a,c',hvy,hsrc⟩:=id hsrc0;have news:0<m->∃b off news,a=some ⟨b,off,none⟩/\Holds w b off news/\(∀u∈news,u.oneCell'=true)/\Els (aG C μ hp w) i.size m enc news:=by
  intro hm;obtain⟨b,off,ha,hel⟩:=hsrc hm;obtain⟨news,n1,n2,n3,n4⟩:=xW m hel;exact⟨b,off,news,ha,n2,n3,n1,n4⟩
 cases x<;>(try simp only at hk)<;>try exact hk.elim
 .rename_i id sz' lo n;split at hk
  .rename_i T' sz'' len enc0 hg;cases h1:Nat.beq i.size sz' with
   |false=>grind
   |true =>
   cases h2:Nat.beq i.size sz'' with
   |false=>grind
   |true =>
   cases h3:Nat.beq e T' with
   |false=>grind
   |true =>
   have e1:=nbeq h1;have e2:=nbeq h2;have e3:=nbeq h3;subst e1 e2 e3;simp only[h1,h3,cond_true]at hk;obtain⟨⟨hn0,hlen⟩,hroom,hk,hk0⟩:=hk;subst hlen;simp only[R]at hx;rcases hx with⟨rfl,_⟩|⟨_,b0,cp,m1,hv,hle⟩
   .omega
   rw[aC.1 hv,hvy];have hl0:0<lo+n:=by omega
   have hsol:=cL (T:=e) (sz:=i.size) (enc:=enc0) hl0;obtain⟨cur,c1,c2,c3,c4⟩:=h.obj.arr hg hl0 m1;have hnc:(lo+n)*i.size<=cp*i.size:=bP _ (by omega);have hmul:(lo+n)*i.size=lo*i.size+n*i.size:=jG ..;by_cases hm:m=0
   .subst hm;refine⟨_,_,lR ht hi (by omega),?_⟩;obtain⟨hE,hh⟩:=h.yA hg hsol (x:=.arr e i.size (lo+(n+0)) (gH (lo+n) enc0 enc)) (cL (by omega)) m1 (by grind) (by grind) (by
     rintro y _ ⟨cs,d1,d2,d3,d4⟩;refine⟨cs,d1,d2,by omega,λj hj=>?_⟩
     grind[Nat.blt,Nat.ble_eq_true_of_le,gH])
    obtain⟨hE2,hh2⟩:=hh.rename hnx (k:=id) (by rw[get?_putH,get?_cons,if_pos rfl]) (cL (by omega)) m1;rw[oD]at hE2 hh2;refine⟨_,_,_,hk,rfl,hE.trans hE2,hh2,?_⟩;simp only[R];exact .inr ⟨by omega,b0,cp,by simp[aG,upd],by simp,by omega⟩
   .obtain ⟨b,off,ns,rfl,n1,n2,n3⟩:=news (by omega);by_cases hfit:n+m<=cp-lo
    .have hnl:ns.length=m*i.size:=n3.1;have hsum0:(lo+n)*i.size+ns.length<=cur.length:=by rw[hnl,c2,<- jG]; exact bP _ (by omega)
     have hsum:lo*i.size+n*i.size+ns.length<=cur.length:=by omega
     have run:=uY (P:=P) (w:=w) (ty:=ty) ht hi b0 (lo*i.size) n (cp-lo) cur.toArray c1 ⟨b,off,none⟩ m c' ns hnl n1.add n2 hfit (by omega);refine⟨_,_,run,?_⟩;have hold:Els (aG C μ hp w) i.size (lo+n) enc0 (cur.take ((lo+n)*i.size)):=by
      refine⟨by grind,λj hj=>?_⟩;obtain⟨xs,x1,x2,x3⟩:=c4 j hj;refine⟨xs,x1,x2,λq v e=>?_⟩;have hq:q<i.size:=by grind
      have hj2:(j+1)*i.size<=(lo+n)*i.size:=bP _ hj
      grind
     have hA:=hold.app n3;obtain⟨row,hrow⟩:∃row:List Value,row=(cur.take (lo*i.size+n*i.size)++ns)++cur.drop (lo*i.size+n*i.size+ns.length):=⟨_,rfl⟩;have hrl:row.length=cp*i.size:=by
      grind
     have herow:(cur.toArray.toList.take (lo*i.size+n*i.size)++ns++cur.toArray.toList.drop (lo*i.size+n*i.size+ns.length)).toArray=row.toArray:=by rw[hrow]
     rw[herow];obtain⟨hE,hh⟩:=h.write (hp':=fL hp id (.arr e i.size (lo+(n+m)) (gH (lo+n) enc0 enc))) (x:=.arr e i.size (lo+(n+m)) (gH (lo+n) enc0 enc)) (id:=id) (b:=b0) (c:=cp) (o:=.arr e i.size (lo+n) enc0) (y:=.cells row.toArray e (0,0))
      (w':=w.setRow b0 row.toArray) (λn=>by rw[fH]; exact gU (h.obj.keys _ _ hg) (cL (by omega)) (by grind) n) (fI hg) (h.get hg hsol) m1 (by simp) (by grind[setRow_other]) (setRow_heap w b0 cur.toArray _ e (0,0) c1) rfl rfl rfl
      (by
       refine⟨row,rfl,hrl,by omega,λj hj=>?_⟩;obtain⟨xs,x1,x2,x3⟩:=hA.2 j (by omega)
       grind)
     obtain⟨hE2,hh2⟩:=hh.rename hnx (k:=id) (by rw[get?_putH,get?_cons,if_pos rfl]) (cL (by omega)) m1;rw[oD]at hE2 hh2;refine⟨_,_,_,hk,rfl,hE.trans hE2,hh2,?_⟩;simp only[R];exact .inr ⟨by omega,b0,cp,by simp[aG,upd],rfl,by omega⟩
    .have hold:Els (aG C μ hp w) i.size n (λj=>enc0 (lo+j)) ((cur.drop (lo*i.size)).take (n*i.size)):=by
      refine⟨by grind,λj hj=>?_⟩;obtain⟨xs,x1,x2,x3⟩:=c4 (lo+j) (by omega);refine⟨xs,x1,x2,λq v e=>?_⟩;have hq:q<i.size:=by grind
      have hj2:(j+1)*i.size<=n*i.size:=bP _ hj
      grind
     have hhold:Holds w b0 (lo*i.size) ((cur.drop (lo*i.size)).take (n*i.size)):=by
      have hr:Holds w b0 0 cur:=by have:=Holds.row (w:=w) c1 0; grind
      have hd:Holds w b0 (lo*i.size) (cur.drop (lo*i.size)):=by
       intro j v e;rw[cY]at e;have:=hr _ v e
       grind
      exact hd.take _
     obtain⟨v',w',gc,run,hE,hh,hR⟩:=vI (ty:=ty) (c':=c') h hnx ht hi hz hzl (cap:=cp-lo) hold n3 n1 (.inr ⟨_,rfl,hhold.add⟩) (by omega) (by omega) hroom (hold.app n3);refine⟨v',w',run,?_⟩;have hne:nx≠id:=by have:=h.keys _ _ hg; omega
     have hg2:get? ((nx,aL.arr e i.size (n+m) (gH n (λj=>enc0 (lo+j)) enc))::hp) id=some (.arr e i.size (lo+n) enc0):=by simp_all[get?_cons]
     obtain⟨hE2,hh2⟩:=hh.vP hg2 hsol;have hd:drop? ((nx,aL.arr e i.size (n+m) (gH n (λj=>enc0 (lo+j)) enc))::hp) id=(nx,aL.arr e i.size (n+m) (gH n (λj=>enc0 (lo+j)) enc))::drop? hp id:=by
      grind[drop?,nbeq]
     rw[hd]at hE2 hh2;exact⟨_,_,_,hk0,rfl,hE.trans hE2,hh2,qN (kJ hE2 hR)⟩
  grind
 .rename_i id sz' n;split at hk
  .rename_i T' sz'' len enc0 hg;cases h1:Nat.beq i.size sz' with
   |false=>grind
   |true =>
   cases h2:Nat.beq i.size sz'' with
   |false=>grind
   |true =>
   cases h3:Nat.beq e T' with
   |false=>grind
   |true =>
   have e1:=nbeq h1;have e2:=nbeq h2;have e3:=nbeq h3;subst e1 e2 e3;simp only[h1,h3,cond_true]at hk;obtain⟨hlen,hroom,hk⟩:=hk;subst hlen;simp only[R]at hx;rcases hx with⟨rfl,a0,hv⟩|⟨hn0,b0,cp,m1,hv,hle⟩
   .rw [aC.1 hv];have hid:=h.obj.keys _ _ hg;have hdr:=oE hid (hp:=hp) (λf e=>by rw[hg]at e; cases e);have hgh:hget hp id=none:=by grind[fF,rE]
    obtain⟨hE0,hh0⟩:=h.same (hp':=drop? hp id) (nx':=nx) (λn=>by
     rw[hdr];split
     .rename_i e; rw[e,hgh]
     .rfl) (by
     intro k o e;rw[get?_drop]at e;split at e
     .cases e
     .exact ⟨h.keys _ _ e,h.obj.keys _ _ e⟩) (aN _)
    obtain⟨v',w',μ',run,hE,hh,hR⟩:=wV (ty:=ty) (a0:=a0) hh0 hnx ht hi hz hzl (hsrc0.mono hE0 rfl) (by grind);rw[Nt,aP]at hk;exact⟨v',w',run,_,_,_,hk,rfl,hE0.trans hE,hh,hR⟩
   rw[aC.1 hv,hvy];have hsol:=cL (T:=e) (sz:=i.size) (enc:=enc0) hn0;obtain⟨cur,c1,c2,c3,c4⟩:=h.obj.arr hg hn0 m1;have hnc:n*i.size<=cp*i.size:=bP _ (by omega);have hold:Els (aG C μ hp w) i.size n enc0 (cur.take (n*i.size)):=by
    refine⟨by simp[*],λj hj=>?_⟩;obtain⟨xs,x1,x2,x3⟩:=c4 j hj;refine⟨xs,x1,x2,λq v e=>?_⟩;have hq:q<i.size:=by grind
    have hj2:(j+1)*i.size<=n*i.size:=bP _ hj
    grind
   by_cases hm:m=0
   .subst hm;refine⟨_,_,lR ht hi (by omega),?_⟩;obtain⟨hE,hh⟩:=h.yA hg hsol (x:=.arr e i.size (n+0) (gH n enc0 enc)) (cL (by omega)) m1 (by grind) (by grind) (by
     rintro y _ ⟨cs,d1,d2,d3,d4⟩;refine⟨cs,d1,d2,by omega,λj hj=>?_⟩
     grind[Nat.blt,Nat.ble_eq_true_of_le,gH])
    obtain⟨hE2,hh2⟩:=hh.rename hnx (k:=id) (by rw[get?_putH,get?_cons,if_pos rfl]) (cL (by omega)) m1;rw[oD]at hE2 hh2;refine⟨_,_,_,hk,rfl,hE.trans hE2,hh2,?_⟩;simp only[R];exact .inr ⟨by omega,b0,cp,by simp[aG,upd],by simp,by omega⟩
   .obtain ⟨b,off,ns,rfl,n1,n2,n3⟩:=news (by omega);by_cases hfit:n+m<=cp
    .have hnl:ns.length=m*i.size:=n3.1;have hsum:n*i.size+ns.length<=cur.length:=by rw[hnl,c2,<- jG]; exact bP _ hfit
     have run:=run_append_room (P:=P) w t ty e i ht hi b0 n cp cur.toArray c1 ⟨b,off,none⟩ m c' ns hnl n1.add n2 (by omega) (by omega);refine⟨_,_,run,?_⟩;have hA:=hold.app n3;obtain⟨row,hrow⟩:∃row:List Value,row=(cur.take (n*i.size)++ns)++cur.drop (n*i.size+ns.length):=⟨_,rfl⟩;have hrl:row.length=cp*i.size:=by
      grind
     have herow:(cur.toArray.toList.take (n*i.size)++ns++cur.toArray.toList.drop (n*i.size+ns.length)).toArray=row.toArray:=by rw[hrow]
     rw[herow];obtain⟨hE,hh⟩:=h.write (hp':=fL hp id (.arr e i.size (n+m) (gH n enc0 enc))) (x:=.arr e i.size (n+m) (gH n enc0 enc)) (id:=id) (b:=b0) (c:=cp) (o:=.arr e i.size n enc0) (y:=.cells row.toArray e (0,0))
      (w':=w.setRow b0 row.toArray) (λn=>by rw[fH]; exact gU (h.obj.keys _ _ hg) (cL (by omega)) (by grind) n) (fI hg) (h.get hg hsol) m1 (by simp) (by grind[setRow_other]) (setRow_heap w b0 cur.toArray _ e (0,0) c1) rfl rfl rfl
      (by
       refine⟨row,rfl,hrl,⟨hfit,by omega⟩,λj hj=>?_⟩;obtain⟨xs,x1,x2,x3⟩:=hA.2 j hj
       grind)
     obtain⟨hE2,hh2⟩:=hh.rename hnx (k:=id) (by rw[get?_putH,get?_cons,if_pos rfl]) (cL (by omega)) m1;rw[oD]at hE2 hh2;refine⟨_,_,_,hk,rfl,hE.trans hE2,hh2,?_⟩;simp only[R];exact .inr ⟨by omega,b0,cp,by simp[aG,upd],rfl,hfit⟩
    .have hhold:Holds w b0 0 (cur.take (n*i.size)):=by
      have hr:Holds w b0 0 cur:=by have:=Holds.row (w:=w) c1 0; grind
      exact hr.take _
     obtain⟨v',w',gc,run,hE,hh,hR⟩:=vI (ty:=ty) (c':=c') h hnx ht hi hz hzl (cap:=cp) hold n3 n1 (.inr ⟨_,rfl,hhold.add⟩) (by omega) (by omega) hroom (hold.app n3);refine⟨v',w',run,?_⟩;have hne:nx≠id:=by have:=h.keys _ _ hg; omega
     have hg2:get? ((nx,aL.arr e i.size (n+m) (gH n enc0 enc))::hp) id=some (.arr e i.size n enc0):=by simp_all[get?_cons]
     obtain⟨hE2,hh2⟩:=hh.vP hg2 hsol;have hd:drop? ((nx,aL.arr e i.size (n+m) (gH n enc0 enc))::hp) id=(nx,aL.arr e i.size (n+m) (gH n enc0 enc))::drop? hp id:=by
      grind[drop?,nbeq]
     rw[hd]at hE2 hh2;exact⟨_,_,_,hk,rfl,hE.trans hE2,hh2,kJ hE2 hR⟩
  grind
 .simp only [R]at hx;rw[aC.1 hx];obtain⟨v',w',μ',run,hE,hh,hR⟩:=wV (ty:=ty) (a0:=none) h hnx ht hi hz hzl hsrc0 hk.1;exact⟨v',w',run,_,_,_,hk.2,rfl,hE,hh,hR⟩
 .rename_i sz' els;cases h1:Nat.beq i.size sz' with
  |false=>grind
  |true =>
  have e1:=nbeq h1;subst e1;simp only[h1,cond_true]at hk;have hx':=hx;simp only[R]at hx;obtain⟨a0,hv,hel⟩:=hx;have ev:=aC.1 hv;split at hk
  .rw [ev];obtain⟨v',w',μ',run,hE,hh,hR⟩:=wV (ty:=ty) (a0:=a0) h hnx ht hi hz hzl hsrc0 hk.1;exact⟨v',w',run,_,_,_,hk.2,rfl,hE,hh,hR⟩
  rw[ev]at hx' ⊢;rw[hvy];obtain⟨hp0,hp1⟩:=hpos _ _ hk;by_cases hm:m=0
  .subst hm;exact⟨_,_,lR ht hi (aN _),_,_,μ,hp0 rfl,rfl,Env.Le.refl _,h,hx'⟩
  .obtain ⟨hroom,hK⟩:=hp1 (by omega);obtain⟨b,off,ns,rfl,n1,n2,n3⟩:=news (by omega);have hold:∃olds,Els (aG C μ hp w) i.size els.len (mO els) olds/\((a0=none/\els.len=0/\els.len=0)\/∃ad,a0=some ad/\∀j u,olds[j]?=some u->w.cell? (ad.add j)=some u):=by
    by_cases hl0:els.len=0
    .refine ⟨[],⟨by simp[hl0],λj hj=>by omega⟩,?_⟩;cases a0 with
     |none=>simp[*]
     |some ad=>simp
    .obtain ⟨b0,off0,cs0,ea,_⟩:=Ii hel 0 (by omega);have all:∀j,j<els.len->∃cs,R (aG C μ hp w) (mO els j) cs/\cs.length=i.size/\Holds w b0 (off0+j*i.size) cs/\∀u∈cs,True:=by
      intro j hj;obtain⟨b1,off1,cs,ea1,_,r1,l1,h1⟩:=Ii hel j hj;rw[aP]at h1;rw[ea]at ea1;cases ea1;exact⟨cs,r1,l1,h1,λ_ _=>trivial⟩
     obtain⟨olds,o1,o2,_,o4⟩:=xW els.len all;exact⟨olds,⟨o1,o4⟩,.inr ⟨_,ea,o2.add⟩⟩
   obtain⟨olds,ho,hbase⟩:=hold;obtain⟨v',w',gc,run,hE,hh,hR⟩:=vI (ty:=ty) (c':=c') h hnx ht hi hz hzl ho n3 n1 hbase (by omega) (by omega) hroom (ho.app n3);exact⟨v',w',run,_,_,_,hK,rfl,hE,hh,hR⟩
end
end Go.Eng
end
