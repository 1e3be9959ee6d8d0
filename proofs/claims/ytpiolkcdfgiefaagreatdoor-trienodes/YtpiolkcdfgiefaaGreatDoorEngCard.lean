/- A part of the proof. -/
import Derived.Test.YtpiolkcdfgiefaaGreatDoorL3
import Derived.ProofKit
import Derived.OpenShut
import Derived.SizedLaws
import Derived.HandedShaped
import Derived.LaidMore
import Derived.Lay
import Derived.Stop.Joined
section
namespace Go.Eng
open Go Go.RowKit Go.ChangeShapes Go.WideShapes Go.ChangeAt
inductive Sp where
 | nil
 | cons (h t:Sp)
 | int (k:IntKind)
 | bool
 | str
 | slice (sz:Nat) (e:Sp)
def Sp.app:Sp->Sp->Sp
 | .cons h t,s=>.cons h (t.app s)
 | _,s=>s
def Sp.len:Sp->Nat
 | .cons _ t=>t.len+1
 | _=>0
def Sp.isL:Sp->Bool
 | .nil=>true
 | .cons _ t=>t.isL
 | _=>false
def Sp.rep:Nat->Sp->Sp
 | 0,_=>.nil
 | n+1,s=>s.app (Sp.rep n s)
def Nb (P:Program) (f:TypeId->Option Sp):List Field->Nat->Option Sp
 | [],_=>some .nil
 | fd::r,off=>match f fd.type with
  | some s=>bif Nat.beq fd.offset off && Nat.beq s.len (P.cellsOf fd.type) && s.isL then match Nb P f r (off+s.len) with
   | some s'=>some (s.app s')
   | none=>none
   else none
  | none=>none
def Ah (P:Program):Nat->TypeId->Option Sp
 | 0,_=>none
 | n+1,t=>match P.underlying t with
  | some (.int k)=>some (.cons (.int k) .nil)
  | some .bool=>some (.cons .bool .nil)
  | some .string=>some (.cons .str .nil)
  | some (.slice e)=>match Ah P n e with
   | some s=>bif Nat.beq s.len (P.cellsOf e) && Nat.blt 0 s.len && s.isL && Nat.blt 0 (P.bytesOf e) then some (.cons (.slice s.len s) .nil) else none
   | none=>none
  | some (.struct fs)=>match Nb P (Ah P n) fs.toList 0 with
   | some s=>bif Nat.beq s.len (P.cellsOf t) then some s else none
   | none=>none
  | some (.array m e)=>match Ah P n e with
   | some s=>bif Nat.beq s.len (P.cellsOf e) && s.isL && Nat.beq (m * s.len) (P.cellsOf t) then some (Sp.rep m s) else none
   | none=>none
  | _=>none
def Sh:Sp->SV->Prop
 | .nil,l=>l=.nil
 | .cons h t,l=>∃ a b,l=.cons a b/\Sh h a/\Sh t b
 | .int k,a=>∃ m,a=.int k m/\(Lit.int k m).wf=true
 | .bool,a=>∃ b,a=.bool b
 | .str,a=>∃ s,a=.str s/\s.length<=reachBytes
 | .slice sz e,a=>∃ n enc,a=.slice sz n enc/\n<=reachBytes/\∀ i,i < n->Sh e (enc i)
theorem Sp.yB:∀ {s t:Sp},s.isL=true->(s.app t).len=s.len+t.len:=by
 intro s
 induction s with
 | cons h t _ ih=>intro u hu; simp only [Sp.app,Sp.len,ih hu]; omega
 | nil=>intro u _; simp [Sp.app,Sp.len]
 | _=>intro u hu; simp [Sp.isL] at hu
theorem Sp.Gg:∀ {s t:Sp},s.isL=true->t.isL=true->(s.app t).isL=true:=by
 intro s
 induction s with
 | cons h t _ ih=>intro u h1 h2; simp only [Sp.app,Sp.isL]; exact ih h1 h2
 | nil=>intro u _ h2; exact h2
 | _=>intro u hu; simp [Sp.isL] at hu
theorem Sh.isL:∀ {s:Sp} {l:SV},s.isL=true->Sh s l->Eng.isL l=true:=by
 intro s
 induction s with
 | cons h t _ ih =>
  intro l hl hs
  obtain ⟨a,b,rfl,_,h2⟩:=hs
  simp only [Eng.isL]
  exact ih hl h2
 | nil=>intro l _ hs; simp only [Sh] at hs; subst hs; rfl
 | _=>intro l hu; simp [Sp.isL] at hu
theorem Sh.app:∀ {s t:Sp} {l m:SV},s.isL=true->Sh s l->Sh t m->Sh (s.app t) (pC l m):=by
 intro s
 induction s with
 | cons h t _ ih =>
  intro u l m hl hs ht
  obtain ⟨a,b,rfl,h1,h2⟩:=hs
  simp only [Sp.app,pC]
  exact ⟨a,_,rfl,h1,ih hl h2 ht⟩
 | nil=>intro u l m _ hs ht; simp only [Sh] at hs; subst hs; exact ht
 | _=>intro u l m hu; simp [Sp.isL] at hu
def Light {H:Type} (P:Program) (t:TypeId) (d:DataW H):Prop:=∀ m∈d.weights P t,m<=reachBytes
theorem mM {H:Type} {P:Program} {e:TypeId}:∀ {ds:List (DataW H)} {j:Nat} {d:DataW H},ds[j]?=some d->∀ n∈d.weights P e,n∈DataW.weightsAll P e ds:=by
 intro ds
 induction ds with
 | nil=>intro j d h; simp at h
 | cons a r ih =>
  intro j d h n hn
  simp only [DataW.weightsAll,List.mem_append]
  cases j with
  | zero=>simp at h; subst h; exact .inl hn
  | succ j=>exact .inr (ih (by simpa using h) n hn)
def Wall (w:World) (b:Nat):Prop:=b < w.heap.size/\Plain w b
theorem wK (a:Addr) (k:Nat):(a.add k).block=a.block:=by
 unfold Addr.add
 split <;> rfl
theorem mapM_some {α β:Type} {f:α->Option β}:∀ {l:List α} {r:List β},l.mapM f=some r->r.length=l.length/\∀ (j:Nat) (x:α),l[j]?=some x->f x=r[j]?:=by
 intro l
 induction l with
 | nil=>intro r h; simp at h; subst h; exact ⟨rfl,fun j x e=>by simp at e⟩
 | cons a t ih =>
  intro r h
  rw [List.mapM_cons] at h
  simp only [Option.bind_eq_bind,Option.bind_eq_some_iff] at h
  obtain ⟨b,h1,s,h2,h3⟩:=h
  cases h3
  obtain ⟨i1,i2⟩:=ih h2
  refine ⟨by simp [i1],fun j x e=>?_⟩
  cases j with
  | zero=>simp at e; subst e; simpa using h1
  | succ j=>simpa using i2 j x (by simpa using e)
section
variable {H:Type} {enc:TypeId×Value->H} {P:Program} {W:World} {base:Nat} {sp:Nat->Bool} {held:Bool}
theorem Jf {n:Nat} {f:TypeId->Option Sp} {cs:List Value} (hf:∀ (fd:Field) (s:Sp),f fd.type=some s->s.len=P.cellsOf fd.type->s.isL=true->(∃ x,DataW.trod enc P W base sp held n fd.type ((cs.drop fd.offset).take (P.cellsOf fd.type))=some x/\Light P fd.type x.1) ->
   ∃ l,Sh s l/\R (eN (Wall W) W) l ((cs.drop fd.offset).take (P.cellsOf fd.type))) :
  ∀ (fs:List Field) (off:Nat) (s:Sp),Nb P f fs off=some s->(∀ fd∈fs,∃ x,DataW.trod enc P W base sp held n fd.type ((cs.drop fd.offset).take (P.cellsOf fd.type))=some x/\Light P fd.type x.1)->off+s.len<=cs.length ->
   s.isL=true/\∃ l,Sh s l/\R (eN (Wall W) W) l ((cs.drop off).take s.len):=by
 intro fs
 induction fs with
 | nil =>
  intro off s h _ _
  simp only [Nb,Option.some.injEq] at h
  subst h
  exact ⟨rfl,.nil,rfl,by simp [R,Sp.len]⟩
 | cons fd r ih =>
  intro off s h hx hl
  simp only [Nb] at h
  split at h
  ·rename_i s1 hs1
   cases hb:(Nat.beq fd.offset off && Nat.beq s1.len (P.cellsOf fd.type) && s1.isL) with
   | false=>simp [hb] at h
   | true =>
    simp only [hb,cond_true] at h
    simp only [Bool.and_eq_true] at hb
    obtain ⟨⟨h1,h2⟩,h3⟩:=hb
    have e1:=nbeq h1
    have e2:=nbeq h2
    split at h
    ·rename_i s2 hs2
     cases h
     rw [Sp.yB h3] at hl
     obtain ⟨l1,a1,a2⟩:=hf fd s1 hs1 e2 h3 (hx fd (List.mem_cons_self ..))
     obtain ⟨i0,l2,i1,i2⟩:=ih (off+s1.len) s2 hs2 (fun g hg=>hx g (List.mem_cons_of_mem _ hg)) (by omega)
     refine ⟨Sp.Gg h3 i0,pC l1 l2,a1.app h3 i1,?_⟩
     rw [e1,<- e2] at a2
     have:=uA (a1.isL h3) a2 i2
     rw [Sp.yB h3]
     have e3:(cs.drop off).take (s1.len+s2.len)=(cs.drop off).take s1.len++(cs.drop (off+s1.len)).take s2.len:=by
      rw [List.take_add,List.drop_drop]
     rw [e3]
     exact this
    ·cases h
  ·cases h
theorem Ua {s:Sp} (hs:s.isL=true) {cs:List Value}:∀ (m k:Nat),(∀ i,i < m->∃ l,Sh s l/\R (eN (Wall W) W) l ((cs.drop ((k+i) * s.len)).take s.len)) ->
  (Sp.rep m s).isL=true/\(Sp.rep m s).len=m * s.len/\∃ l,Sh (Sp.rep m s) l/\R (eN (Wall W) W) l ((cs.drop (k * s.len)).take (m * s.len)):=by
 intro m
 induction m with
 | zero=>intro k _; exact ⟨rfl,by simp [Sp.rep,Sp.len],.nil,rfl,by simp [R]⟩
 | succ m ih =>
  intro k h
  obtain ⟨i0,i1,l2,i2,i3⟩:=ih (k+1) fun i hi=>by
   have:=h (i+1) (by omega)
   rwa [show k+(i+1)=k+1+i by omega] at this
  obtain ⟨l1,a1,a2⟩:=h 0 (by omega)
  simp only [Nat.add_zero] at a2
  refine ⟨Sp.Gg hs i0,by simp only [Sp.rep]; rw [Sp.yB hs,i1,Nat.add_mul]; omega,pC l1 l2,a1.app hs i2,?_⟩
  have:=uA (a1.isL hs) a2 i3
  have e3:(cs.drop (k * s.len)).take ((m+1) * s.len)=(cs.drop (k * s.len)).take s.len++(cs.drop ((k+1) * s.len)).take (m * s.len):=by
   rw [show (m+1) * s.len=s.len+m * s.len by rw [Nat.add_mul]; omega,List.take_add,List.drop_drop]
   congr 3
   rw [Nat.add_mul]
   omega
  rw [e3]
  exact this
theorem Qg:∀ (fuel n:Nat) (t:TypeId) (cs:List Value) (x:DataW H×List MemPlace) (s:Sp),Ah P fuel t=some s->DataW.trod enc P W base sp held n t cs=some x->Light P t x.1 ->
  s.isL=true/\s.len=cs.length/\∃ l,Sh s l/\R (eN (Wall W) W) l cs:=by
 intro fuel
 induction fuel with
 | zero=>intro n t cs x s h; cases h
 | succ fuel ih =>
  intro n t cs x s h hd hw0
  simp only [Ah] at h
  split at h
  ·rename_i k ht
   cases h
   obtain ⟨m,rfl,_,hw⟩:=DataW.trod_int ht hd
   exact ⟨rfl,rfl,.cons (.int k m) .nil,⟨_,_,rfl,⟨m,rfl,hw⟩,rfl⟩,by simp [R]⟩
  ·rename_i ht
   cases h
   obtain ⟨b,rfl,_⟩:=DataW.trod_bool ht hd
   exact ⟨rfl,rfl,.cons (.bool b) .nil,⟨_,_,rfl,⟨b,rfl⟩,rfl⟩,by simp [R]⟩
  ·rename_i ht
   cases h
   obtain ⟨b,rfl,rfl,_⟩:=DataW.trod_string ht hd
   have hl:b.data.toList.length<=reachBytes:=hw0 _ (by simp [DataW.weights])
   refine ⟨rfl,rfl,.cons (.str b.data.toList) .nil,⟨_,_,rfl,⟨_,rfl,hl⟩,rfl⟩,?_⟩
   simp only [R]
   exact ⟨_,_,rfl,by simp,rfl⟩
  ·rename_i e ht
   split at h
   ·rename_i s1 hs1
    cases hb:(Nat.beq s1.len (P.cellsOf e) && Nat.blt 0 s1.len && s1.isL && Nat.blt 0 (P.bytesOf e)) with
    | false=>simp [hb] at h
    | true =>
     simp only [hb,cond_true,Option.some.injEq] at h
     subst h
     simp only [Bool.and_eq_true] at hb
     obtain ⟨⟨⟨h1,h2⟩,h3⟩,h4⟩:=hb
     have e1:=nbeq h1
     have h2':0 < s1.len:=fE h2
     have h4':0 < P.bytesOf e:=fE h4
     rcases DataW.trod_slice ht hd with ⟨rfl,_⟩|⟨a,len,cap,elems,rest,m,_,rfl,rfl,hba,hlc,hcm,hel,hget,_⟩
     ·refine ⟨rfl,rfl,.cons (.slice s1.len 0 fun _=>.junk) .nil,⟨_,_,rfl,⟨0,_,rfl,Nat.zero_le _,fun i hi=>absurd hi (Nat.not_lt_zero i)⟩,rfl⟩,?_⟩
      simp only [R]
      exact ⟨_,_,rfl,⟨none,0,rfl,Nat.le_refl _,fun i hi=>absurd hi (Nat.not_lt_zero i)⟩,rfl⟩
     ·have hsz:len<=reachBytes:=by
       have h5:=hw0 ((elems.length+rest.length) * P.bytesOf e) (by simp [DataW.weights,ht])
       have h6:len * 1<=(elems.length+rest.length) * P.bytesOf e:=Nat.mul_le_mul (by omega) h4'
       omega
      -- where they lie
      have head:0 < len->∃ b off c T fr,a=⟨b,off,none⟩/\W.heap[b]?=some (.cells c T fr):=by
       intro hi
       have hg:=hget 0 hi
       rw [List.getElem?_eq_getElem (by omega)] at hg
       simp only [Option.bind_eq_some_iff] at hg
       obtain ⟨cs1,hc,hd1⟩:=hg
       unfold World.cells? at hc
       rw [if_pos (by rw [wK]; exact hba)] at hc
       obtain ⟨c1,c2⟩:=mapM_some hc
       rw [List.length_range] at c1
       have h0:=c2 0 0 (by rw [List.getElem?_range (by omega)])
       rw [List.getElem?_eq_getElem (by omega),Nat.zero_mul] at h0
       have e0:(a.add 0).add 0=a:=by simp [Addr.add]
       rw [e0] at h0
       obtain ⟨b,off,spot⟩:=a
       unfold World.cell? at h0
       simp only at h0
       split at h0
       ·rename_i c T fr hh
        cases spot with
        | none=>exact ⟨b,off,c,T,fr,rfl,hh⟩
        | some q=>simp at h0
       ·cases h0
      -- every element is like its type says
      have elem:∀ i,i < len->∃ l,Sh s1 l/\kR (eN (Wall W) W) (some a) s1.len i (R (eN (Wall W) W) l):=by
       intro i hi
       have hg:=hget i hi
       rw [List.getElem?_eq_getElem (by omega)] at hg
       simp only [Option.bind_eq_some_iff] at hg
       obtain ⟨cs1,hc,hd1⟩:=hg
       obtain ⟨_,hlen,l,g1,g2⟩:=ih m e cs1 _ s1 hs1 hd1 (fun q hq=>hw0 q (by
        simp only [DataW.weights,ht,List.mem_cons,List.mem_append]
        exact .inr (.inl (mM (j:=i) (by rw [List.getElem?_map,List.getElem?_eq_getElem (by omega)]; rfl) q hq))))
       unfold World.cells? at hc
       rw [if_pos (by rw [wK]; exact hba)] at hc
       obtain ⟨c1,c2⟩:=mapM_some hc
       rw [List.length_range] at c1
       have cell:∀ j,j < cs1.length->W.cell? ((a.add (i * P.cellsOf e)).add j)=cs1[j]?:=by
        intro j hj
        exact c2 j j (by rw [List.getElem?_range (by omega)])
       obtain ⟨b,off,c,T,fr,rfl,hh⟩:=head (by omega)
       refine ⟨l,g1,b,off,cs1,rfl,⟨(Array.getElem?_eq_some_iff.1 hh).1,fun ds e2=>by rw [hh] at e2; cases e2; rfl⟩,g2,by omega,?_⟩
       intro j v hv
       have hj:j < cs1.length:=(List.getElem?_eq_some_iff.1 hv).1
       rw [<- hv,<- cell j hj]
       rw [Addr.gK,Addr.gK,e1]
      refine ⟨rfl,rfl,.cons (.slice s1.len len fun i=>if hi:i < len then (elem i hi).choose else .junk) .nil,⟨_,_,rfl,⟨len,_,rfl,hsz,fun i hi=>?_⟩,rfl⟩,?_⟩
      ·simp only [hi,dif_pos]
       exact (elem i hi).choose_spec.1
      ·simp only [R]
       refine ⟨_,_,rfl,⟨some a,cap,rfl,hlc,fun i hi=>?_⟩,rfl⟩
       simp only [hi,dif_pos]
       exact (elem i hi).choose_spec.2
   ·cases h
  ·rename_i fs ht
   split at h
   ·rename_i s1 hs1
    cases hb:Nat.beq s1.len (P.cellsOf t) with
    | false=>simp [hb] at h
    | true =>
     simp only [hb,cond_true,Option.some.injEq] at h
     subst h
     obtain ⟨xs,m,_,rfl,hl,hxl,hx⟩:=DataW.trod_struct ht hd
     have e1:=nbeq hb
     obtain ⟨g0,l,g1,g2⟩:=Jf (enc:=enc) (P:=P) (W:=W) (base:=base) (sp:=sp) (held:=held) (n:=m) (f:=Ah P fuel) (cs:=cs) (fun fd s h1 h2 _ hy0=>by
       obtain ⟨y,hy,hyw⟩:=hy0
       obtain ⟨_,_,l,k1,k2⟩:=ih m fd.type _ y s h1 hy hyw
       exact ⟨l,k1,k2⟩) fs.toList 0 s1 hs1 (fun fd hfd=>by
       obtain ⟨i,hi⟩:=List.getElem?_of_mem hfd
       have hi':fs[i]?=some fd:=by simpa using hi
       have hlt:i < xs.length:=by rw [hxl]; exact (Array.getElem?_eq_some_iff.1 hi').1
       refine ⟨xs[i],by rw [hx i fd hi',List.getElem?_eq_getElem hlt],fun q hq=>hw0 q ?_⟩
       simp only [DataW.weights,ht]
       exact DataW.weights_mem_each (j:=i) (t:=fd.type) (by rw [List.getElem?_map,hi]; rfl) (by rw [List.getElem?_map,List.getElem?_eq_getElem hlt]; rfl) q hq) (by omega)
     refine ⟨g0,by omega,l,g1,?_⟩
     rwa [List.drop_zero,List.take_of_length_le (by omega)] at g2
   ·cases h
  ·rename_i m e ht
   split at h
   ·rename_i s1 hs1
    cases hb:(Nat.beq s1.len (P.cellsOf e) && s1.isL && Nat.beq (m * s1.len) (P.cellsOf t)) with
    | false=>simp [hb] at h
    | true =>
     simp only [hb,cond_true,Option.some.injEq] at h
     subst h
     simp only [Bool.and_eq_true] at hb
     obtain ⟨⟨h1,h2⟩,h3⟩:=hb
     have e1:=nbeq h1
     have e3:=nbeq h3
     obtain ⟨xs,q,_,rfl,hl,hxl,hx⟩:=DataW.trod_array ht hd
     obtain ⟨g0,g1,l,g2,g3⟩:=Ua (W:=W) h2 (cs:=cs) m 0 (fun i hi=>by
      have hg:=hx i hi
      rw [List.getElem?_eq_getElem (by omega)] at hg
      obtain ⟨_,_,l,k1,k2⟩:=ih q e _ _ s1 hs1 hg (fun u hu=>hw0 u (by
       simp only [DataW.weights,ht]
       exact mM (j:=i) (by rw [List.getElem?_map,List.getElem?_eq_getElem (by omega)]; rfl) u hu))
      rw [Nat.zero_add,e1]
      exact ⟨l,k1,k2⟩)
     refine ⟨g0,by omega,l,g2,?_⟩
     rw [Nat.zero_mul,List.drop_zero,List.take_of_length_le (by omega)] at g3
     exact g3
   ·cases h
  ·cases h
theorem Oe {r:Reach} {b0:Nat} {fuel:Nat} {s:Sp} {t:TypeId} {v:Value} {d:DataW H} {ps:List MemPlace} (hs:Ah P (fuel+1) t=some (.cons s .nil)) (hne:(∀ fs,P.underlying t≠some (.struct fs))/\∀ m e,P.underlying t≠some (.array m e))
  (hval:Value.okWide P W r b0 t v) (hd:DataW.Trod enc P W base sp held t v d ps) (hw:Light P t d):∃ a,Sh s a/\R (eN (Wall W) W) a [v]:=by
 obtain ⟨n,hn⟩:=hd
 obtain ⟨_,_,l,h1,h2⟩:=Qg (fuel+1) n t _ _ _ hs hn hw
 have hc:v.cells.toList=[v]:=by
  simp only [Ah] at hs
  split at hs
  ·rename_i ht; obtain ⟨m,rfl⟩:=okWide_int ht hval; rfl
  ·rename_i ht; obtain ⟨m,rfl⟩:=okWide_bool ht hval; rfl
  ·rename_i ht; obtain ⟨m,rfl⟩:=okWide_string ht hval; rfl
  ·rename_i ht; obtain ⟨_,_,_,rfl⟩:=okWide_slice ht hval; rfl
  ·rename_i fs ht; exact absurd ht (hne.1 fs)
  ·rename_i m e ht; exact absurd ht (hne.2 m e)
  ·cases hs
 rw [hc] at h2
 obtain ⟨a,b,rfl,k1,k2⟩:=h1
 simp only [R] at h2
 obtain ⟨x,xs,e,k3,_⟩:=h2
 cases e
 exact ⟨a,k1,k3⟩
end
section
variable {H:Type} {enc:TypeId×Value->H} {P:Program} {W W':World}
theorem wG (hl:laidOutB P=true) {sp':Nat->Bool}:∀ (ts:List TypeId) (vs:List Value) (ds:List (DataW H)) (ps:List MemPlace),(∀ t∈ts,P.readableRec t=true/\t < P.types.size)->DataW.TrodAll enc P W 0 (fun _=>true) true ts vs ds ps ->
  (∀ p∈ps,W.sameAt W' p)->(∀ p∈ps,sp' p.block=true)->DataW.TrodAll enc P W' 0 sp' true ts vs ds ps:=by
 intro ts
 induction ts with
 | nil =>
  intro vs ds ps _ h _ _
  cases vs <;> cases ds <;> first|exact h|exact h.elim
 | cons t ts ih =>
  intro vs ds ps ht h h1 h2
  cases vs with
  | nil=>exact h.elim
  | cons v vs =>
   cases ds with
   | nil=>exact h.elim
   | cons d ds =>
    obtain ⟨p,q,a,b,rfl⟩:=h
    obtain ⟨r1,r2⟩:=ht t (List.mem_cons_self ..)
    exact ⟨p,q,WideElems.Trod_stays hl r1 r2 a (fun x hx=>h1 x (List.mem_append_left _ hx)) (fun x hx=>h2 x (List.mem_append_left _ hx)),
     ih vs ds q (fun u hu=>ht u (List.mem_cons_of_mem _ hu)) b (fun x hx=>h1 x (List.mem_append_right _ hx)) (fun x hx=>h2 x (List.mem_append_right _ hx)),rfl⟩
theorem Fi {f:Func} {s:ChangeSpec} {apart fresh handsOn again:Bool} {args:Array Value} {v:Value} {ds gs:List (DataW H)} {before pa pv:List MemPlace}
  (hW:DataW.Whole enc P f.params.toList s.vars apart W args.toList ds gs before)
  (hres:∀ (b:Nat) (sp:Nat->Bool) (hd:Bool),DataW.TrodAll enc P W' b sp hd f.resultTypes.toList (v.resultList f.resultTypes.size) (s.fn H (ds++gs)).results [])
  (hargs:∀ sp:Nat->Bool,(∀ p∈before,sp p.block=true)->DataW.TrodAll enc P W' 0 sp true f.params.toList args.toList (s.fn H (ds++gs)).args pa)
  (hvars:∀ sp:Nat->Bool,(∀ p∈before,sp p.block=true)->DataW.TrodVars enc P W' sp s.vars (s.fn H (ds++gs)).vars pv)
  (hps:before=pa++pv) (hb:RowKit.Below W.heap.size W W')
  (hok:∀ (j:Nat) (t:TypeId) (r:Value),f.resultTypes[j]?=some t->(v.resultList f.resultTypes.size)[j]?=some r->Value.okWide P W' .any 0 t r) :
  s.post enc P f apart fresh handsOn again W args v W':=by
 have hlt:∀ p∈before,p.block < W.heap.size:=fun p hp=>hW.lt p hp
 have hold:∀ p∈before,(fun b=>decide (b < W.heap.size)) p.block=true:=fun p hp=>by simpa using hlt p hp
 refine ⟨ds,gs,before,[],pa,pv,hW,hres _ _ _,hargs _ hold,hvars _ hold,World.keptBut_mono (fun p hp=>⟨hp,?_⟩) (hb.frame (·∈before)),fun _=>?_⟩
 ·rw [hps,List.mem_append] at hp
  exact Or.inr hp
 ·obtain ⟨_,_,_,_,_,hz,hn⟩:=hW
  refine ⟨hok,_,_,([]++pa)++pv,⟨[]++pa,pv,trodAll_append (hargs _ (fun _ _=>rfl)) (hres _ _ _),hvars _ (fun _ _=>rfl),rfl,?_,?_⟩,?_⟩
  ·intro b off hp
   have hin:MemPlace.cell b off∈before:=by rw [hps]; simpa using hp
   rw [hb.frozen (hlt _ hin)]
   exact hz b off hin
  ·intro ha
   have:=hn ha
   rw [hps] at this
   simpa using this
  ·intro p hp _
   rw [hps]
   simpa using hp
theorem Cz:∀ {ts:List TypeId} {vs:List Value} {ds:List (DataW H)} {ps:List MemPlace} {b:Nat} {sp:Nat->Bool} {hd:Bool},DataW.TrodAll enc P W b sp hd ts vs ds ps->ds.length=ts.length:=by
 intro ts
 induction ts with
 | nil =>
  intro vs ds ps b sp hd h
  cases vs <;> cases ds <;> first|rfl|exact h.elim
 | cons t ts ih =>
  intro vs ds ps b sp hd h
  cases vs with
  | nil=>exact h.elim
  | cons v vs =>
   cases ds with
   | nil=>exact h.elim
   | cons d ds =>
    obtain ⟨p,q,_,b,_⟩:=h
    simp [ih b]
end
end Go.Eng
end
section
namespace Go.Eng
open Go Go.RowKit Go.ChangeShapes Go.WideShapes Go.ChangeAt
theorem qL {H:Type} {enc:TypeId×Value->H} {a:Assume} {C:Checked} {os:Os} {f:FuncId} {fn:Func} {s:ChangeSpec} {conds:List PathCond} {apart fresh handsOn again:Bool} {X:World->Array Value->Prop}
  (hX:∀ (w w':World) (args:Array Value),w.heap=w'.heap->X w args->X w' args)
  (own:ownKnob C.prog.godebug=none) (started:os.Started) (noInit:C.prog.inits.idxOf? f=none) (hfn:C.prog.funcs[f]?=some fn)
  (witness:∃ (w:World) (tape:Tape) (i:Input),w.os=os/\(w.forCall tape i).Shaped C.prog/\i.vars=[]/\Input.okWide C.prog (w.forCall tape i) .any w.heap.size f i /\
   ((s.pre enc C.prog fn conds apart (w.forCall tape i).memory i.args/\X (w.forCall tape i).memory i.args)/\sizedMet enc C.prog fn (OpenSpec.ofChange s) apart (w.forCall tape i).memory i.args)/\a.holds C.prog (lone (Frame.enter C.prog f i.args .normal) [] (w.forCall tape i)))
  (contract:∀ (W:World) (base:Nat) (args:Array Value) (ds gs:List (DataW H)) (before:List MemPlace),
   (∀ (j:Nat) t v,fn.params[j]?=some t->args[j]?=some v->Value.okWide C.prog W .any base t v) ->
   DataW.Whole enc C.prog fn.params.toList s.vars apart W args.toList ds gs before ->
   conds.all (PathCond.test C.prog ⟨fn.params.toList,ds,s.plain.varTypes C.prog,gs⟩)=true ->
   (DataW.weightsEach C.prog (fn.params.toList++s.plain.varTypes C.prog) (ds++gs)).all (·<=reachBytes)=true ->
   W.ShapedOpen C.prog->X W args ->
   a.holds C.prog (lone (Frame.enter C.prog f args .normal) [] W) ->
   Calls C.prog f args W fun e W'=>∃ v,e=.returned v/\s.post enc C.prog fn apart fresh handsOn again W args v W') :
  ReturnsInHanded a C os f .any (fun w args=>(s.pre enc C.prog fn conds apart w args/\X w args)/\sizedMet enc C.prog fn (OpenSpec.ofChange s) apart w args) (s.post enc C.prog fn apart fresh handsOn again):=by
 refine returnsInHanded_of_calls own started noInit witness ?_
 intro w tape i _ hsh _ hok hpre hholds
 obtain ⟨_,_,_,fn',hfn',_,_,_,_,hval⟩:=hok
 have e:fn'=fn:=Option.some.inj (hfn'.symm.trans hfn)
 subst e
 obtain ⟨⟨⟨ds,gs,before,hw,hc⟩,hx⟩,hz⟩:=hpre
 have hw':=DataW.Whole.of_heap (w':=w.forCall tape i) (by rfl) hw
 refine (contract (w.forCall tape i) w.heap.size i.args ds gs before hval hw' hc (hz.weights hw) hsh (hX _ _ _ (by rfl) hx) hholds).mono fun e W' ⟨v,he,hp⟩=>?_
 subst he
 exact ChangeSpec.post_blind hp
theorem tJ {C:Checked} {os:Os} {H:Type} {enc:TypeId×Value->H} {laid:List (String×DataW Unit)} (started:os.Started) {f:FuncId} {fn:Func} {s:ChangeSpec} {conds:List PathCond} {apart fresh handsOn again:Bool} {tb:TypeId}
  (own:ownKnob C.prog.godebug=none) (noInit:C.prog.inits.idxOf? f=none) (hfn:C.prog.funcs[f]?=some fn)
  (witness:∃ (w:World) (tape:Tape) (i:Input),w.os=os/\(w.forCall tape i).Shaped C.prog/\i.vars=[]/\Input.okWide C.prog (w.forCall tape i) .any w.heap.size f i /\
   ((s.pre enc C.prog fn conds apart (w.forCall tape i).memory i.args/\laidMetH C.prog laid (w.forCall tape i).memory)/\sizedMet enc C.prog fn (OpenSpec.ofChange s) apart (w.forCall tape i).memory i.args)/\({}:Assume).holds C.prog (lone (Frame.enter C.prog f i.args .normal) [] (w.forCall tape i)))
  (hl:laidOutB C.prog=true) (hread:∀ t∈fn.params.toList,C.prog.readableRec t=true/\t < C.prog.types.size) (hvars:s.vars=[]) (hrt:fn.resultTypes=#[tb]) (htb:C.prog.underlying tb=some .bool)
  (hspec:∀ ds:List (DataW H),ds.length=fn.params.size->s.fn H ds={ results:=[.lit (.bool true)],args:=ds })
  (hcall:∀ (W:World) (base:Nat) (args:Array Value) (ds:List (DataW H)) (p:List MemPlace),(∀ (j:Nat) t v,fn.params[j]?=some t->args[j]?=some v->Value.okWide C.prog W .any base t v) ->
   DataW.TrodAll enc C.prog W 0 (fun _=>true) true fn.params.toList args.toList ds p->(∀ (j:Nat) t d,fn.params.toList[j]?=some t->ds[j]?=some d->Light C.prog t d)->W.ShapedOpen C.prog->laidMetH C.prog laid W->Calls C.prog f args W fun e W'=>e=.returned (.bool true)/\Below W.heap.size W W') :
  ReturnsInHanded {} C os f .any (fun w args=>(s.pre enc C.prog fn conds apart w args/\laidMetH C.prog laid w)/\sizedMet enc C.prog fn (OpenSpec.ofChange s) apart w args) (s.post enc C.prog fn apart fresh handsOn again):=by
 refine qL (X:=fun w _=>laidMetH C.prog laid w) (fun _ _ _ hh h=>laidMetH.of_heap hh h) own started noInit hfn witness ?_
 intro W base args ds gs before hval hW _ hwt hsh hL _
 have hW':=hW
 obtain ⟨p,q,hA,hV,rfl,hfz,hnd⟩:=hW
 rw [hvars] at hV
 obtain ⟨rfl,rfl⟩:=trodVars_none hV
 have hlight:∀ (j:Nat) t d,fn.params.toList[j]?=some t->ds[j]?=some d->Light C.prog t d:=by
  intro j t d ht hd m hm
  have hl1:j < fn.params.toList.length:=(List.getElem?_eq_some_iff.1 ht).1
  have hl2:j < ds.length:=(List.getElem?_eq_some_iff.1 hd).1
  have:=List.all_eq_true.1 hwt m (DataW.weights_mem_each (j:=j) (by rw [List.getElem?_append_left hl1]; exact ht) (by rw [List.getElem?_append_left hl2]; exact hd) m hm)
  simpa using this
 refine (hcall W base args ds p hval hA hlight hsh hL).mono ?_
 rintro e W' ⟨rfl,hb⟩
 have hlen:=Cz hA
 have hs:=hspec (ds++[]) (by rw [List.append_nil,hlen]; simp)
 refine ⟨_,rfl,Fi (pa:=p) (pv:=[]) hW' ?_ ?_ ?_ rfl hb.row ?_⟩
 ·intro b sp hd
  rw [hs,hrt]
  exact trodAll_mk1 (shut_bool htb true)
 ·intro sp hsp
  rw [hs,List.append_nil]
  refine wG hl _ _ _ _ hread hA (fun x hx=>hb.row.same ?_) (fun x hx=>hsp x (by simpa using hx))
  have:=hW'.lt x (by simpa using hx)
  exact this
 ·intro sp _
  rw [hs,hvars]
  exact rfl
 ·exact ok_one hrt rfl (okWide_bool_mk htb _)
end Go.Eng
end
