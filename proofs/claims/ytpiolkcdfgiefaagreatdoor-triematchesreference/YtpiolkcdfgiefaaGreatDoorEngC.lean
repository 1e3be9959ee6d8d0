/- A part of the proof. -/
import Derived.TacticsIn
import Derived.OrdersIn
import Derived.Below
import Derived.Laws.Cells
import Derived.Laws.Slices
import Derived.Laws.Strings
import Derived.Laws.Append
import Derived.Laws.Rows
import Derived.Laws.Small
import Derived.Laws.Concat
import Derived.Laws.Tables
import Derived.Laws.Pointers
import Derived.Lib.Strings
import Derived.Lib.LaidTab
section
set_option linter.defProp false
def eP:=@List.mem_range
def aN:=@Nat.le_refl
def aV:=@Nat.le_trans
def bM:=@Nat.lt_of_lt_of_le
def aU:=@Array.getElem?_eq_some_iff
def bU:=@Array.getElem?_eq_getElem
def jH:=@Nat.le_succ
def bJ:=@Nat.not_lt
def fR:=@Ne.symm
def aE:=@Option.bind_eq_bind
def aD:=@Option.bind_eq_some_iff
def aF:=@Option.map_eq_some_iff
def aH:=@Option.some.injEq
def bK:=@List.map_cons
def iI:=@List.ext_getElem?
def kH:=@List.drop_zero
def bA:=@List.length_cons
def aQ:=@Nat.le_of_ble_eq_true
def bF:=@List.length_append
def cY:=@List.getElem?_drop
def kB:=@Nat.eq_zero_or_pos
def dF:=@Iff.rfl
def gV:=@Bool.false_or
def aI:=@Bool.and_eq_true
def bL:=@Bool.not_eq_true'
def gK:=@List.cons_append
def lE:=@Bool.and_true
def aC:=@List.singleton_inj
def bH:=@Bool.eq_iff_iff
def eG:=@Option.some.inj
def aP:=@Nat.zero_add
def eR:=@Bool.false_eq_true
def kW:=@List.getElem?_set
def eZ:=@List.length_nil
def fO:=@List.foldl_cons
def gB:=@List.append_assoc
def eD:=@List.map_append
def iR:=@List.ext_getElem
def dZ:=@List.cons.injEq
def eF:=@Option.map_none
def cU:=@Option.map_some
def aS:=@Nat.zero_le
def cM:=@Int.toNat_natCast
def cO:=@Nat.not_lt_zero
def iD:=@List.map_nil
def aR:=@List.mem_cons
def jE:=@List.getElem?_of_mem
def bZ:=@List.getElem?_eq_some_iff
def aM:=@List.getElem?_eq_getElem
def jF:=@List.mem_of_getElem?
def aW:=@List.mem_cons_of_mem
def aZ:=@List.mem_cons_self
def dR:=@Option.getD_some
def eE:=@List.nil_append
def jD:=@Bool.true_and
def dI:=@List.all_eq_true
def cD:=@List.mem_map
def bT:=@List.mem_append
def cH:=@List.getElem?_append_left
def dA:=@List.getElem?_append_right
def jG:=@Nat.add_mul
def bP:=@Nat.mul_le_mul_right
def jP:=@Array.length_toList
def kU:=@Array.size_append
def gE:=@List.size_toArray
def gM:=@List.length_drop
def bX:=@Prod.mk.injEq
def eB:=@List.getElem?_cons_zero
def dK:=@Array.getD_eq_getD_getElem?
def dP:=@Classical.byContradiction
def fN:=@Bool.or_eq_true
def gL:=@List.filter_cons
def dY:=@List.mem_append_left
def fQ:=@List.nodup_cons
def fP:=@List.mem_filter
def gP:=@Bool.or_eq_true_iff
def cZ:=@Bool.or_eq_false_iff
def gS:=@Array.all_eq_true_iff_forall_mem
def aA:=@And.intro
def aT:=@List.pairwise_cons
def aK:=@List.getD_eq_getElem?_getD
def aB:=@Exists.intro
def iJ:=@List.flatten_cons
def iQ:=@List.drop_length
def kA:=@List.find?_eq_none
def bG:=@List.getElem_of_mem
def eS:=@List.mem_singleton
def eN:=@List.length_take
def gY:=@Int.le_refl
def iP:=@List.any_eq_true
def gZ:=@UInt8.lt_irrefl
def gG:=@List.pairwise_append
def gC:=@List.getElem_drop
def gD:=@List.getElem_take
def kV:=@List.Pairwise.imp
def eM:=@List.getElem_mem
def eY:=@List.append_nil
def cN:=@Nat.le_of_eq
def iS:=@List.take_length
def fG:=@List.filter_cons_of_pos
def jY:=@Bool.not_eq_false'
def cS:=@List.length_map
def eC:=@List.getElem?_map
def eO:=@List.not_mem_nil
def jZ:=@List.filter_append
def iB:=@List.filter_eq_nil_iff
def iM:=@List.mem_append_right
def iT:=@Nat.mod_eq_of_lt
def kX:=@List.length_range
end
section
namespace Go.Eng
def DRN:Bool:=false
def RUN:Nat:=8
end Go.Eng
end
section
namespace Go.Eng
open Go Go.RowKit
inductive SV where
 |junk
 |val (v:Value)
 |int (k:IntKind) (n:Int)
 |bool (b:Bool)
 |str (s:List UInt8)
 |own (id off:Nat)
 |osl (id sz lo len:Nat)
 |lsl (id sz len:Nat)
 |oel (id sz i off:Nat)
 |mref (id:Nat)
 |fown (h i off:Nat)
 |fmref (h i:Nat)
 |flsl (h i sz len:Nat)
 |foel (h i sz k off:Nat)
 |csl (id n:Nat)
 |nilsl
 |slice (sz len:Nat) (enc:Nat->SV)
 |slit (sz:Nat) (els:SV)
 |cptr (cells:SV)
 |nil
 |cons (h t:SV)
 |ints (k:IntKind) (n:Nat) (f:Nat->Int) (t:SV)
 |agg (l:SV)
 |tup (l:SV)
 |fn (f:Nat) (l:SV)
 |yield (id:Nat)
 |gd (d:Nat) (want:Bool) (v:SV)
structure Env where
 μ:Nat->Option (Nat×Nat)
 U:Nat->Prop
 w:World
 H:Nat->Nat->Obj->Prop
def H0:Nat->Nat->Obj->Prop:=λ_ _ _=>False
def Jl:Obj->Bool
 |.deferred _=>true
 |.loop _=>true
 |_=>false
def Plain(w:World)(b:Nat):Prop:=∀o,w.heap[b]?=some o->Jl o=false
theorem gW{o:Obj}:Jl o=false↔(∀r,o≠.loop r)/\∀ds,o≠.deferred ds:=by
 cases o<;>simp[Jl]
def Ih(w:World)(b:Nat):Prop:=∀ds,w.heap[b]?≠some (Obj.deferred ds)
theorem Plain.d{w:World}{b:Nat}(h:Plain w b):Ih w b:=λds e=>by cases h _ e
abbrev iV(U:Nat->Prop)(w:World):Env:=⟨λ_=>none,U,w,H0⟩
def FB:Nat:=1048576
def fid(h i:Nat):Nat:=h+FB*(i+1)
def Holds(w:World)(b off:Nat)(cs:List Value):Prop:=∀j v,cs[j]?=some v->w.cell? ⟨b,off+j,none⟩=some v
def pM(E:Env)(a:Option Addr)(sz i:Nat)(Rx:List Value->Prop):Prop :=
 ∃b off cs,a=some ⟨b,off,none⟩/\E.U b/\Rx cs/\cs.length=sz/\Holds E.w b (off+i*sz) cs
def FM:Nat:=1048576
def fnV(f:Nat)(cs:Array Value):Value:=bif Nat.blt f FM then .func (.func f) #[] cs else .func (.func (f-FM)) cs #[]
theorem Wo(f:Nat)(cs:Array Value):(fnV f cs).oneCell'=true:=by
 unfold fnV;cases Nat.blt f FM<;>rfl
def SV.len:SV->Nat
 |.cons _ t=>t.len+1
 |.ints _ n _ t=>n+t.len
 |_=>0
def iN(k:IntKind)(n:Nat)(f:Nat->Int):List Value:=(List.range n).map λi=>.int k (f i)
theorem cG(k:IntKind)(n:Nat)(f:Nat->Int):(iN k n f).length=n:=by unfold iN; simp
theorem Gm{k:IntKind}{n:Nat}{f g:Nat->Int}(h:∀i,i<n->f i=g i):iN k n f=iN k n g:=by
 unfold iN;exact List.map_congr_left λi hi=>by rw[h i (eP.1 hi)]
theorem lD{k:IntKind}{n:Nat}{f:Nat->Int}{i:Nat}(h:i<n):(iN k n f)[i]?=some (.int k (f i)):=by unfold iN; simp[h]
mutual
def R(E:Env):SV->List Value->Prop
 |.junk,vs=>∃v,vs=[v]
 |.val v,vs=>vs=[v]
 |.int k n,vs=>vs=[.int k n]
 |.bool b,vs=>vs=[.bool b]
 |.str s,vs=>vs=[.string ⟨s.toArray⟩]
 |.own id off,vs=>∃b c,E.μ id=some (b,c)/\vs=[.pointer (some ⟨b,off,none⟩)]
 |.osl id sz lo n,vs=>(n=0/\∃a cap,vs=[.slice a 0 cap])\/(0<n/\∃b c,E.μ id=some (b,c)/\vs=[.slice (some ⟨b,lo*sz,none⟩) n (c-lo)]/\lo+n<=c)
 |.lsl id _ n,vs=>(n=0/\∃a,vs=[.slice a 0 0])\/(0<n/\∃b c,E.μ id=some (b,c)/\vs=[.slice (some ⟨b,0,none⟩) n c]/\n<=c)
 |.oel id sz i off,vs=>∃b c,E.μ id=some (b,c)/\vs=[.pointer (some ⟨b,i*sz+off,none⟩)]
 |.mref id,vs=>∃b c,E.μ id=some (b,c)/\vs=[.map (some b)]
 |.fown h i off,vs=>∃b c,E.μ (fid h i)=some (b,c)/\vs=[.pointer (some ⟨b,off,none⟩)]
 |.fmref h i,vs=>∃b c,E.μ (fid h i)=some (b,c)/\vs=[.map (some b)]
 |.flsl h i _ n,vs=>(n=0/\∃a,vs=[.slice a 0 0])\/(∃b c,E.μ (fid h i)=some (b,c)/\vs=[.slice (some ⟨b,0,none⟩) n c]/\n<=c)
 |.csl id n,vs=>∃b c,E.μ id=some (b,c)/\vs=[.slice (some ⟨b,0,none⟩) n n]
 |.foel h i sz k off,vs=>∃b c,E.μ (fid h i)=some (b,c)/\vs=[.pointer (some ⟨b,k*sz+off,none⟩)]
 |.nilsl,vs=>vs=[.slice none 0 0]
 |.slice sz n enc,vs=>∃a cap,vs=[.slice a n cap]/\n<=cap/\∀i,i<n->pM E a sz i (R E (enc i))
 |.slit sz els,vs=>∃a,vs=[.slice a els.len els.len]/\RE E els a sz 0
 |.cptr cells,vs=>∃b off cs,vs=[.pointer (some ⟨b,off,none⟩)]/\E.U b/\R E cells cs/\Holds E.w b off cs
 |.nil,vs=>vs=[]
 |.cons h t,vs=>∃x xs,vs=x::xs/\R E h [x]/\R E t xs
 |.ints k n f t,vs=>∃xs,vs=iN k n f++xs/\R E t xs
 |.agg l,vs=>∃cs,vs=[.agg cs.toArray]/\R E l cs
 |.tup l,vs=>∃cs,vs=[.tuple cs.toArray]/\R E l cs
 |.fn f l,vs=>∃cs,vs=[fnV f cs.toArray]/\R E l cs
 |.yield id,vs=>∃b c,E.μ id=some (b,c)/\vs=[.func (.yield b) #[] #[]]
 |.gd _ _ _,vs=>∃v,vs=[v]
def RE(E:Env):SV->Option Addr->Nat->Nat->Prop
 |.cons h t,a,sz,i=>pM E a sz i (R E h)/\RE E t a sz (i+1)
 |.ints ..,_,_,_=>False
 |_,_,_,_=>True
end
structure Env.LeU(E E':Env):Prop where
 U:∀b,E.U b->E'.U b
 heap:∀b,E.U b->E'.w.heap[b]?=E.w.heap[b]?
structure Kd(w w':World):Prop where
 size:w.heap.size<=w'.heap.size
 loop:∀(b:Nat) (r:Loop),w.heap[b]?=some (Obj.loop r)->∃r',w'.heap[b]?=some (Obj.loop r')
 dfr:∀(b:Nat) (ds:Option (List Deferred)),w.heap[b]?=some (Obj.deferred ds)->w'.heap[b]?=some (Obj.deferred ds)
 plain:∀b,b<w.heap.size->Plain w b->Plain w' b
theorem Kd.refl(w:World):Kd w w:=⟨aN _,λ_ r h=>⟨r,h⟩,λ_ _ h=>h,λ_ _ h=>h⟩
theorem Kd.trans{a b c:World}(h:Kd a b)(k:Kd b c):Kd a c :=
 ⟨aV h.size k.size,λi r e=>let ⟨r',e'⟩:=h.loop i r e; k.loop i r' e',λi ds e=>k.dfr i ds (h.dfr i ds e),
  λi hi hp=>k.plain i (bM hi h.size) (h.plain i hi hp)⟩
theorem Plain.same{w w':World}{b:Nat}(h:Plain w b)(e:w'.heap[b]?=w.heap[b]?):Plain w' b:=λo ho=>h o (e.symm.trans ho)
theorem Kd.qG{w w':World}(hs:w.heap.size<=w'.heap.size)(h:∀b,b<w.heap.size->w'.heap[b]?=w.heap[b]?\/(Plain w b/\Plain w' b)):Kd w w':=by
 have lt:∀{b:Nat} {o:Obj},w.heap[b]?=some o->b<w.heap.size:=λe=>(aU.1 e).1;refine⟨hs,λb r e=>?_,λb ds e=>?_,λb hb hp=>?_⟩
 .rcases h b (lt e)with h1|⟨h1,_⟩
  .exact ⟨r,h1.trans e⟩
  .have:=h1 _ e; cases this
 .rcases h b (lt e)with h1|⟨h1,_⟩
  .exact h1.trans e
  .have:=h1 _ e; cases this
 .rcases h b hb with h1|⟨_,h1⟩
  .exact hp.same h1
  .exact h1
theorem Kd.Kf{w w':World}(hs:w.heap.size<=w'.heap.size)(h:∀b,b<w.heap.size->w'.heap[b]?=w.heap[b]?\/((∃r,w.heap[b]?=some (Obj.loop r))/\∃r,w'.heap[b]?=some (Obj.loop r))\/(Plain w b/\Plain w' b)):Kd w w':=by
 have lt:∀{b:Nat} {o:Obj},w.heap[b]?=some o->b<w.heap.size:=λe=>(aU.1 e).1;refine⟨hs,λb r e=>?_,λb ds e=>?_,λb hb hp=>?_⟩
 .rcases h b (lt e)with h1|⟨_,h1⟩|⟨h1,_⟩
  .exact ⟨r,h1.trans e⟩
  .exact h1
  .have:=h1 _ e; cases this
 .rcases h b (lt e)with h1|⟨⟨r,h1⟩,_⟩|⟨h1,_⟩
  .exact h1.trans e
  .rw [e]at h1; cases h1
  .have:=h1 _ e; cases this
 .rcases h b hb with h1|⟨⟨r,h1⟩,_⟩|⟨_,h1⟩
  .exact hp.same h1
  .have:=hp _ h1; cases this
  .exact h1
theorem Kd.of_heap{w w':World}(hs:w.heap.size<=w'.heap.size)(h:∀(b:Nat) (o:Obj),w.heap[b]?=some o->w'.heap[b]?=some o):Kd w w' :=
 Kd.qG hs λb hb=>.inl ((h b _ (bU hb)).trans (bU hb).symm)
def DLe(w w':World):Prop:=DRN=true->w.drawn<=w'.drawn
theorem DLe.refl(w:World):DLe w w:=λ_=>aN _
theorem DLe.of_le{w w':World}(h:w.drawn<=w'.drawn):DLe w w':=λ_=>h
theorem DLe.trans{a b c:World}(h:DLe a b)(k:DLe b c):DLe a c:=λe=>aV (h e) (k e)
structure Below(B:Nat)(w w':World):Prop where
 os:w'.os=w.os
 tape:w'.tape=w.tape
 output:w'.output=w.output
 size:w.heap.size<=w'.heap.size
 block:∀k,k<B->w'.heap[k]?=w.heap[k]?
 drawn:DLe w w'
theorem Below.refl(B:Nat)(w:World):Below B w w:=⟨rfl,rfl,rfl,aN _,λ_ _=>rfl,DLe.refl _⟩
theorem Below.row{B:Nat}{w w':World}(h:Below B w w'):RowKit.Below B w w':=⟨h.os,h.tape,h.output,h.size,h.block⟩
theorem Below.sQ{B:Nat}{w w':World}(h:RowKit.Below B w w')(hd:DLe w w'):Below B w w':=⟨h.os,h.tape,h.output,h.size,h.block,hd⟩
theorem Below.trans{B:Nat}{a b c:World}(h:Below B a b)(k:Below B b c):Below B a c :=
 ⟨k.os.trans h.os,k.tape.trans h.tape,k.output.trans h.output,aV h.size k.size,λi hi=>(k.block i hi).trans (h.block i hi),h.drawn.trans k.drawn⟩
theorem Below.drew{B:Nat}{a w:World}(h:Below B a w):Below B a w.drew:=⟨h.os,h.tape,h.output,h.size,h.block,h.drawn.trans (DLe.of_le (jH _))⟩
theorem Below.heap_alloc(w:World)(o:Obj)(k:Nat)(h:k<w.heap.size):(w.alloc o).heap[k]?=w.heap[k]?:=RowKit.Below.heap_alloc w o k h
theorem Below.alloc{B:Nat}{a w:World}(h:Below B a w)(hB:B<=w.heap.size)(o:Obj):Below B a (w.alloc o):=.sQ (h.row.alloc hB o) h.drawn
theorem Kd.jR{w w':World}(h:Below w.heap.size w w'):Kd w w' :=
 Kd.of_heap h.size λb _o e=>(h.block b (aU.1 e).1).trans e
structure Env.LeR(E E':Env):Prop extends Env.LeU E E' where
 μ:∀id p,E.μ id=some p->E'.μ id=some p
structure Env.Le(E E':Env):Prop extends Env.LeR E E' where
 kd:Kd E.w E'.w
 H:∀l p o,E.H l p o->E'.H l p o
theorem Env.LeU.refl(E:Env):E.LeU E:=⟨λ_ h=>h,λ_ _=>rfl⟩
theorem Env.LeU.trans{A B C:Env}(h:A.LeU B)(k:B.LeU C):A.LeU C :=
 ⟨λb e=>k.U b (h.U b e),λb e=>(k.heap b (h.U b e)).trans (h.heap b e)⟩
theorem Env.Le.refl(E:Env):E.Le E:=⟨⟨Env.LeU.refl E,λ_ _ h=>h⟩,Kd.refl _,λ_ _ _ h=>h⟩
theorem Env.Le.trans{A B C:Env}(h:A.Le B)(k:B.Le C):A.Le C :=
 ⟨⟨h.toLeU.trans k.toLeU,λid p e=>k.μ id p (h.μ id p e)⟩,h.kd.trans k.kd,λl p o e=>k.H l p o (h.H l p o e)⟩
theorem Holds.mono{w w':World}{b off:Nat}{cs:List Value}(h:Holds w b off cs)(hb:w'.heap[b]?=w.heap[b]?):Holds w' b off cs:=by
 intro j v hj;rw[<- h j v hj];exact World.cell?_of_block (w:=w) (w':=w') (a:=⟨b,off+j,none⟩) hb
theorem pM.mono{E E':Env}(hE:E.LeU E'){a:Option Addr}{sz i:Nat}{p q:List Value->Prop}(hp:∀cs,p cs->q cs)(h:pM E a sz i p):pM E' a sz i q:=by
 obtain⟨b,off,cs,e,u,r,l,hh⟩:=h;exact⟨b,off,cs,e,hE.U b u,hp cs r,l,hh.mono (hE.heap b u)⟩
theorem Ij{E E':Env}(hE:E.LeR E')(s:SV):(∀vs,R E s vs->R E' s vs)/\(∀a sz i,RE E s a sz i->RE E' s a sz i):=by
 induction s with
 |own id off=>refine⟨?_,λ_ _ _ h=>by simp[RE]⟩; rintro vs ⟨b,c,h1,h2⟩; exact⟨b,c,hE.μ _ _ h1,h2⟩
 |osl id sz lo n=>refine⟨?_,λ_ _ _ h=>by simp[RE]⟩; rintro vs (h|⟨h0,b,c,h1,h2⟩); exact .inl h; exact .inr ⟨h0,b,c,hE.μ _ _ h1,h2⟩
 |lsl id sz n=>refine⟨?_,λ_ _ _ h=>by simp[RE]⟩; rintro vs (h|⟨h0,b,c,h1,h2⟩); exact .inl h; exact .inr ⟨h0,b,c,hE.μ _ _ h1,h2⟩
 |oel id sz i off=>refine⟨?_,λ_ _ _ h=>by simp[RE]⟩; rintro vs ⟨b,c,h1,h2⟩; exact⟨b,c,hE.μ _ _ h1,h2⟩
 |mref id=>refine⟨?_,λ_ _ _ h=>by simp[RE]⟩; rintro vs ⟨b,c,h1,h2⟩; exact⟨b,c,hE.μ _ _ h1,h2⟩
 |fown h i off=>refine⟨?_,λ_ _ _ h=>by simp[RE]⟩; rintro vs ⟨b,c,h1,h2⟩; exact⟨b,c,hE.μ _ _ h1,h2⟩
 |fmref h i=>refine⟨?_,λ_ _ _ h=>by simp[RE]⟩; rintro vs ⟨b,c,h1,h2⟩; exact⟨b,c,hE.μ _ _ h1,h2⟩
 |flsl h i sz n=>refine⟨?_,λ_ _ _ h=>by simp[RE]⟩; rintro vs (h|⟨b,c,h1,h2⟩); exact .inl h; exact .inr ⟨b,c,hE.μ _ _ h1,h2⟩
 |csl id n=>refine⟨?_,λ_ _ _ h=>by simp[RE]⟩; rintro vs ⟨b,c,h1,h2⟩; exact⟨b,c,hE.μ _ _ h1,h2⟩
 |foel h i sz k off=>refine⟨?_,λ_ _ _ h=>by simp[RE]⟩; rintro vs ⟨b,c,h1,h2⟩; exact⟨b,c,hE.μ _ _ h1,h2⟩
 |yield id=>refine⟨?_,λ_ _ _ h=>by simp[RE]⟩; rintro vs ⟨b,c,h1,h2⟩; exact⟨b,c,hE.μ _ _ h1,h2⟩
 |slice sz n enc ih =>
  refine⟨?_,λ_ _ _ h=>by simp[RE]⟩;intro vs h;simp only[R]at h ⊢;obtain⟨a,cap,h1,h2,h3⟩:=h;exact⟨a,cap,h1,h2,λi hi=>(h3 i hi).mono hE.toLeU (ih i).1⟩
 |slit sz els ih =>
  refine⟨?_,λ_ _ _ h=>by simp[RE]⟩;intro vs h;simp only[R]at h ⊢;obtain⟨a,h1,h2⟩:=h;exact⟨a,h1,ih.2 _ _ _ h2⟩
 |cptr cells ih =>
  refine⟨?_,λ_ _ _ h=>by simp[RE]⟩;intro vs h;simp only[R]at h ⊢;obtain⟨b,off,cs,h1,h2,h3,h4⟩:=h;exact⟨b,off,cs,h1,hE.U b h2,ih.1 _ h3,h4.mono (hE.heap b h2)⟩
 |cons h t ihh iht =>
  refine⟨?_,?_⟩
  .intro vs h;simp only[R]at h ⊢;obtain⟨x,xs,h1,h2,h3⟩:=h;exact⟨x,xs,h1,ihh.1 _ h2,iht.1 _ h3⟩
  .intro a sz i h;simp only[RE]at h ⊢;exact⟨h.1.mono hE.toLeU ihh.1,iht.2 _ _ _ h.2⟩
 |ints k n f t ih =>
  refine⟨?_,λ_ _ _ h=>by simp[RE]at h⟩;intro vs h; simp only[R]at h ⊢; obtain⟨cs,h1,h2⟩:=h; exact⟨cs,h1,ih.1 _ h2⟩
 |agg l ih =>
  refine⟨?_,λ_ _ _ h=>by simp[RE]⟩;intro vs h; simp only[R]at h ⊢; obtain⟨cs,h1,h2⟩:=h; exact⟨cs,h1,ih.1 _ h2⟩
 |tup l ih =>
  refine⟨?_,λ_ _ _ h=>by simp[RE]⟩;intro vs h; simp only[R]at h ⊢; obtain⟨cs,h1,h2⟩:=h; exact⟨cs,h1,ih.1 _ h2⟩
 |fn f l ih =>
  refine⟨?_,λ_ _ _ h=>by simp[RE]⟩;intro vs h; simp only[R]at h ⊢; obtain⟨cs,h1,h2⟩:=h; exact⟨cs,h1,ih.1 _ h2⟩
 |_=>exact⟨λvs h=>by simpa only[R]using h,λ_ _ _ h=>by simp[RE]⟩
def pB:SV->SV
 |.lsl id sz n=>.osl id sz 0 n
 |s=>s
theorem qN{E:Env}{s:SV}{vs:List Value}(h:R E s vs):R E (pB s) vs:=by
 cases s with
 |lsl id sz n =>
  simp only[pB,R]at h ⊢;rcases h with⟨rfl,a,h⟩|⟨h0,b,c,h1,h2,h3⟩
  .exact .inl ⟨rfl,a,0,h⟩
  .exact .inr ⟨h0,b,c,h1,by simpa using h2,by omega⟩
 |_=>exact h
theorem eW{E E':Env}(hE:E.LeR E'){s:SV}{vs:List Value}(h:R E s vs):R E' s vs:=(Ij hE s).1 vs h
theorem kJ{E E':Env}(hE:E.Le E'){s:SV}{vs:List Value}(h:R E s vs):R E' s vs:=eW hE.toLeR h
end Go.Eng
end
section
namespace Go.Eng
open Go Go.RowKit
inductive KP where
 |s (b:List UInt8)
 |n (k:IntKind) (i:Int)
 deriving DecidableEq
inductive KPK where
 |s
 |n (k:IntKind)
 deriving DecidableEq,Repr
def KP.kind:KP->KPK
 |.s _=>.s
 |.n k _=>.n k
def KP.val:KP->Value
 |.s b=>.string ⟨b.toArray⟩
 |.n k i=>.int k i
def KP.sv:KP->SV
 |.s b=>.str b
 |.n k i=>.int k i
def Zk:List KP->SV
 | []=>.nil
 |x::r=>.cons x.sv (Zk r)
inductive bQ where
 |s (b:List UInt8)
 |i (k:IntKind) (n:Int)
 |a (x y:Int)
 |t (l:List KP)
 deriving DecidableEq
inductive KK where
 |s
 |i (k:IntKind)
 |a
 |t (l:List KPK)
 deriving DecidableEq,Repr
def bQ.kind:bQ->KK
 |.s _=>.s
 |.i k _=>.i k
 |.a _ _=>.a
 |.t l=>.t (l.map KP.kind)
def bQ.val:bQ->Value
 |.s b=>.string ⟨b.toArray⟩
 |.i k n=>.int k n
 |.a x y=>.agg #[.int .i64 x,.int .i64 y]
 |.t l=>.agg (l.map KP.val).toArray
def bQ.sv:bQ->SV
 |.s b=>.str b
 |.i k n=>.int k n
 |.a x y=>.agg (.cons (.int .i64 x) (.cons (.int .i64 y) .nil))
 |.t l=>.agg (Zk l)
inductive aL where
 |cells (T:TypeId) (l:SV)
 |arr (T:TypeId) (sz len:Nat) (enc:Nat->SV)
 |obj (o:Obj)
 |snap (o:Obj)
 |map (V:Type) (kk:KK) (l:List (bQ×V×Nat)) (clock:Nat) (ev:V->SV) (iv:SV->Option V)
 |iter (src:SV) (since:Nat) (seen:List Nat) (last:Nat)
 |fam (f:Nat->aL)
 |hid (lab pd:Nat)
 |gone
def hZ(E:Env){V:Type}(ev:V->SV):List (bQ×V×Nat)->List MapEntry->Prop
 | [],es=>es=[]
 |x::r,es=>∃e t,es=e::t/\e.key=x.1.val/\R E (ev x.2.1) [e.val]/\e.born=x.2.2/\hZ E ev r t
def HR(E:Env):aL->Nat->Obj->Prop
 |.cells T l,_,o=>∃cs,o=.cells cs.toArray T (0,0)/\R E l cs
 |.arr T sz len enc,c,o=>∃cs:List Value,o=.cells cs.toArray T (0,0)/\cs.length=c*sz/\(len<=c/\c<=9223372036854775807) /\
   ∀i,i<len->∃xs,R E (enc i) xs/\xs.length=sz/\∀j v,xs[j]?=some v->cs[i*sz+j]?=some v
 |.obj o',_,o=>o=o'/\(∀r,o'≠.loop r)/\∀ds,o'≠.deferred ds
 |.snap o',_,o=>o=o'/\(∀r,o'≠.loop r)/\∀ds,o'≠.deferred ds
 |.map _ kk l clock ev _,_,o=>(∀x∈l,x.1.kind=kk)/\∃es,o=.map es.toArray clock/\hZ E ev l es
 |.iter src since seen last,_,o=>∃r,R E src [.map r]/\o=.mapIter r since seen.toArray last
 |.hid lab pd,_,o=>E.H lab pd o
 |.fam _,_,_=>False
 |.gone,_,_=>False
theorem hZ.mono{E E':Env}(hE:E.Le E'){V:Type}{ev:V->SV}:∀{l:List (bQ×V×Nat)} {es:List MapEntry},hZ E ev l es->hZ E' ev l es:=by
 intro l;induction l with
 |nil=>intro es h; exact h
 |cons x r ih =>
  intro es h;obtain⟨e,t,h1,h2,h3,h4,h5⟩:=h;exact⟨e,t,h1,h2,kJ hE h3,h4,ih h5⟩
theorem HR.mono{E E':Env}(hE:E.Le E'){h:aL}{c:Nat}{o:Obj}(k:HR E h c o):HR E' h c o:=by
 cases h with
 |cells T l=>obtain⟨cs,h1,h2⟩:=k; exact⟨cs,h1,kJ hE h2⟩
 |arr T sz len enc =>
  obtain⟨cs,h1,h2,h3,h4⟩:=k;refine⟨cs,h1,h2,h3,λi hi=>?_⟩
  grind[kJ]
 |obj o'=>exact k
 |snap o'=>exact k
 |hid lab pd=>exact hE.H _ _ _ k
 |map V kk l clock ev iv=>obtain⟨h0,es,h1,h2⟩:=k; exact⟨h0,es,h1,h2.mono hE⟩
 |iter src since seen last=>obtain⟨r,h1,h2⟩:=k; exact⟨r,kJ hE h1,h2⟩
 |fam f=>exact k
 |gone=>exact k
universe u
def get?{α:Type u}:List (Nat×α)->Nat->Option α
 | [],_=>none
 | (k,v)::r,n=>bif Nat.beq k n then some v else get? r n
def look(f:List (Nat×SV))(n:Nat):SV:=(get? f n).getD .junk
def drop?{α:Type u}:List (Nat×α)->Nat->List (Nat×α)
 | [],_=>[]
 | (k,v)::r,n=>bif Nat.beq k n then drop? r n else (k,v)::drop? r n
theorem get?_nil{α:Type u}(n:Nat):get? ([]:List (Nat×α)) n=none:=rfl
theorem get?_cons{α:Type u}(k:Nat)(v:α)(r:List (Nat×α))(n:Nat):get? ((k,v)::r) n=if k=n then some v else get? r n:=by
 grind[get?,Nat.beq_refl,Nat.eq_of_beq_eq_true]
theorem get?_drop{α:Type u}(l:List (Nat×α))(k n:Nat):get? (drop? l k) n=if k=n then none else get? l n:=by
 induction l with
 |nil=>simp[drop?,get?]
 |cons p r ih =>
  obtain⟨j,v⟩:=p;simp only[drop?];by_cases hj:j=k
  .simp_all [Nat.beq_refl,cond_true,get?_cons]
  .have hb:Nat.beq j k=false:=by
    grind[Nat.eq_of_beq_eq_true]
   simp only[hb,cond_false,get?_cons,ih]
   grind
structure St where
 fr:List (Nat×SV)
 hp:List (Nat×aL)
 nx:Nat
structure Ctx where
 n:Nat
 w0:World
 T:Nat->Prop
 U0:Nat->Prop
 pin:Nat->Option (Nat×Nat)
 np:List Nat
 bnd:Nat
 H:Nat->Nat->Obj->Prop
 dep:Nat
 Hd:∀l p o,H l p o->l<dep
 Hl:∀l p o,H l p o->∃r,o=.loop r
 Hu:∀l o o',H l 0 o->H l 0 o'->o=o'
 R0:Env
def Ctx.B(C:Ctx)(b:Nat):Prop:=C.U0 b\/C.T b\/C.w0.heap.size<=b
structure Frm(T:Nat->Prop)(w w':World):Prop where
 os:w'.os=w.os
 tape:w'.tape=w.tape
 output:w'.output=w.output
 size:w.heap.size<=w'.heap.size
 block:∀b,b<w.heap.size->¬T b->w'.heap[b]?=w.heap[b]?
 drawn:DLe w w'
theorem Frm.refl(T:Nat->Prop)(w:World):Frm T w w:=⟨rfl,rfl,rfl,aN _,λ_ _ _=>rfl,DLe.refl _⟩
theorem Frm.trans{T:Nat->Prop}{a b c:World}(h:Frm T a b)(k:Frm T b c):Frm T a c :=
 ⟨k.os.trans h.os,k.tape.trans h.tape,k.output.trans h.output,aV h.size k.size,
  λi hi ht=>(k.block i (bM hi h.size) ht).trans (h.block i hi ht),h.drawn.trans k.drawn⟩
theorem Frm.trans'{T T':Nat->Prop}{a b c:World}(h:Frm T a b)(k:Frm T' b c)(hT:∀i,T' i->T i\/a.heap.size<=i):Frm T a c :=
 ⟨k.os.trans h.os,k.tape.trans h.tape,k.output.trans h.output,aV h.size k.size,
  λi hi ht=>(k.block i (bM hi h.size) (by grind)).trans (h.block i hi ht),h.drawn.trans k.drawn⟩
theorem Frm.jR{T:Nat->Prop}{w w':World}(h:Below w.heap.size w w'):Frm T w w' :=
 ⟨h.os,h.tape,h.output,h.size,λb hb _=>h.block b hb,h.drawn⟩
theorem Frm.below{w w':World}(h:Frm (λ_=>False) w w'):Below w.heap.size w w' :=
 ⟨h.os,h.tape,h.output,h.size,λb hb=>h.block b hb id,h.drawn⟩
def solid?:aL->Option aL
 |.fam _=>none
 |.gone=>none
 |.arr T sz len enc=>if len=0 then none else some (.arr T sz len enc)
 |o=>some o
theorem cL{T sz len:Nat}{enc:Nat->SV}(h:0<len):solid? (.arr T sz len enc)=some (.arr T sz len enc):=by simp[solid?]; omega
theorem rE{T sz:Nat}{enc:Nat->SV}:solid? (.arr T sz 0 enc)=none:=by rfl
def dX?:aL->Option aL
 |.hid _ _=>none
 |o=>solid? o
theorem dX?_solid{o o':aL}(h:dX? o=some o'):solid? o=some o':=by
 cases o<;>simp[dX?]at h<;>exact h
theorem solid?_self{o o':aL}(h:solid? o=some o'):o'=o:=by
 cases o<;>simp[solid?]at h<;>first|exact h.symm|exact h.2.symm
def hget(hp:List (Nat×aL))(n:Nat):Option aL :=
 if n<FB then (get? hp n).bind solid?
 else match get? hp (n%FB) with
  |some (.fam f)=>dX? (f (n/FB-1))
  |_=>none
theorem P7:0<FB:=by decide
theorem cQ(h i:Nat):FB<=fid h i:=by grind[fid]
theorem gF{h:Nat}(i:Nat)(hh:h<FB):fid h i%FB=h:=by grind[fid,Nat.add_mul_mod_self_left,Nat.mod_eq_of_lt]
theorem fE{h:Nat}(i:Nat)(hh:h<FB):fid h i/FB-1=i:=by
 simp_all[fid,Nat.add_mul_div_left,P7,Nat.div_eq_of_lt]
theorem nI{n:Nat}(h:FB<=n):fid (n%FB) (n/FB-1)=n:=by
 grind[fid,FB]
theorem Lr{h h' i i':Nat}(hh:h<FB)(hh':h' < FB)(e:fid h i=fid h' i'):h=h'/\i=i':=by
 grind[gF,fE]
theorem fF{hp:List (Nat×aL)}{n:Nat}(h:n<FB):hget hp n=(get? hp n).bind solid?:=by simp[hget,h]
theorem jL{hp:List (Nat×aL)}{n:Nat}{o:aL}(h:n<FB)(hg:get? hp n=some o)(hs:solid? o=some o):hget hp n=some o:=by
 grind[fF]
theorem iZ{hp:List (Nat×aL)}{h i:Nat}{f:Nat->aL}(hh:h<FB)(hg:get? hp h=some (.fam f)):hget hp (fid h i)=dX? (f i):=by
 have h1:¬fid h i<FB:=bJ.2 (cQ h i);simp[*,hget,gF,fE]
theorem gU{hp:List (Nat×aL)}{id:Nat}{x:aL}(hid:id<FB)(hx:solid? x=some x)(hold:∀f,get? hp id≠some (.fam f))(n:Nat) :
  hget ((id,x)::hp) n=if id=n then some x else hget hp n:=by
 by_cases hn:n<FB
 .grind [fF,get?_cons]
 .have hne:¬id=n:=by omega
  simp only[hget,hn,if_false,hne,get?_cons];by_cases e:id=n%FB
  .simp only [e,if_true]
   grind[solid?]
  .simp [e]
theorem lZ{hp:List (Nat×aL)}{h i:Nat}{f:Nat->aL}{x:aL}(hh:h<FB)(hg:get? hp h=some (.fam f))(hx:dX? x=some x)(n:Nat) :
  hget ((h,.fam λj=>bif Nat.beq j i then x else f j)::hp) n=if fid h i=n then some x else hget hp n:=by
 by_cases hn:n<FB
 .have hne:¬fid h i=n:=by grind[cQ]
  rw[fF hn,fF hn,get?_cons,if_neg hne]
  grind[solid?]
 .simp only [hget,hn,if_false,get?_cons];by_cases e:h=n%FB
  .simp only [e,if_true];rw[e]at hg;simp only[hg];by_cases e2:n/FB-1=i
   .have:fid h i=n:=by grind[nI]
    simp_all
   .have hb:Nat.beq (n/FB-1) i=false:=by
     grind[Nat.eq_of_beq_eq_true]
    have:¬fid (n%FB) i=n:=by
     grind[fE]
    simp[*]
  .have:¬fid h i=n:=by rintro rfl; grind[gF]
   simp[*]
def Ufor(C:Ctx)(μ:Nat->Option (Nat×Nat))(hp:List (Nat×aL))(w:World):Nat->Prop :=
 λb=>b<w.heap.size/\C.B b/\(∀id o c,hget hp id=some o->μ id≠some (b,c))/\Plain w b
def aG(C:Ctx)(μ:Nat->Option (Nat×Nat))(hp:List (Nat×aL))(w:World):Env:=⟨μ,Ufor C μ hp w,w,C.H⟩
def fJ(E:Env)(t:Array Value):SV->Value->Prop
 |.gd d want x,v=>(t.getD d undef=.bool want->R E x [v])/\(t.getD d undef≠.bool want->v=undef)
 |s,v=>R E s [v]
structure HpR(E:Env)(hp:List (Nat×aL)):Prop where
 keys:∀id o,get? hp id=some o->id<FB
 obj:∀id o,hget hp id=some o->∃b c x,E.μ id=some (b,c)/\E.w.heap[b]?=some x/\HR E o c x
def aGg(μ:Nat->Option (Nat×Nat))(hp:List (Nat×aL)):Prop :=
 ∀id id' o o' b c c',hget hp id=some o->hget hp id'=some o'->μ id=some (b,c)->μ id'=some (b,c')->id=id'
structure bD(C:Ctx)(μ:Nat->Option (Nat×Nat))(hp:List (Nat×aL))(nx:Nat)(w:World):Prop where
 obj:HpR (aG C μ hp w) hp
 inj:aGg μ hp
 mine:∀id o b c,hget hp id=some o->μ id=some (b,c)->C.T b\/C.w0.heap.size<=b
 keys:∀id o,get? hp id=some o->id<nx
 nx:∀id p,μ id=some p->id<FB->id<nx
 fam:∀id p,μ id=some p->FB<=id->∃o,hget hp id=some o
 pin:∀id p,C.pin id=some p->μ id=some p
 frm:Frm C.T C.w0 w
 pos:∀id p o,μ id=some p->FB<=id->hget hp id=some (.obj o)->p.1=id/FB-1
def rS(w0 w:World)(l:List Deferred):Prop :=
 l.Pairwise (λd d'=>d.target≠d'.target)/\∀d∈l,∃D,d={ target:=.collected D,args:=#[] }/\w0.heap.size<=D/\w.heap[D]?=some (.deferred (some []))
theorem rS.nil(w0 w:World):rS w0 w []:=⟨.nil,(by grind)⟩
structure cR(C:Ctx)(μ:Nat->Option (Nat×Nat))(st:St)(a:Act)(w:World):Prop where
 size:a.tmps.size=C.n
 defers:rS C.R0.w w a.defers
 fr:∀s,fJ (aG C μ st.hp w) a.tmps (look st.fr s) (a.tmps.getD s undef)
 hep:bD C μ st.hp st.nx w
 le:C.R0.LeU (aG C μ st.hp w)
 kd:Kd C.R0.w w
theorem fJ.mono{E E':Env}(hE:E.Le E'){t:Array Value}{s:SV}{v:Value}(h:fJ E t s v):fJ E' t s v:=by
 cases s<;>first
  |exact kJ hE h
  |exact⟨λe=>kJ hE (h.1 e),h.2⟩
theorem rY{w0 w w':World}(hk:Kd w w'){l:List Deferred}(h:rS w0 w l):rS w0 w' l:=by
 refine⟨h.1,λd hd=>?_⟩;obtain⟨D,h1,h2,h3⟩:=h.2 d hd;exact⟨D,h1,h2,hk.dfr _ _ h3⟩
theorem cR.step{C:Ctx}{μ μ':Nat->Option (Nat×Nat)}{st:St}{a:Act}{w w':World}{hp':List (Nat×aL)}{nx':Nat}
  (h:cR C μ st a w) (hE:(aG C μ st.hp w).Le (aG C μ' hp' w')) (hh:bD C μ' hp' nx' w'):cR C μ' { st with hp:=hp',nx:=nx' } a w' :=
 ⟨h.size,rY hE.kd h.defers,λs=>(h.fr s).mono hE,hh,h.le.trans hE.toLeU,h.kd.trans hE.kd⟩
theorem jM{C:Ctx}{μ:Nat->Option (Nat×Nat)}{hp:List (Nat×aL)}{w w':World}(h:Below w.heap.size w w'):(aG C μ hp w).Le (aG C μ hp w') :=
 ⟨⟨⟨λb hb=>⟨bM hb.1 h.size,hb.2.1,hb.2.2.1,λds e=>hb.2.2.2 ds ((h.block b hb.1).symm.trans e)⟩,λb hb=>h.block b hb.1⟩,λ_ _ e=>e⟩,Kd.jR h,λ_ _ _ e=>e⟩
theorem bD.below{C:Ctx}{μ:Nat->Option (Nat×Nat)}{hp:List (Nat×aL)}{nx:Nat}{w w':World}(h:bD C μ hp nx w)(hb:Below w.heap.size w w'):bD C μ hp nx w' where
 obj:=by
  refine⟨h.obj.keys,?_⟩;intro id o ho;obtain⟨b,c,x,h1,h2,h3⟩:=h.obj.obj id o ho;have hlt:b<w.heap.size:=(aU.1 h2).1;exact⟨b,c,x,h1,(hb.block b hlt).trans h2,h3.mono (jM hb)⟩
 inj:=h.inj
 mine:=h.mine
 keys:=h.keys
 nx:=h.nx
 fam:=h.fam
 pin:=h.pin
 frm:=h.frm.trans (Frm.jR hb)
 pos:=h.pos
theorem cR.below{C:Ctx}{μ:Nat->Option (Nat×Nat)}{st:St}{a:Act}{w w':World}(h:cR C μ st a w)(hb:Below w.heap.size w w'):cR C μ st a w' :=
 h.step (jM hb) (h.hep.below hb)
theorem bD.lt{C:Ctx}{μ:Nat->Option (Nat×Nat)}{hp:List (Nat×aL)}{nx:Nat}{w:World}(h:bD C μ hp nx w){id b c:Nat}{o:aL}(hg:hget hp id=some o)(hm:μ id=some (b,c)):b<w.heap.size:=by
 obtain⟨b',c',y,e1,e2,_⟩:=h.obj.obj id o hg;have e3:μ id=some (b',c'):=e1;rw[hm]at e3;cases e3;exact(aU.1 e2).1
theorem bD.get{C:Ctx}{μ:Nat->Option (Nat×Nat)}{hp:List (Nat×aL)}{nx:Nat}{w:World}(h:bD C μ hp nx w){id:Nat}{o:aL}(hg:get? hp id=some o)(hs:solid? o=some o):hget hp id=some o :=
 jL (h.obj.keys _ _ hg) hg hs
def upd(μ:Nat->Option (Nat×Nat))(id:Nat)(p:Nat×Nat):Nat->Option (Nat×Nat):=λi=>if i=id then some p else μ i
theorem Vg{μ:Nat->Option (Nat×Nat)}{nx:Nat}(h:μ nx=none)(q:Nat×Nat):∀id p,μ id=some p->upd μ nx q id=some p:=by
 intro id p e;have:id≠nx:=by grind
 simp_all[upd]
theorem Gy{C:Ctx}{μ:Nat->Option (Nat×Nat)}{hp hp':List (Nat×aL)}{nx:Nat}{w:World}(o:Obj)(x:aL)(c:Nat)(hnx:μ nx=none)
  (hh:∀n,hget hp' n=if nx=n then some x else hget hp n) :
  (aG C μ hp w).Le (aG C (upd μ nx (w.heap.size,c)) hp' (w.alloc o)) where
 μ:=Vg hnx _
 U:=by
  intro b hb;refine⟨by simp; have:=hb.1; omega,hb.2.1,?_,λds e=>hb.2.2.2 ds ((Below.heap_alloc w o b hb.1).symm.trans e)⟩;intro id o' c' ho' he;rw[hh]at ho';by_cases hid:nx=id
  .subst hid;simp[upd]at he;have:=hb.1;omega
  .simp [hid]at ho';have:id≠nx:=λe=>hid e.symm;simp[upd,this]at he;exact hb.2.2.1 id o' c' ho' he
 heap:=λb hb=>Below.heap_alloc w o b hb.1
 H:=λ_ _ _ e=>e
 kd:=Kd.jR ((Below.refl _ _).alloc (aN _) _)
theorem bD.alloc{C:Ctx}{μ:Nat->Option (Nat×Nat)}{hp:List (Nat×aL)}{nx:Nat}{w:World}(h:bD C μ hp nx w)(hnx:nx<FB)(o:Obj)(x:aL)(hs:solid? x=some x)(c:Nat)
  (hx:HR (aG C μ hp w) x c o):(aG C μ hp w).Le (aG C (upd μ nx (w.heap.size,c)) ((nx,x)::hp) (w.alloc o))/\bD C (upd μ nx (w.heap.size,c)) ((nx,x)::hp) (nx+1) (w.alloc o):=by
 have hm:μ nx=none:=by
  cases e:μ nx with
  |none=>rfl
  |some p=>have:=h.nx nx p e hnx; omega
 have hgn:get? hp nx=none:=by
  cases e:get? hp nx with
  |none=>rfl
  |some p=>have:=h.keys nx p e; omega
 have hh:=gU (hp:=hp) (id:=nx) (x:=x) hnx hs (λf e=>by rw[hgn]at e; cases e);have hE:=Gy (C:=C) (μ:=μ) (hp:=hp) (w:=w) o x c hm hh;refine⟨hE,⟨?_,?_,?_,?_,?_,?_,λid p e=>hE.μ _ _ (h.pin id p e),?_,?_⟩⟩
 .refine ⟨?_,?_⟩
  .intro id o' e;rw[get?_cons]at e;by_cases hid:nx=id
   .omega
   .simp [hid]at e; exact h.obj.keys _ _ e
  .intro id o' ho';rw[hh]at ho';by_cases hid:nx=id
   .subst hid;simp at ho';subst ho';exact⟨w.heap.size,c,o,by simp[aG,upd],heap_alloc_new w o,hx.mono hE⟩
   .simp [hid]at ho';obtain⟨b,c',y,h1,h2,h3⟩:=h.obj.obj id o' ho';have hlt:b<w.heap.size:=(aU.1 h2).1;exact⟨b,c',y,hE.μ _ _ h1,(Below.heap_alloc w o b hlt).trans h2,h3.mono hE⟩
 .intro id id' o1 o2 b c1 c2 g1 g2 e1 e2;rw[hh]at g1 g2;by_cases h1:nx=id<;>by_cases h2:nx=id'
  .exact h1.symm.trans h2
  .subst h1;simp[h2]at g2;have n2:id'≠nx:=λe=>h2 e.symm;simp[upd]at e1;simp[upd,n2]at e2;have:=h.lt g2 e2;omega
  .subst h2;simp[h1]at g1;have n1:id≠nx:=λe=>h1 e.symm;simp[upd]at e2;simp[upd,n1]at e1;have:=h.lt g1 e1;omega
  .have n1:id≠nx:=λe=>h1 e.symm;have n2:id'≠nx:=λe=>h2 e.symm;simp[h1]at g1;simp[h2]at g2;simp[upd,n1]at e1;simp[upd,n2]at e2;exact h.inj _ _ _ _ _ _ _ g1 g2 e1 e2
 .intro id o' b c' g e;rw[hh]at g;by_cases h1:nx=id
  .subst h1;simp[upd]at e;exact .inr (e.1▸h.frm.size)
  .simp [h1]at g;have n1:id≠nx:=λe=>h1 e.symm;simp[upd,n1]at e;exact h.mine _ _ _ _ g e
 .intro id o' e;rw[get?_cons]at e;by_cases hid:nx=id
  .omega
  .simp [hid]at e; have:=h.keys _ _ e; omega
 .intro id p e hlt;by_cases h1:id=nx
  .omega
  .simp [upd,h1]at e;have:=h.nx id p e hlt;omega
 .intro id p e hge;have n1:id≠nx:=by omega
  simp[upd,n1]at e;obtain⟨o',ho'⟩:=h.fam id p e hge;exact⟨o',by rw[hh,if_neg (fR n1)]; exact ho'⟩
 .exact h.frm.trans (Frm.jR ((Below.refl _ _).alloc (aN _) _))
 .intro id p q e hge g;have n1:id≠nx:=by omega
  simp[upd,n1]at e;rw[hh,if_neg (fR n1)]at g;exact h.pos id p q e hge g
theorem bD.same{C:Ctx}{μ:Nat->Option (Nat×Nat)}{hp hp':List (Nat×aL)}{nx nx':Nat}{w:World}(h:bD C μ hp nx w)(hh:∀n,hget hp' n=hget hp n)(hk:∀id o,get? hp' id=some o->id<nx'/\id<FB)(hn:nx<=nx') :
  (aG C μ hp w).Le (aG C μ hp' w)/\bD C μ hp' nx' w:=by
 have hE:(aG C μ hp w).Le (aG C μ hp' w):=by
  refine⟨⟨⟨?_,λ_ _=>rfl⟩,λ_ _ e=>e⟩,Kd.refl _,λ_ _ _ e=>e⟩;rintro b ⟨a1,a2,a3,a4⟩;exact⟨a1,a2,(by grind),a4⟩
 refine⟨hE,⟨⟨(by grind),λid o e=>?_⟩,?_,?_,(by grind),λid p e hlt=>bM (h.nx id p e hlt) hn,?_,h.pin,h.frm,λid p q e hge g=>h.pos id p q e hge (by grind)⟩⟩
 .rw [hh]at e;obtain⟨b,c,x,e1,e2,e3⟩:=h.obj.obj id o e;exact⟨b,c,x,e1,e2,e3.mono hE⟩
 .intro id id' o o' b c c' g g' e e';rw[hh]at g g';exact h.inj _ _ _ _ _ _ _ g g' e e'
 .intro id o b c g e;rw[hh]at g;exact h.mine _ _ _ _ g e
 .intro id p e hge;obtain⟨o,ho⟩:=h.fam id p e hge;simp[*]
theorem Jf{hp:List (Nat×aL)}{id:Nat}{x:aL}(hx:solid? x=none)(hf:∀f,x≠.fam f)(hold:get? hp id=none)(n:Nat):hget ((id,x)::hp) n=hget hp n:=by
 by_cases hn:n<FB
 .grind [fF,get?_cons]
 .simp only [hget,hn,if_false,get?_cons]
  grind
theorem rU{E:Env}{o:aL}{c:Nat}{y:Obj}(hn:∀l p,o≠.hid l p)(h:HR E o c y):(∀r,y≠.loop r)/\∀ds,y≠.deferred ds:=by
 cases o with
 |cells T l=>obtain⟨cs,rfl,_⟩:=h; simp
 |arr T sz len enc=>obtain⟨cs,rfl,_⟩:=h; simp
 |obj o'=>obtain⟨rfl,h1,h2⟩:=h; simp[*]
 |snap o'=>obtain⟨rfl,h1,h2⟩:=h; simp[*]
 |map V kk l clock ev iv=>obtain⟨_,es,rfl,_⟩:=h; simp
 |iter src since seen last=>obtain⟨r,_,rfl⟩:=h; simp
 |hid l p=>grind
 |fam f=>exact h.elim
 |gone=>exact h.elim
theorem HpR.plain{C:Ctx}{μ:Nat->Option (Nat×Nat)}{hp:List (Nat×aL)}{w:World}(h:HpR (aG C μ hp w) hp){id b c:Nat}{o:aL}(hg:hget hp id=some o)(hm:μ id=some (b,c))(hn:∀l p,o≠.hid l p:=by intro _ _ e; cases e):Plain w b:=by
 obtain⟨b',c',z,h1,h2,h3⟩:=h.obj id o hg;have h1':μ id=some (b',c'):=h1;rw[hm]at h1';cases h1';have h2':w.heap[b]?=some z:=h2;intro y e
 grind[gW,rU]
theorem HpR.rC{C:Ctx}{μ:Nat->Option (Nat×Nat)}{hp:List (Nat×aL)}{w:World}(h:HpR (aG C μ hp w) hp){id b c:Nat}{o:aL}(hg:hget hp id=some o)(hm:μ id=some (b,c)):Ih w b:=by
 obtain⟨b',c',z,h1,h2,h3⟩:=h.obj id o hg;have h1':μ id=some (b',c'):=h1;rw[hm]at h1';cases h1';have h2':w.heap[b]?=some z:=h2;intro ds e;rw[h2']at e;cases e;by_cases hn:∀l p,o≠.hid l p
 .exact (rU hn h3).2 ds rfl
 .cases o with
  |hid l p=>obtain⟨r,hr⟩:=C.Hl _ _ _ h3; cases hr
  |_=>exact hn (λ_ _ e=>by cases e)
theorem Sq{C:Ctx}{μ:Nat->Option (Nat×Nat)}{hp hp':List (Nat×aL)}{w w':World}{id b c:Nat}{o:aL}(x:aL)(hh:∀n,hget hp' n=if id=n then some x else hget hp n)(hg:hget hp id=some o)(hm:μ id=some (b,c))
  (hs:w'.heap.size=w.heap.size) (hw:∀k,k≠b->w'.heap[k]?=w.heap[k]?) (hkd:Kd w w'):(aG C μ hp w).Le (aG C μ hp' w') where
 μ:=λ_ _ e=>e
 H:=λ_ _ _ e=>e
 kd:=hkd
 U:=by
  intro k hk;have hkb:k≠b:=λe=>hk.2.2.1 id o c hg (e▸hm);refine⟨by rw[hs]; exact hk.1,hk.2.1,?_,λds e=>hk.2.2.2 ds ((hw k hkb).symm.trans e)⟩;intro i o' c' ho' he;rw[hh]at ho';by_cases hi:id=i
  .grind
  .simp [hi]at ho'; exact hk.2.2.1 _ _ _ ho' he
 heap:=λk hk=>hw k (λe=>hk.2.2.1 id o c hg (e▸hm))
theorem bD.Vo{C:Ctx}{μ:Nat->Option (Nat×Nat)}{hp hp':List (Nat×aL)}{nx:Nat}{w w':World}{id b c:Nat}{o x:aL}{y:Obj}(h:bD C μ hp nx w)
  (hh:∀n,hget hp' n=if id=n then some x else hget hp n) (hk:∀n o',get? hp' n=some o'->∃o'',get? hp n=some o'')
  (hg:hget hp id=some o) (hm:μ id=some (b,c)) (hs:w'.heap.size=w.heap.size) (hw:∀k,k≠b->w'.heap[k]?=w.heap[k]?) (hy:w'.heap[b]?=some y)
  (ho:w'.os=w.os) (ht:w'.tape=w.tape) (hu:w'.output=w.output)
  (hx:HR (aG C μ hp w) x c y) (hkd:Kd w w') (hdr:DLe w w':=by exact DLe.of_le (aN _)) (hxo:FB<=id->∀q,x≠.obj q:=by intro _ _ e; cases e):(aG C μ hp w).Le (aG C μ hp' w')/\bD C μ hp' nx w':=by
 have hE:=Sq (C:=C) (μ:=μ) (hp:=hp) (w:=w) (w':=w') x hh hg hm hs hw hkd;have key:∀i o',hget hp' i=some o'->∃o'',hget hp i=some o'':=by
  grind
 refine⟨hE,⟨?_,?_,?_,?_,h.nx,?_,h.pin,?_,?_⟩⟩
 .refine ⟨λi o' e=>?_,?_⟩
  .obtain ⟨_,e'⟩:=hk _ _ e; exact h.obj.keys _ _ e'
  .intro i o' ho';rw[hh]at ho';by_cases hi:id=i
   .subst hi;simp at ho';subst ho';exact⟨b,c,y,hm,hy,hx.mono hE⟩
   .simp [hi]at ho';obtain⟨b',c',z,h1,h2,h3⟩:=h.obj.obj i o' ho';have hne:b'≠b:=λe=>hi (h.inj _ _ _ _ _ _ _ hg ho' hm (e▸h1));exact⟨b',c',z,h1,(hw b' hne).trans h2,h3.mono hE⟩
 .intro i i' o1 o2 b1 c1 c2 g1 g2 e1 e2;obtain⟨_,g1'⟩:=key _ _ g1;obtain⟨_,g2'⟩:=key _ _ g2;exact h.inj _ _ _ _ _ _ _ g1' g2' e1 e2
 .intro i o' b' c' g e;obtain⟨_,g'⟩:=key _ _ g;exact h.mine _ _ _ _ g' e
 .intro i o' e;obtain⟨_,e'⟩:=hk _ _ e;exact h.keys _ _ e'
 .intro i p e hge;obtain⟨o',ho'⟩:=h.fam i p e hge
  grind
 .refine h.frm.trans' (T':=λk=>k=b) ⟨ho,ht,hu,by omega,(by grind),hdr⟩ ?_;rintro k rfl;exact h.mine _ _ _ _ hg hm
 .intro i p q e hge g;rw[hh]at g;by_cases hi:id=i
  .grind
  .rw [if_neg hi]at g;exact h.pos i p q e hge g
theorem bD.write{C:Ctx}{μ:Nat->Option (Nat×Nat)}{hp hp':List (Nat×aL)}{nx:Nat}{w w':World}{id b c:Nat}{o x:aL}{y:Obj}(h:bD C μ hp nx w)
  (hh:∀n,hget hp' n=if id=n then some x else hget hp n) (hk:∀n o',get? hp' n=some o'->∃o'',get? hp n=some o'')
  (hg:hget hp id=some o) (hm:μ id=some (b,c)) (hs:w'.heap.size=w.heap.size) (hw:∀k,k≠b->w'.heap[k]?=w.heap[k]?) (hy:w'.heap[b]?=some y)
  (ho:w'.os=w.os) (ht:w'.tape=w.tape) (hu:w'.output=w.output)
  (hx:HR (aG C μ hp w) x c y) (hn:∀l p,o≠.hid l p:=by intro _ _ e; cases e) (hdr:DLe w w':=by exact DLe.of_le (aN _)) (hxo:FB<=id->∀q,x≠.obj q:=by intro _ _ e; cases e) (hnx:∀l p,x≠.hid l p:=by intro _ _ e; cases e):(aG C μ hp w).Le (aG C μ hp' w')/\bD C μ hp' nx w':=by
 refine h.Vo hh hk hg hm hs hw hy ho ht hu hx ?_ hdr hxo;obtain⟨b',c',z,h1,h2,h3⟩:=h.obj.obj id o hg;have h1':μ id=some (b',c'):=h1;rw[hm]at h1';cases h1';have hp:=rU hn h3;have h2':w.heap[b]?=some z:=h2;refine Kd.qG (by omega) λk _=>?_;by_cases hk:k=b
 .subst hk;refine .inr ⟨λo e=>?_,λo e=>?_⟩
  .grind [gW]
  grind[gW,rU]
 grind
theorem cR.frame{C:Ctx}{μ:Nat->Option (Nat×Nat)}{st:St}{a:Act}{w:World}(h:cR C μ st a w){fr':List (Nat×SV)}
  (hf:∀s,fJ (aG C μ st.hp w) a.tmps (look fr' s) (a.tmps.getD s undef)):cR C μ { st with fr:=fr' } a w :=
 ⟨h.size,h.defers,hf,h.hep,h.le,h.kd⟩
theorem mS(E:Env)(t:Array Value)(v:Value):fJ E t .junk v:=⟨v,rfl⟩
end Go.Eng
end
section
namespace Go.Eng
open Go Go.RowKit
def R2:Nat:=0
def Ws:Nat:=3
def R4:Nat:=4
def R3:Nat:=5
def pow10:List Int:=[1,10,100,1000,10000,100000,1000000,10000000,100000000,1000000000,10000000000,100000000000,1000000000000,10000000000000,100000000000000,1000000000000000,10000000000000000,100000000000000000,1000000000000000000,10000000000000000000]
def aBj:Nat:=7
def dbr64:List Int:=[0,1,56,2,57,49,28,3,61,58,42,50,38,29,17,4,62,47,59,36,45,43,51,22,53,39,33,30,24,18,12,5,63,55,48,27,60,41,37,16,46,35,44,21,52,32,23,11,54,26,40,15,34,20,31,10,25,14,19,9,13,8,7,6]
def Z8(b:Nat):Prop:=b=R2\/b=Ws\/b=R4\/b=R3\/b=aBj
structure GV(w:World):Prop where
 p:∃T fr,w.heap[R2]?=some (.cells (pow10.map λz=>Value.int .u64 z).toArray T fr)
 m:∃m,w.cell? ⟨Ws,0,none⟩=some (.int .i64 m)
 s:∃ev,w.cell? ⟨R4,0,none⟩=some ev/\(ev=.nilIface\/∃te pe,ev=.iface te pe)
 r:∃ev,w.cell? ⟨R3,0,none⟩=some ev/\(ev=.nilIface\/∃te pe,ev=.iface te pe)
 d:∃T fr,w.heap[aBj]?=some (.cells (dbr64.map λz=>Value.int .u8 z).toArray T fr)
theorem GV.same{w w':World}(h:GV w)(e:∀b,Z8 b->w'.heap[b]?=w.heap[b]?):GV w':=by
 refine⟨?_,?_,?_,?_,?_⟩
 .rw [e R2 (.inl rfl)]; exact h.p
 .rw [World.cell?_of_block (w:=w) (w':=w') (a:=⟨Ws,0,none⟩) (e Ws (.inr (.inl rfl)))]; exact h.m
 .rw [World.cell?_of_block (w:=w) (w':=w') (a:=⟨R4,0,none⟩) (e R4 (.inr (.inr (.inl rfl))))]; exact h.s
 .rw [World.cell?_of_block (w:=w) (w':=w') (a:=⟨R3,0,none⟩) (e R3 (.inr (.inr (.inr (.inl rfl)))))]; exact h.r
 .rw [e aBj (.inr (.inr (.inr (.inr rfl))))]; exact h.d
theorem lt_of_cell{w:World}{b:Nat}{v:Value}(h:w.cell? ⟨b,0,none⟩=some v):b<w.heap.size:=by
 grind[World.cell?]
theorem GV.lt{w:World}(h:GV w){b:Nat}(hb:Z8 b):b<w.heap.size:=by
 rcases hb with rfl|rfl|rfl|rfl|rfl
 .obtain ⟨_,_,e⟩:=h.p
  grind
 .obtain ⟨_,e⟩:=h.m; exact lt_of_cell e
 .obtain ⟨_,e,_⟩:=h.s; exact lt_of_cell e
 .obtain ⟨_,e,_⟩:=h.r; exact lt_of_cell e
 .obtain ⟨_,_,e⟩:=h.d
  grind
theorem GV.tab{w:World}(h:GV w){P:Program}{name:String}(hg:P.globalNamed name=some R2):Lib.TabIs P w name .u64 pow10:=by
 obtain⟨T,fr,e⟩:=h.p
 grind[Lib.TabIs,World.var?]
structure uG(C:Ctx):Prop where
 gok:GV C.w0
 gT:∀b,Z8 b->¬C.T b
theorem uG.at{C:Ctx}(h:uG C){w:World}(hf:Frm C.T C.w0 w):GV w :=
 h.gok.same λb hb=>hf.block b (h.gok.lt hb) (h.gT b hb)
theorem GV.below{w w':World}(h:GV w)(hb:Below w.heap.size w w'):GV w':=h.same λb hb'=>hb.block b (h.lt hb')
end Go.Eng
end
section
namespace Go.Eng
open Go Go.RowKit
inductive CV where
 |int (k:IntKind) (n:Int)
 |bool (b:Bool)
 |str (s:List UInt8)
 |nilptr
 |nilmap
 |nilfn
 |nilsl
 |fn (f:Nat)
 |unit
 |nil
 |cons (h t:CV)
 |zeros (k:IntKind) (n:Nat) (t:CV)
 |agg (l:CV)
 deriving Repr
def CV.sv:CV->SV
 |.int k n=>.int k n
 |.bool b=>.bool b
 |.str s=>.str s
 |.nilptr=>.val (.pointer none)
 |.nilmap=>.val (.map none)
 |.nilfn=>.val .nilFunc
 |.nilsl=>.nilsl
 |.fn f=>.fn f .nil
 |.unit=>.val (.tuple #[])
 |.nil=>.nil
 |.cons h t=>.cons h.sv t.sv
 |.zeros k n t=>.ints k n (λ_=>0) t.sv
 |.agg l=>.agg l.sv
def kEq:IntKind->IntKind->Bool
 |.i8,.i8|.i16,.i16|.i32,.i32|.i64,.i64|.u8,.u8|.u16,.u16|.u32,.u32|.u64,.u64=>true
 |_,_=>false
theorem sJ{k k':IntKind}(h:kEq k k'=true):k=k':=by cases k<;>cases k'<;>first|rfl|(simp[kEq]at h)
def CV.zcons:CV->CV->CV
 |.int k (.ofNat 0),t=>match t with
  |.zeros k' n t'=>bif kEq k k' then .zeros k (n+1) t' else .zeros k 1 t
  |t=>.zeros k 1 t
 |h,t=>.cons h t
def CV.runs:CV->CV
 |.cons h t=>zcons h t.runs
 |c=>c
def cvT(n:Nat)(c:CV):CV:=bif Nat.ble RUN n then c.runs else c
def cv1:Value->Option CV
 |.int k n=>some (.int k n)
 |.bool b=>some (.bool b)
 |.string s=>some (.str s.data.toList)
 |.pointer none=>some .nilptr
 |.map none=>some .nilmap
 |.nilFunc=>some .nilfn
 |.slice none n c=>if n=0/\c=0 then some .nilsl else none
 |_=>none
def cvL:List Value->Option CV
 | []=>some .nil
 |v::r=>do let h <- cv1 v; let t <- cvL r; some (.cons h t)
def Wc:Value->Option CV
 |.agg cs=>do let l <- cvL cs.toList; some (.agg (cvT cs.size l))
 |v=>cv1 v
theorem Qb{E:Env}{v:Value}{c:CV}(h:cv1 v=some c):R E c.sv [v]:=by
 unfold cv1 at h;split at h;all_goals first
  | (cases h; simp[CV.sv,R]; done)
  | (split at h
     .rename_i hh; obtain⟨rfl,rfl⟩:=hh; grind[CV.sv,R]
     .cases h)
  |grind
theorem Y1{E:Env}:∀{vs:List Value} {c:CV},cvL vs=some c->R E c.sv vs:=by
 intro vs;induction vs with
 |nil=>grind[cvL,CV.sv,R]
 |cons v r ih =>
  intro c h;simp only[cvL,aE,aD]at h;obtain⟨x,h1,y,h2,h3⟩:=h;cases h3;simp only[CV.sv,R];exact⟨v,r,rfl,Qb h1,ih h2⟩
theorem Jj(k:IntKind)(n:Nat)(f:Nat->Int):iN k (n+1) f=.int k (f 0)::iN k n λi=>f (i+1):=by
 simp_all[iN,List.range_succ_eq_map]
theorem Vu{E:Env}{h t:CV}{v:Value}{vs:List Value}(h1:R E h.sv [v])(h2:R E t.sv vs):R E (CV.zcons h t).sv (v::vs):=by
 unfold CV.zcons;split
 .rename_i k;have hv:v=.int k 0:=by grind[CV.sv,R]
  subst hv;have one:R E (CV.zeros k 1 t).sv (.int k 0::vs):=by
   simp only[CV.sv,R];exact⟨vs,rfl,h2⟩
  split
  .rename_i k' n t';cases hk:kEq k k' with
   |false=>simp[*]
   |true =>
    rw[cond_true];obtain rfl:=sJ hk;simp only[CV.sv,R]at h2 ⊢;obtain⟨xs,rfl,h3⟩:=h2
    grind[Jj]
  .exact one
 .simp only [CV.sv,R]
  grind
theorem aAb{E:Env}:∀{c:CV} {vs:List Value},R E c.sv vs->R E c.runs.sv vs:=by
 intro c;induction c with
 |cons h t _ ih =>
  intro vs hr;simp only[CV.sv,R]at hr;obtain⟨x,xs,rfl,h1,h2⟩:=hr;exact Vu h1 (ih h2)
 |_=>intro vs hr; exact hr
theorem Y2{E:Env}{n:Nat}{c:CV}{vs:List Value}(hr:R E c.sv vs):R E (cvT n c).sv vs:=by
 grind[cvT,aAb]
theorem Qc{E:Env}{v:Value}{c:CV}(h:Wc v=some c):R E c.sv [v]:=by
 unfold Wc at h;split at h
 .rename_i cs;simp only[aE,aD]at h
  grind[CV.sv,R,Y2,Y1]
 .exact Qb h
inductive SX where
 |s (n:Nat)
 |c (v:CV)
 deriving Repr
def cX:Operand->Option SX
 |.tmp t=>some (.s t)
 |.const v=>(Wc v).map .c
 |.func f=>bif Nat.blt f FM then some (.c (.fn f))else none
 |.global _=>none
def cXs:List Operand->Option (List SX)
 | []=>some []
 |x::r=>do let h <- cX x; let t <- cXs r; some (h::t)
def wB:Option (Nat×Bool)->Nat->Bool->Bool
 |none,_,_=>false
 |some (d,true),d',true=>Nat.beq d d'
 |some (d,false),d',false=>Nat.beq d d'
 |some _,_,_=>false
def unlab(g:Option (Nat×Bool)):SV->SV
 |.gd d w v=>bif wB g d w then v else .junk
 |v=>v
def gx(g:Option (Nat×Bool))(fr:List (Nat×SV)):SX->SV
 |.s n=>unlab g (look fr n)
 |.c v=>v.sv
def gxs(g:Option (Nat×Bool))(fr:List (Nat×SV)):List SX->SV
 | []=>.nil
 |x::r=>.cons (gx g fr x) (gxs g fr r)
def GOk(g:Option (Nat×Bool))(t:Array Value):Prop:=∀d w,g=some (d,w)->t.getD d undef=.bool w
theorem nbeq{a b:Nat}(h:Nat.beq a b=true):a=b:=Nat.eq_of_beq_eq_true h
theorem Ap{g:Option (Nat×Bool)}{d:Nat}{w:Bool}(h:wB g d w=true):g=some (d,w):=by
 unfold wB at h
 grind[nbeq]
theorem Da{E:Env}{t:Array Value}{g:Option (Nat×Bool)}{s:SV}{v:Value}(hg:GOk g t)(h:fJ E t s v):R E (unlab g s) [v]:=by
 cases s with
 |gd d w x =>
  simp only[unlab];cases hb:wB g d w with
  |false=>exact⟨v,rfl⟩
  |true=>exact h.1 (hg d w (Ap hb))
 |_=>exact h
theorem oW{E:Env}{a:Act}{fr:List (Nat×SV)}{g:Option (Nat×Bool)}(hg:GOk g a.tmps)(hf:∀s,fJ E a.tmps (look fr s) (a.tmps.getD s undef))
  {o:Operand} {x:SX} (hx:cX o=some x):R E (gx g fr x) [a.eval o]:=by
 cases o with
 |tmp t=>simp only[cX]at hx; cases hx; exact Da hg (hf t)
 |const v =>
  simp only[cX,aF]at hx;obtain⟨c,h1,rfl⟩:=hx;exact Qc h1
 |func f =>
  simp only[cX]at hx;cases hf:Nat.blt f FM with
  |false=>grind
  |true =>
   simp only[hf,cond_true,aH]at hx
   grind[gx,CV.sv,R,Act.eval,fnV]
 |global n=>cases hx
theorem Fs{E:Env}{a:Act}{fr:List (Nat×SV)}{g:Option (Nat×Bool)}(hg:GOk g a.tmps)(hf:∀s,fJ E a.tmps (look fr s) (a.tmps.getD s undef)) :
  ∀{os:List Operand} {xs:List SX},cXs os=some xs->R E (gxs g fr xs) (os.map a.eval):=by
 intro os;induction os with
 |nil=>grind[cXs,gxs,R]
 |cons o r ih =>
  intro xs h;simp only[cXs,aE,aD]at h;obtain⟨x,h1,y,h2,h3⟩:=h;cases h3;simp only[gxs,R,bK];exact⟨_,_,rfl,oW hg hf h1,ih h2⟩
def qL(n:Nat):SV->Option SV
 |.cons h t=>match n with
  |0=>some .nil
  |n+1=>match qL n t with
   |some r=>some (.cons h r)
   |none=>none
 |.ints k m f t=>match n with
  |0=>some .nil
  |n+1=>bif Nat.ble m (n+1)then match qL (n+1-m) t with
    |some r=>some (.ints k m f r)
    |none=>none
   else none
 |_=>match n with
  |0=>some .nil
  |_+1=>none
def iA(n:Nat):SV->SV
 |.cons h t=>match n with
  |0=>.cons h t
  |n+1=>iA n t
 |.ints k m f t=>match n with
  |0=>.ints k m f t
  |n+1=>bif Nat.ble m (n+1)then iA (n+1-m) t else .ints k (m-(n+1)) (λi=>f (n+1+i)) t
 |l=>match n with
  |0=>l
  |_+1=>.nil
def cA:SV->Option SV
 |.cons h _=>some h
 |.ints k m f _=>bif Nat.ble 1 m then some (.int k (f 0))else none
 |_=>none
theorem Ft{E:Env}{s:SV}{vs:List Value}(h:R E s vs)(h1:s≠.nil)(h2:∀x t,s≠.cons x t)(h3:∀k n f t,s≠.ints k n f t:=by simp):∃v,vs=[v]:=by
 cases s with
 |nil=>grind
 |cons x t=>grind
 |ints k n f t=>grind
 |junk=>exact h
 |gd=>exact h
 |own=>simp only[R]at h; grind
 |osl=>simp only[R]at h; grind
 |lsl=>simp only[R]at h; grind
 |oel=>simp only[R]at h; grind
 |mref=>simp only[R]at h; grind
 |fown=>simp only[R]at h; grind
 |fmref=>simp only[R]at h; grind
 |flsl=>simp only[R]at h; grind
 |foel=>simp only[R]at h; grind
 |csl=>simp only[R]at h; grind
 |yield=>simp only[R]at h; grind
 |slice=>simp only[R]at h; grind
 |slit=>simp only[R]at h; grind
 |cptr=>simp only[R]at h; grind
 |agg=>simp only[R]at h; grind
 |tup=>simp only[R]at h; grind
 |fn=>simp only[R]at h; grind
 |_=>simp only[R]at h; exact⟨_,h⟩
theorem Ji(k:IntKind)(m:Nat)(f:Nat->Int)(j:Nat):(iN k m f).drop j=iN k (m-j) λi=>f (j+i):=by
 apply iI
 grind[lD,cG]
theorem hP{E:Env}{l:SV}:∀{n:Nat} {cs:List Value},R E l cs->R E (iA n l) (cs.drop n):=by
 induction l with
 |cons x t _ iht =>
  intro n cs h;cases n with
  |zero=>grind[iA]
  |succ n =>
   simp only[R]at h;obtain⟨y,ys,rfl,_,h2⟩:=h
   grind[iA]
 |ints k m f t iht =>
  intro n cs h;cases n with
  |zero=>grind[iA]
  |succ n =>
   simp only[R]at h;obtain⟨ys,rfl,h2⟩:=h;simp only[iA];rw[List.drop_append,cG];cases hb:Nat.ble m (n+1) with
   |true =>
    simp_all[cond_true,List.drop_eq_nil_of_le,cG,List.nil_append]
   |false =>
    have hle:¬m<=n+1:=(by grind[Nat.ble_eq_true_of_le]);rw[cond_false,show n+1-m=0 by omega,kH,Ji];exact⟨ys,rfl,h2⟩
 |nil =>
  intro n cs h;cases n with
  |zero=>grind[iA]
  |succ n=>grind[R,iA]
 |_ =>
  intro n cs h;cases n with
  |zero=>simpa[iA]using h
  |succ n =>
   obtain⟨v,rfl⟩:=Ft h (by simp) (by simp);simp[iA,R]
theorem oZ{E:Env}{l:SV}:∀{n:Nat} {l':SV} {cs:List Value},qL n l=some l'->R E l cs->R E l' (cs.take n)/\n<=cs.length:=by
 induction l with
 |cons x t _ iht =>
  intro n l' cs h hr;cases n with
  |zero=>grind[qL,R]
  |succ n =>
   simp only[qL]at h;split at h
   .rename_i r hr';cases h;simp only[R]at hr;obtain⟨y,ys,rfl,h1,h2⟩:=hr;obtain⟨k1,k2⟩:=iht hr' h2;simp only[R,List.take_succ_cons,bA]
    grind
   .cases h
 |ints k m f t iht =>
  intro n l' cs h hr;cases n with
  |zero=>grind[qL,R]
  |succ n =>
   simp only[qL]at h;cases hb:Nat.ble m (n+1) with
   |false=>grind
   |true =>
    have hle:=aQ hb;simp only[hb,cond_true]at h;split at h
    .rename_i r hr';cases h;simp only[R]at hr;obtain⟨ys,rfl,h2⟩:=hr;obtain⟨k1,k2⟩:=iht hr' h2;rw[List.take_append,cG,List.take_of_length_le (by rw[cG]; exact hle),bF,cG];exact⟨⟨_,rfl,k1⟩,by omega⟩
    .cases h
 |_ =>
  intro n l' cs h hr;cases n with
  |zero=>simp[qL]at h; subst h; simp[R]
  |succ n=>simp[qL]at h
theorem vE{E:Env}{l x:SV}{cs:List Value}(h:cA l=some x)(hr:R E l cs):∃v r,cs=v::r/\R E x [v]:=by
 cases l with
 |cons y t =>
  simp only[cA]at h; cases h;simp only[R]at hr
  grind
 |ints k m f t =>
  simp only[cA]at h;cases hb:Nat.ble 1 m with
  |false=>grind
  |true =>
   have hle:=aQ hb;simp only[hb,cond_true,aH]at h;subst h;simp only[R]at hr;obtain⟨xs,rfl,_⟩:=hr;obtain⟨m',rfl⟩:∃m',m=m'+1:=⟨m-1,by omega⟩;simp_all[iN,List.range_succ_eq_map,R]
 |_=>simp[cA]at h
def InR:IntKind->Int->Prop
 |.i64,n=>-9223372036854775808<=n/\n<=9223372036854775807
 |.i32,n=>-2147483648<=n/\n<=2147483647
 |.i16,n=>-32768<=n/\n<=32767
 |.i8,n=>-128<=n/\n<=127
 |.u64,n=>0<=n/\n<=18446744073709551615
 |.u32,n=>0<=n/\n<=4294967295
 |.u16,n=>0<=n/\n<=65535
 |.u8,n=>0<=n/\n<=255
theorem InR.wrap{k:IntKind}{n:Int}(h:InR k n):k.wrap n=n:=by
 cases k<;>simp only[InR]at h<;>simp[IntKind.wrap,IntKind.bits,IntKind.signed]<;>omega
def mN:TypeDesc->Bool
 |.struct _|.array _ _=>true
 |_=>false
section
variable {P:Program} (w:World)
theorem sV{t:TypeId}{i:TypeInfo}(h:P.info? t=some i):(typeInfo t).run P w=.ok i w:=by simp[typeInfo,h]
theorem bR{t:TypeId}{i:TypeInfo}(h:P.info? t=some i):(sizeOf t).run P w=.ok i.size w:=by simp[sizeOf,sV w h]
theorem aJ{t:TypeId}{d:TypeDesc}(h:P.underlying t=some d):(underlying t).run P w=.ok d w:=by simp[underlying,h]
theorem mB{t:TypeId}{d:TypeDesc}(h:P.underlying t=some d):(isAgg t).run P w=.ok (mN d) w:=by
 unfold isAgg;simp only[Sem.run_bind,aJ w h,Result.andThen_ok];cases d<;>simp[mN]
theorem jU{t:TypeId}{i:TypeInfo}{z:Value}(h:P.info? t=some i)(hz:i.zero=some z):(zeroValue t).run P w=.ok z w:=by
 simp_all[zeroValue,sV]
end
theorem Addr.mE(b off n:Nat):(⟨b,off,none⟩:Addr).add n=⟨b,off+n,none⟩:=by
 grind[Addr.add]
theorem pH{P:Program}{w:World}{t:TypeId}{i:TypeInfo}{d:TypeDesc}{b off:Nat}{cs:List Value}(hi:P.info? t=some i)(hd:P.underlying t=some d)
  (hc:Holds w b off cs) (hl:cs.length=i.size) (hs:mN d=false->i.size=1) :
  (loadVar t ⟨b,off,none⟩).run P w=.ok (if mN d then .agg cs.toArray else (cs[0]?).getD undef) w:=by
 unfold loadVar;simp only[Sem.run_bind,mB w hd,Result.andThen_ok];cases ha:mN d with
 |true =>
  simp only[if_true,Sem.run_bind,bR w hi,Result.andThen_ok];have:=run_loadCells_list (P:=P) (w:=w) (⟨b,off,none⟩:Addr) cs (λj v hj=>by rw[Addr.mE]; exact hc j v hj);simp_all
 |false =>
  have h1:=hs ha
  match cs,hl with
  | [v],_ =>
   have:=hc 0 v rfl;simp_all
  | [],hl=>grind
  |_::_::_,hl=>grind
end Go.Eng
end
