/- A part of the proof. -/
import Derived.Test.YtpiolkcdfgiefaaGreatDoorVC
import Derived.Test.YtpiolkcdfgiefaaGreatDoorD7
namespace VO
open Go Go.Eng Go.Proofs Go.RowKit Go.ChangeShapes Go.WideShapes T1 T10 T11 T23 T24
set_option maxRecDepth 100000
def aBo:Sp:=.cons .str (.cons .str .nil)
def aBn:Sp:=.cons .bool (.cons .str (.cons .str .nil))
theorem sp29:Bx Tryz.prog 8 29=some (.cons (.slice 2 aBo) .nil):=by kernel_rfl
theorem sp22:Bx Tryz.prog 8 22=some (.cons (.slice 3 aBn) .nil):=by kernel_rfl
theorem Ho:(reachBytes:Nat) < 4611686018427387904:=by unfold reachBytes; decide
theorem My {T:Type} {d:T} {sz:Nat} {s:Sp} {g:T->SV} {p:T->Prop} (hg:∀ l,Sh s l->∃ q,p q/\∀ E vs,R E l vs->R E (g q) vs) {a:SV} (h:Sh (.slice sz s) a) :
  ∃ x:List T,(x.length < 4611686018427387904/\∀ j,j < x.length->p (x.getD j d))/\∀ E vs,R E a vs->R E (.slice sz x.length fun i=>g (x.getD i d)) vs:=by
 obtain ⟨n,enc,rfl,hn,hall⟩:=h;refine ⟨(List.range n).map (fun i=>if hi:i < n then (hg _ (hall i hi)).choose else d),?_,?_⟩
 ·rw [cO,jY];refine ⟨Nat.lt_of_le_of_lt hn Ho,fun j hj=>?_⟩;rw [aE,cE,iS hj];simp only [cL,bZ,hj,dif_pos];exact (hg _ (hall j hj)).choose_spec.1
 ·intro E vs hr;rw [cO,jY];simp only [R] at hr ⊢;obtain ⟨a,cap,h1,h2,h3⟩:=hr;refine ⟨a,cap,h1,h2,fun i hi=>?_⟩;obtain ⟨b,off,cs,e1,e2,e3,e4,e5⟩:=h3 i hi;refine ⟨b,off,cs,e1,e2,?_,e4,e5⟩;rw [aE,cE,iS hi];simp only [cL,bZ,hi,dif_pos];exact (hg _ (hall i hi)).choose_spec.2 E cs e3
def bgK (k:Ky):Prop:=k.1.length < 4611686018427387904
theorem aA0 {s:B} (h:s.length<=reachBytes):s.length < 4611686018427387904:=Nat.lt_of_le_of_lt h Ho
theorem aBm {l:SV} (h:Sh aBo l):∃ q:Ky,bgK q/\∀ E vs,R E l vs->R E (Ep q) vs:=by
 obtain ⟨_,_,rfl,⟨x,rfl,hx⟩,_,_,rfl,⟨y,rfl,hy⟩,rfl⟩:=h;exact ⟨(x,y),aA0 hx,fun _ _ h=>h⟩
theorem aBl {l:SV} (h:Sh aBn l):∃ q:Ac,bgK q.2/\∀ E vs,R E l vs->R E (Pu q) vs:=by
 obtain ⟨_,_,rfl,⟨b,rfl⟩,_,_,rfl,⟨x,rfl,hx⟩,_,_,rfl,⟨y,rfl,hy⟩,rfl⟩:=h;exact ⟨(b,x,y),aA0 hx,fun _ _ h=>h⟩
section
variable {H:Type} {enc:TypeId×Value->H} {W:World} {base:Nat} {sp:Nat->Bool} {held:Bool} {r:Reach} {b0:Nat} {v:Value} {d:DataW H} {ps:List MemPlace}
theorem open29 (hval:Value.okWide Tryz.prog W r b0 29 v) (hd:DataW.Trod enc Tryz.prog W base sp held 29 v d ps) (hw:Light Tryz.prog 29 d):∃ l:List Ky,R (kP (Wall W) W) (ksE l) [v]/\l.length < 4611686018427387904/\∀ j,j < l.length->(l.getD j k0).1.length < 4611686018427387904:=by
 obtain ⟨a,h1,h2⟩:=Ld sp29 ⟨fun fs e=>by rw [Tryz.underlying29] at e; (cases e),fun m k e=>by rw [Tryz.underlying29] at e; (cases e)⟩ hval hd hw;obtain ⟨l,hb,hr⟩:=My (d:=k0) (g:=Ep) (fun _ h=>aBm h) h1;exact ⟨l,hr _ _ h2,hb⟩
theorem open22 (hval:Value.okWide Tryz.prog W r b0 22 v) (hd:DataW.Trod enc Tryz.prog W base sp held 22 v d ps) (hw:Light Tryz.prog 22 d):∃ l:List Ac,R (kP (Wall W) W) (acE l) [v]/\l.length < 4611686018427387904/\∀ j,j < l.length->(l.getD j a0).2.1.length < 4611686018427387904:=by
 obtain ⟨a,h1,h2⟩:=Ld sp22 ⟨fun fs e=>by rw [Tryz.underlying22] at e; (cases e),fun m k e=>by rw [Tryz.underlying22] at e; (cases e)⟩ hval hd hw;obtain ⟨l,hb,hr⟩:=My (d:=a0) (g:=Pu) (fun _ h=>aBl h) h1;exact ⟨l,hr _ _ h2,hb⟩
end
theorem Dq {f:Nat} {S:Eng.Spec} (hS:S.Ok Tryz.prog f) {W:World} {vs:List Value} {x:S.X} (hg:GV W) (hx:S.pre x) (hr:R (kP (Wall W) W) (S.args x) vs) (hres:S.res x=.bool true) :
  Calls Tryz.prog f vs.toArray W fun e W'=>e=.returned (.bool true)/\Eng.Below W.heap.size W W':=by
 refine (hS.does x W vs (Wall W) (fun b hb=>hb) hg hx hr).mono ?_;intro e W' he;cases e with
 | returned v =>
  obtain ⟨h1,h2⟩:=he;rw [hres] at h1;simp only [R] at h1;exact ⟨by rw [aC.1 h1],h2⟩
 | panicked _=>exact he.elim
 | outgrown=>exact he.elim
section
variable {H:Type} {enc:TypeId×Value->H} {P:Program} {w:World} {base:Nat} {spare:Nat->Bool} {held:Bool}
theorem Pj {t1 t2:TypeId} {args:Array Value} {ds:List (DataW H)} {ps:List MemPlace} (h:DataW.TrodAll enc P w base spare held [t1,t2] args.toList ds ps) :
  ∃ v1 v2 d1 d2 p1 p2,args=#[v1,v2]/\ds=[d1,d2]/\DataW.Trod enc P w base spare held t1 v1 d1 p1/\DataW.Trod enc P w base spare held t2 v2 d2 p2:=by
 obtain ⟨v1,vs1,d1,ds1,p1,q1,hargs,rfl,rfl,h1,r1⟩:=trodAll_cons h;obtain ⟨v2,vs2,d2,ds2,p2,q2,rfl,rfl,rfl,h2,r2⟩:=trodAll_cons r1;obtain ⟨rfl,rfl,rfl⟩:=trodAll_nil r2;exact ⟨v1,v2,d1,d2,p1,p2,by cases args; simp_all,rfl,h1,h2⟩
end
end VO
