/- A part of the proof. -/
import Derived.Test.YtpiolkcdfgiefaaGreatDoorVC
import Derived.Test.YtpiolkcdfgiefaaGreatDoorT25
namespace VO
open Go Go.Eng Go.Proofs Go.RowKit Go.ChangeShapes Go.WideShapes T1 T10 T11 T23 T24
set_option maxRecDepth 100000
def Vy:Sp:=.cons .bool (.cons .str (.cons .str .nil))
theorem sp22:Ah Tryz.prog 8 22=some (.cons (.slice 3 Vy) .nil):=by kernel_rfl
theorem Ch:(reachBytes:Nat) < 4611686018427387904:=by unfold reachBytes; decide
theorem P7 {T:Type} {d:T} {sz:Nat} {s:Sp} {g:T->SV} {p:T->Prop} (hg:∀ l,Sh s l->∃ q,p q/\∀ E vs,R E l vs->R E (g q) vs) {a:SV} (h:Sh (.slice sz s) a) :
  ∃ x:List T,(x.length < 4611686018427387904/\∀ j,j < x.length->p (x.getD j d))/\∀ E vs,R E a vs->R E (.slice sz x.length fun i=>g (x.getD i d)) vs:=by
 obtain ⟨n,enc,rfl,hn,hall⟩:=h
 refine ⟨(List.range n).map (fun i=>if hi:i < n then (hg _ (hall i hi)).choose else d),?_,?_⟩
 ·rw [List.length_map,List.length_range]
  refine ⟨Nat.lt_of_le_of_lt hn Ch,fun j hj=>?_⟩
  rw [List.getD_eq_getElem?_getD,List.getElem?_map,List.getElem?_range hj]
  simp only [Option.map_some,Option.getD_some,hj,dif_pos]
  exact (hg _ (hall j hj)).choose_spec.1
 ·intro E vs hr
  rw [List.length_map,List.length_range]
  simp only [R] at hr ⊢
  obtain ⟨a,cap,h1,h2,h3⟩:=hr
  refine ⟨a,cap,h1,h2,fun i hi=>?_⟩
  obtain ⟨b,off,cs,e1,e2,e3,e4,e5⟩:=h3 i hi
  refine ⟨b,off,cs,e1,e2,?_,e4,e5⟩
  rw [List.getD_eq_getElem?_getD,List.getElem?_map,List.getElem?_range hi]
  simp only [Option.map_some,Option.getD_some,hi,dif_pos]
  exact (hg _ (hall i hi)).choose_spec.2 E cs e3
def bgK (k:Ky):Prop:=k.1.length < 4611686018427387904
theorem Wh {s:B} (h:s.length<=reachBytes):s.length < 4611686018427387904:=Nat.lt_of_le_of_lt h Ch
theorem Vx {l:SV} (h:Sh Vy l):∃ q:Ac,bgK q.2/\∀ E vs,R E l vs->R E (J5 q) vs:=by
 obtain ⟨_,_,rfl,⟨b,rfl⟩,_,_,rfl,⟨x,rfl,hx⟩,_,_,rfl,⟨y,rfl,hy⟩,rfl⟩:=h
 exact ⟨(b,x,y),Wh hx,fun _ _ h=>h⟩
section
variable {H:Type} {enc:TypeId×Value->H} {W:World} {base:Nat} {sp:Nat->Bool} {held:Bool} {r:Reach} {b0:Nat} {v:Value} {d:DataW H} {ps:List MemPlace}
theorem open22 (hval:Value.okWide Tryz.prog W r b0 22 v) (hd:DataW.Trod enc Tryz.prog W base sp held 22 v d ps) (hw:Light Tryz.prog 22 d):∃ l:List Ac,R (eN (Wall W) W) (acE l) [v]/\l.length < 4611686018427387904/\∀ j,j < l.length->(l.getD j a0).2.1.length < 4611686018427387904:=by
 obtain ⟨a,h1,h2⟩:=Oe sp22 ⟨fun fs e=>by rw [Tryz.underlying22] at e; (cases e),fun m k e=>by rw [Tryz.underlying22] at e; (cases e)⟩ hval hd hw
 obtain ⟨l,hb,hr⟩:=P7 (d:=a0) (g:=J5) (fun _ h=>Vx h) h1
 exact ⟨l,hr _ _ h2,hb⟩
end
theorem yL {f:Nat} {S:Eng.Spec} (hS:S.Ok Tryz.prog f) {W:World} {vs:List Value} {x:S.X} (hg:GV W) (hx:S.pre x) (hr:R (eN (Wall W) W) (S.args x) vs) (hres:S.res x=.bool true) :
  Calls Tryz.prog f vs.toArray W fun e W'=>e=.returned (.bool true)/\Eng.Below W.heap.size W W':=by
 refine (hS.does x W vs (Wall W) (fun b hb=>hb) hg hx hr).mono ?_
 intro e W' he
 cases e with
 | returned v =>
  obtain ⟨h1,h2⟩:=he
  rw [hres] at h1
  simp only [R] at h1
  exact ⟨by rw [List.singleton_inj.1 h1],h2⟩
 | panicked _=>exact he.elim
 | outgrown=>exact he.elim
section
variable {H:Type} {enc:TypeId×Value->H} {P:Program} {w:World} {base:Nat} {spare:Nat->Bool} {held:Bool}
theorem Ju {t:TypeId} {args:Array Value} {ds:List (DataW H)} {ps:List MemPlace} (h:DataW.TrodAll enc P w base spare held [t] args.toList ds ps) :
  ∃ v d,args=#[v]/\ds=[d]/\DataW.Trod enc P w base spare held t v d ps:=by
 obtain ⟨v,vs,d,ds1,p,q,hargs,rfl,rfl,hd,hrest⟩:=trodAll_cons h
 obtain ⟨rfl,rfl,rfl⟩:=trodAll_nil hrest
 exact ⟨v,d,by cases args; simp_all,rfl,by simpa using hd⟩
end
end VO
