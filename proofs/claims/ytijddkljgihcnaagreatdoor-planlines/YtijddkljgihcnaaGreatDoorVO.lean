/- A part of the proof. -/
import Derived.Test.YtijddkljgihcnaaGreatDoorVC
import Derived.Test.YtijddkljgihcnaaGreatDoorS39
import Derived.Test.YtijddkljgihcnaaGreatDoorS35
namespace VO
open Go Go.Eng Go.Proofs Go.RowKit Go.ChangeShapes Go.WideShapes G1 G3 EV0 S1 S9 S10 S35
set_option maxRecDepth 100000
def Us:Sp:=.cons (.int .i64) .nil
def Qy:Sp:=.cons .str .nil
def spO:Sp:=.cons (.slice 1 Us) (.cons (.slice 1 Qy) .nil)
theorem sp22:tD Tryz.prog 8 22=some (.cons (.slice 2 spO) .nil):=by kernel_rfl
theorem sp5:tD Tryz.prog 6 5=some (.cons (.int .u8) .nil):=by kernel_rfl
theorem yZ:(reachBytes:Nat)<=4611686018427387904:=by unfold reachBytes; decide
theorem I7 {T:Type} [Inhabited T] {sz:Nat} {s:Sp} {g:T->SV} {p:T->Prop} (hg:∀ l,Sh s l->∃ q,p q/\∀ E vs,R E l vs->R E (g q) vs) {a:SV} (h:Sh (.slice sz s) a):∃ x:Sq T,bgQ x p/\∀ E vs,R E a vs->R E (.slice sz x.n fun i=>g (x.f i)) vs:=by
 obtain ⟨n,enc,rfl,hn,hall⟩:=h
 refine ⟨⟨n,fun i=>if hi:i < n then (hg _ (hall i hi)).choose else default⟩,⟨Nat.le_trans hn yZ,fun i hi=>?_⟩,fun E vs hr=>?_⟩
 ·have hi':i < n:=hi
  simp only [hi',dif_pos]
  exact (hg _ (hall i hi')).choose_spec.1
 ·simp only [R] at hr ⊢
  obtain ⟨a,cap,h1,h2,h3⟩:=hr
  refine ⟨a,cap,h1,h2,fun i hi=>?_⟩
  obtain ⟨b,off,cs,e1,e2,e3,e4,e5⟩:=h3 i hi
  refine ⟨b,off,cs,e1,e2,?_,e4,e5⟩
  simp only [hi,dif_pos]
  exact (hg _ (hall i hi)).choose_spec.2 E cs e3
theorem Co {E:Env} {a a' t t':SV} (h1:∀ vs,R E a vs->R E a' vs) (h2:∀ vs,R E t vs->R E t' vs):∀ vs,R E (.cons a t) vs->R E (.cons a' t') vs:=by
 intro vs h
 simp only [R] at h ⊢
 obtain ⟨x,xs,e,k1,k2⟩:=h
 exact ⟨x,xs,e,h1 _ k1,h2 _ k2⟩
theorem id_ {E:Env} (s:SV):∀ vs,R E s vs->R E s vs:=fun _ h=>h
instance:Inhabited Nm:=⟨⟨[],0,[]⟩⟩
instance:Inhabited Of:=⟨⟨⟨0,fun _=>0⟩,⟨0,fun _=>[]⟩⟩⟩
instance:Inhabited Rn:=⟨⟨[],0,0,⟨0,fun _=>(0,0)⟩,⟨0,fun _=>⟨[],0,[]⟩⟩,0⟩⟩
instance:Inhabited Sr:=⟨⟨[],0,⟨0,fun _=>(0,0)⟩,⟨0,fun _=>⟨[],0,[]⟩⟩,0⟩⟩
instance:Inhabited Bu:=⟨⟨[],0,⟨0,fun _=>(0,0)⟩,0⟩⟩
instance:Inhabited Dr:=⟨⟨[],[],[],0,⟨0,[],0,0⟩,(0,0),0,0,⟨0,fun _=>[]⟩,0,0,[]⟩⟩
instance:Inhabited Un:=⟨⟨[],[],[],0,0,0⟩⟩
theorem Um {l:SV} (h:Sh Us l):∃ q:Int,True/\∀ E vs,R E l vs->R E (inL q) vs:=by
 obtain ⟨_,_,rfl,⟨x,rfl,_⟩,rfl⟩:=h
 exact ⟨x,trivial,fun _ _ h=>h⟩
theorem U9 {s:B} (h:s.length<=reachBytes):bgT s:=Nat.le_trans h yZ
theorem Up {l:SV} (h:Sh Qy l):∃ q:B,bgT q/\∀ E vs,R E l vs->R E (stL q) vs:=by
 obtain ⟨_,_,rfl,⟨x,rfl,hx⟩,rfl⟩:=h
 exact ⟨x,U9 hx,fun _ _ h=>h⟩
theorem Qx {a:SV} (h:Sh (.slice 1 Qy) a):∃ x:Sq B,bgQ x bgT/\∀ E vs,R E a vs->R E (stE x) vs:=I7 (g:=stL) (fun _ h=>Up h) h
theorem Uo {l:SV} (h:Sh spO l):∃ q:Of,(q.links.n<=4611686018427387904/\bgQ q.codes bgT)/\∀ E vs,R E l vs->R E (ofL q) vs:=by
 obtain ⟨a,_,rfl,ha,b,_,rfl,hb,rfl⟩:=h
 obtain ⟨x,h1,h2⟩:=I7 (g:=inL) (fun _ h=>Um h) ha
 obtain ⟨y,h3,h4⟩:=Qx hb
 exact ⟨⟨x,y⟩,⟨h1.1,h3⟩,fun E=>Co (h2 E) (Co (h4 E) (id_ _))⟩
theorem Qv {a:SV} (h:Sh (.slice 2 spO) a):∃ l:Sq Of,bgO l/\∀ E vs,R E a vs->R E (ofE l) vs:=by
 obtain ⟨x,h1,h2⟩:=I7 (g:=ofL) (fun _ h=>Uo h) h
 exact ⟨x,⟨h1.1,fun i hi=>(h1.2 i hi).1,fun i hi=>(h1.2 i hi).2⟩,h2⟩
theorem wf_u8 {m:Int} (h:(Lit.int .u8 m).wf=true):0<=m/\m<=255:=by
 simp only [Lit.wf,Bool.and_eq_true,decide_eq_true_eq] at h
 have e1:IntKind.min .u8=0:=rfl
 have e2:IntKind.max .u8=255:=rfl
 omega
section
variable {H:Type} {enc:TypeId×Value->H} {W:World} {base:Nat} {sp:Nat->Bool} {held:Bool} {r:Reach} {b0:Nat} {v:Value} {d:DataW H} {ps:List MemPlace}
theorem open22 (hval:Value.okWide Tryz.prog W r b0 22 v) (hd:DataW.Trod enc Tryz.prog W base sp held 22 v d ps) (hw:Light Tryz.prog 22 d):∃ l:Sq Of,R (eP (Wall W) W) (ofE l) [v]/\bgO l:=by
 obtain ⟨a,h1,h2⟩:=Cr sp22 ⟨fun fs e=>by rw [Tryz.underlying22] at e; (cases e),fun m k e=>by rw [Tryz.underlying22] at e; (cases e)⟩ hval hd hw
 obtain ⟨l,hb,hr⟩:=Qv h1
 exact ⟨l,hr _ _ h2,hb⟩
theorem open5 (hval:Value.okWide Tryz.prog W r b0 5 v) (hd:DataW.Trod enc Tryz.prog W base sp held 5 v d ps) (hw:Light Tryz.prog 5 d):∃ m:Int,R (eP (Wall W) W) (.int .u8 m) [v]/\0<=m/\m<=255:=by
 obtain ⟨a,h1,h2⟩:=Cr sp5 ⟨fun fs e=>by rw [Tryz.underlying5] at e; (cases e),fun m k e=>by rw [Tryz.underlying5] at e; (cases e)⟩ hval hd hw
 obtain ⟨m,rfl,hw⟩:=h1
 exact ⟨m,h2,wf_u8 hw⟩
end
theorem uR {f:Nat} {S:Eng.Spec} (hS:S.Ok Tryz.prog f) {W:World} {vs:List Value} {x:S.X} (hg:GV W) (hx:S.pre x) (hr:R (eP (Wall W) W) (S.args x) vs) (hres:S.res x=.bool true) :
  Calls Tryz.prog f vs.toArray W fun e W'=>e=.returned (.bool true)/\Eng.Below W.heap.size W W':=by
 refine (hS.does x W vs (Wall W) (fun b hb=>hb) hg hx hr).mono ?_
 intro e W' he
 cases e with
 | returned v =>
  obtain ⟨h1,h2⟩:=he
  rw [hres] at h1
  simp only [R] at h1
  exact ⟨by rw [List.singleton_inj.1 h1],h2⟩
 | panicked _=>exact he.elim
 | outgrown=>exact he.elim
section
variable {H:Type} {enc:TypeId×Value->H} {P:Program} {w:World} {base:Nat} {spare:Nat->Bool} {held:Bool}
theorem Fg {t1 t2 t3 t4:TypeId} {args:Array Value} {ds:List (DataW H)} {ps:List MemPlace} (h:DataW.TrodAll enc P w base spare held [t1,t2,t3,t4] args.toList ds ps) :
  ∃ v1 v2 v3 v4 d1 d2 d3 d4 p1 p2 p3 p4,args=#[v1,v2,v3,v4]/\ds=[d1,d2,d3,d4]/\DataW.Trod enc P w base spare held t1 v1 d1 p1/\DataW.Trod enc P w base spare held t2 v2 d2 p2/\DataW.Trod enc P w base spare held t3 v3 d3 p3/\DataW.Trod enc P w base spare held t4 v4 d4 p4:=by
 obtain ⟨v1,vs1,d1,ds1,p1,q1,hargs,rfl,rfl,h1,r1⟩:=trodAll_cons h
 obtain ⟨v2,vs2,d2,ds2,p2,q2,rfl,rfl,rfl,h2,r2⟩:=trodAll_cons r1
 obtain ⟨v3,vs3,d3,ds3,p3,q3,rfl,rfl,rfl,h3,r3⟩:=trodAll_cons r2
 obtain ⟨v4,vs4,d4,ds4,p4,q4,rfl,rfl,rfl,h4,r4⟩:=trodAll_cons r3
 obtain ⟨rfl,rfl,rfl⟩:=trodAll_nil r4
 exact ⟨v1,v2,v3,v4,d1,d2,d3,d4,p1,p2,p3,p4,by cases args; simp_all,rfl,h1,h2,h3,h4⟩
end
end VO
