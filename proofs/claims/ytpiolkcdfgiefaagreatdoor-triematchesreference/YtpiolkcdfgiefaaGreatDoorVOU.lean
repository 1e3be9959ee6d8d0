/- A part of the proof. -/
import Derived.Test.YtpiolkcdfgiefaaGreatDoorVCU
import Derived.Test.YtpiolkcdfgiefaaGreatDoorT28
set_option maxHeartbeats 10000000
namespace VOU
open Go Go.Eng Go.Proofs Go.RowKit Go.ChangeShapes Go.WideShapes T1 T10 T11 T23 T24
set_option maxRecDepth 100000
def aF5:Sp:=.cons .str (.cons .str .nil)
def aF4:Sp:=.cons .bool (.cons .str (.cons .str .nil))
theorem sp29:yV Tryz.prog 8 29=some (.cons (.slice 2 aF5) .nil):=by kernel_rfl
theorem sp22:yV Tryz.prog 8 22=some (.cons (.slice 3 aF4) .nil):=by kernel_rfl
def aF6:Sp:=.cons (.slice 1 (.cons .str .nil)) (.cons .str (.cons (.slice 1 (.cons .str .nil)) .nil))
theorem sp39:yV Tryz.prog 8 39=some aF6:=by kernel_rfl
theorem sp9:yV Tryz.prog 6 9=some (.cons .str .nil):=by kernel_rfl
theorem zO{T:Type}{d:T}{sz:Nat}{s:Sp}{g:T->SV}{p:T->Prop}(hg:∀l,Sh s l->∃q,p q/\∀E vs,R E l vs->R E (g q) vs){a:SV}(h:Sh (.slice sz s) a) :
  ∃x:List T,(x.length<=1048576/\∀j,j<x.length->p (x.getD j d))/\∀E vs,R E a vs->R E (.slice sz x.length λi=>g (x.getD i d)) vs:=by
 obtain⟨n,enc,rfl,hn,hall⟩:=h;refine⟨(List.range n).map (λi=>if hi:i<n then (hg _ (hall i hi)).choose else d),?_,?_⟩
 .grind
 .intro E vs hr;rw[cS,kX];simp only[R]at hr ⊢;obtain⟨a,cap,h1,h2,h3⟩:=hr;refine⟨a,cap,h1,h2,λi hi=>?_⟩;obtain⟨b,off,cs,e1,e2,e3,e4,e5⟩:=h3 i hi;refine⟨b,off,cs,e1,e2,?_,e4,e5⟩
  grind
def bgK(k:Ky):Prop:=k.1.length<=1048576/\k.2.length<=1048576
theorem aF1{l:SV}(h:Sh aF5 l):∃q:Ky,bgK q/\∀E vs,R E l vs->R E (jN q) vs:=by
 obtain⟨_,_,rfl,⟨x,rfl,hx⟩,_,_,rfl,⟨y,rfl,hy⟩,rfl⟩:=h;exact⟨(x,y),⟨hx,hy⟩,λ_ _ h=>h⟩
theorem aF0{l:SV}(h:Sh aF4 l):∃q:Ac,bgK q.2/\∀E vs,R E l vs->R E (Qj q) vs:=by
 obtain⟨_,_,rfl,⟨b,rfl⟩,_,_,rfl,⟨x,rfl,hx⟩,_,_,rfl,⟨y,rfl,hy⟩,rfl⟩:=h;exact⟨(b,x,y),⟨hx,hy⟩,λ_ _ h=>h⟩
theorem aF3{l:SV}(h:Sh (.cons .str .nil) l):∃q:B,q.length<=1048576/\∀E vs,R E l vs->R E (.cons (.str q) .nil) vs:=by
 obtain⟨_,_,rfl,⟨x,rfl,hx⟩,rfl⟩:=h
 grind
theorem aF2{l:SV}(h:Sh aF6 l):∃n:ND,(n.ids.length<=1048576/\n.bys.length<=1048576/\n.kids.length<=1048576/\(∀s∈n.ids,s.length<=1048576)/\∀s∈n.kids,s.length<=1048576)/\∀E vs,R E l vs->R E (ndL n) vs:=by
 obtain⟨_,_,rfl,h1,_,_,rfl,⟨b,rfl,hb⟩,_,_,rfl,h3,rfl⟩:=h;obtain⟨i,⟨i1,i2⟩,i3⟩:=zO (d:=[]) (g:=λs=>.cons (.str s) .nil) (λ_ h=>aF3 h) h1;obtain⟨k,⟨k1,k2⟩,k3⟩:=zO (d:=[]) (g:=λs=>.cons (.str s) .nil) (λ_ h=>aF3 h) h3;have al:∀(l:List B),(∀j,j<l.length->(l.getD j []).length<=1048576)->∀s∈l,s.length<=1048576:=by
  intro l h s hs;obtain⟨j,hj,rfl⟩:=bG hs
  grind
 refine⟨⟨i,b,k⟩,⟨i1,hb,k1,al i i2,al k k2⟩,λE vs h=>?_⟩;simp only[R,ndL]at h ⊢;obtain⟨x,xs,e,hx,y,ys,e2,hy,z,zs,e3,hz,e4⟩:=h;exact⟨x,xs,e,i3 _ _ hx,y,ys,e2,hy,z,zs,e3,k3 _ _ hz,e4⟩
section
variable {H:Type} {enc:TypeId×Value->H} {W:World} {base:Nat} {sp:Nat->Bool} {held:Bool} {r:Reach} {b0:Nat} {v:Value} {d:DataW H} {ps:List MemPlace}
theorem open29(hval:Value.okWide Tryz.prog W r b0 29 v)(hd:DataW.Trod enc Tryz.prog W base sp held 29 v d ps)(hw:Light d):∃l:List Ky,R (iV (Wall W) W) (ksE l) [v]/\l.length<=1048576/\∀j,j<l.length->bgK (l.getD j k0):=by
 obtain⟨a,h1,h2⟩:=Dc sp29 (λfs e=>by rw[Tryz.underlying29]at e; cases e) hval hd hw;obtain⟨l,hb,hr⟩:=zO (d:=k0) (g:=jN) (λ_ h=>aF1 h) h1;exact⟨l,hr _ _ h2,hb⟩
theorem open22(hval:Value.okWide Tryz.prog W r b0 22 v)(hd:DataW.Trod enc Tryz.prog W base sp held 22 v d ps)(hw:Light d):∃l:List Ac,R (iV (Wall W) W) (acE l) [v]/\l.length<=1048576/\∀j,j<l.length->bgK (l.getD j a0).2:=by
 obtain⟨a,h1,h2⟩:=Dc sp22 (λfs e=>by rw[Tryz.underlying22]at e; cases e) hval hd hw;obtain⟨l,hb,hr⟩:=zO (d:=a0) (g:=Qj) (λ_ h=>aF0 h) h1;exact⟨l,hr _ _ h2,hb⟩
theorem open39(hval:Value.okWide Tryz.prog W r b0 39 v)(hd:DataW.Trod enc Tryz.prog W base sp held 39 v d ps)(hw:Light d):∃n:ND,R (iV (Wall W) W) (.agg (ndL n)) [v]/\(n.ids.length<=1048576/\n.bys.length<=1048576/\n.kids.length<=1048576/\(∀s∈n.ids,s.length<=1048576)/\∀s∈n.kids,s.length<=1048576):=by
 obtain⟨l,h1,h2⟩:=Vy ⟨_,Tryz.underlying39⟩ sp39 hval hd hw
 grind[aF2,R]
theorem open9(hval:Value.okWide Tryz.prog W r b0 9 v)(hd:DataW.Trod enc Tryz.prog W base sp held 9 v d ps)(hw:Light d):∃m:B,R (iV (Wall W) W) (.str m) [v]/\m.length<=1048576:=by
 obtain⟨a,h1,h2⟩:=Dc sp9 (λfs e=>by rw[Tryz.underlying9]at e; cases e) hval hd hw;obtain⟨m,rfl,hw⟩:=h1
 grind
end
theorem Dm{f:Nat}{S:Eng.Spec}(hS:S.Ok Tryz.prog f){W:World}{vs:List Value}{x:S.X}(hg:GV W)(hx:S.pre x)(hr:R (iV (Wall W) W) (S.args x) vs)(hres:S.res x=.bool true) :
  Calls Tryz.prog f vs.toArray W λe W'=>e=.returned (.bool true)/\Eng.Below W.heap.size W W':=by
 refine(hS.does x W vs (Wall W) (λb hb=>hb) hg hx hr).mono ?_
 grind[R]
section
variable {H:Type} {enc:TypeId×Value->H} {P:Program} {w:World} {base:Nat} {spare:Nat->Bool} {held:Bool}
theorem P4{t1 t2 t3 t4:TypeId}{args:Array Value}{ds:List (DataW H)}{ps:List MemPlace}(h:DataW.TrodAll enc P w base spare held [t1,t2,t3,t4] args.toList ds ps) :
  ∃v1 v2 v3 v4 d1 d2 d3 d4 p1 p2 p3 p4,args=#[v1,v2,v3,v4]/\ds=[d1,d2,d3,d4]/\DataW.Trod enc P w base spare held t1 v1 d1 p1/\DataW.Trod enc P w base spare held t2 v2 d2 p2/\DataW.Trod enc P w base spare held t3 v3 d3 p3/\DataW.Trod enc P w base spare held t4 v4 d4 p4:=by
 obtain⟨v1,vs1,d1,ds1,p1,q1,hargs,rfl,rfl,h1,r1⟩:=trodAll_cons h;obtain⟨v2,vs2,d2,ds2,p2,q2,rfl,rfl,rfl,h2,r2⟩:=trodAll_cons r1;obtain⟨v3,vs3,d3,ds3,p3,q3,rfl,rfl,rfl,h3,r3⟩:=trodAll_cons r2;obtain⟨v4,vs4,d4,ds4,p4,q4,rfl,rfl,rfl,h4,r4⟩:=trodAll_cons r3;obtain⟨rfl,rfl,rfl⟩:=trodAll_nil r4
 grind
end
end VOU
