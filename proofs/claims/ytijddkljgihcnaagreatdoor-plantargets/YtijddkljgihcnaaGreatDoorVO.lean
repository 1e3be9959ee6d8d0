/- A part of the proof. -/
import Derived.Test.YtijddkljgihcnaaGreatDoorVC
import Derived.Test.YtijddkljgihcnaaGreatDoorS39
import Derived.Test.YtijddkljgihcnaaGreatDoorS35
namespace VO
open Go Go.Eng Go.Proofs Go.RowKit Go.ChangeShapes Go.WideShapes G1 G3 EV0 S1 S9 S10 S35
set_option maxRecDepth 100000
def Wj:Sp:=.cons (.int .i64) .nil
def C7:Sp:=.cons (.int .i64) (.cons (.int .i64) .nil)
def W7 (t:Sp):Sp:=.cons (.int .i64) (.cons .str (.cons (.int .i64) (.cons (.int .i64) t)))
def Nl:Sp:=.cons .str (.cons (.int .i64) (.cons .str .nil))
def Nn:Sp:=.cons .str .nil
def spO:Sp:=.cons (.slice 1 Wj) (.cons (.slice 1 Nn) .nil)
def Wk:Sp:=.cons .str (.cons (.int .i64) (.cons (.int .i64) (.cons (.slice 2 C7) (.cons (.slice 3 Nl) (.cons (.int .i64) .nil)))))
def Wl:Sp:=.cons .str (.cons (.int .i64) (.cons (.slice 2 C7) (.cons (.slice 3 Nl) (.cons (.int .i64) .nil))))
def Wh:Sp:=.cons .str (.cons (.int .i64) (.cons (.slice 2 C7) (.cons (.int .i64) .nil)))
def Wi:Sp:=.cons .str (.cons .str (.cons .str (.cons (.int .i64) (W7 (.cons (.int .i64) (.cons (.int .i64) (.cons (.int .i64) (.cons (.int .i64) (.cons (.slice 1 Nn) (.cons (.int .i64) (.cons (.int .i64) (.cons .str .nil))))))))))))
def Wm:Sp:=.cons .str (.cons .str (.cons .str (.cons (.int .i64) (.cons (.int .i64) (.cons (.int .i64) .nil)))))
def Oz:Sp:=.cons (.slice 6 Wk) (.cons (.slice 5 Wl) (.cons (.slice 4 Wh) (.cons (.slice 16 Wi) (.cons (.slice 6 Wm) (.cons (.slice 2 C7) (.cons (.slice 2 C7) .nil))))))
theorem sp22:rE Tryz.prog 8 22=some (.cons (.slice 2 spO) .nil):=by kernel_rfl
theorem sp30:rE Tryz.prog 10 30=some Oz:=by kernel_rfl
theorem sp5:rE Tryz.prog 6 5=some (.cons (.int .u8) .nil):=by kernel_rfl
theorem Aa:(reachBytes:Nat)<=4611686018427387904:=by unfold reachBytes; decide
theorem mP {T:Type} [Inhabited T] {sz:Nat} {s:Sp} {g:T->SV} {p:T->Prop} (hg:∀ l,Sh s l->∃ q,p q/\∀ E vs,R E l vs->R E (g q) vs) {a:SV} (h:Sh (.slice sz s) a):∃ x:Sq T,bgQ x p/\∀ E vs,R E a vs->R E (.slice sz x.n fun i=>g (x.f i)) vs:=by
 obtain ⟨n,enc,rfl,hn,hall⟩:=h
 refine ⟨⟨n,fun i=>if hi:i < n then (hg _ (hall i hi)).choose else default⟩,⟨Nat.le_trans hn Aa,fun i hi=>?_⟩,fun E vs hr=>?_⟩
 ·have hi':i < n:=hi
  simp only [hi',dif_pos]
  exact (hg _ (hall i hi')).choose_spec.1
 ·simp only [R] at hr ⊢
  obtain ⟨a,cap,h1,h2,h3⟩:=hr
  refine ⟨a,cap,h1,h2,fun i hi=>?_⟩
  obtain ⟨b,off,cs,e1,e2,e3,e4,e5⟩:=h3 i hi
  refine ⟨b,off,cs,e1,e2,?_,e4,e5⟩
  simp only [hi,dif_pos]
  exact (hg _ (hall i hi)).choose_spec.2 E cs e3
theorem bC {E:Env} {a a' t t':SV} (h1:∀ vs,R E a vs->R E a' vs) (h2:∀ vs,R E t vs->R E t' vs):∀ vs,R E (.cons a t) vs->R E (.cons a' t') vs:=by
 intro vs h
 simp only [R] at h ⊢
 obtain ⟨x,xs,e,k1,k2⟩:=h
 exact ⟨x,xs,e,h1 _ k1,h2 _ k2⟩
theorem O4 {E:Env} {a a':SV} (h:∀ vs,R E a vs->R E a' vs):∀ vs,R E (.agg a) vs->R E (.agg a') vs:=by
 intro vs h1
 simp only [R] at h1 ⊢
 obtain ⟨cs,e,k⟩:=h1
 exact ⟨cs,e,h _ k⟩
theorem id_ {E:Env} (s:SV):∀ vs,R E s vs->R E s vs:=fun _ h=>h
instance:Inhabited Nm:=⟨⟨[],0,[]⟩⟩
instance:Inhabited Of:=⟨⟨⟨0,fun _=>0⟩,⟨0,fun _=>[]⟩⟩⟩
instance:Inhabited Rn:=⟨⟨[],0,0,⟨0,fun _=>(0,0)⟩,⟨0,fun _=>⟨[],0,[]⟩⟩,0⟩⟩
instance:Inhabited Sr:=⟨⟨[],0,⟨0,fun _=>(0,0)⟩,⟨0,fun _=>⟨[],0,[]⟩⟩,0⟩⟩
instance:Inhabited Bu:=⟨⟨[],0,⟨0,fun _=>(0,0)⟩,0⟩⟩
instance:Inhabited Dr:=⟨⟨[],[],[],0,⟨0,[],0,0⟩,(0,0),0,0,⟨0,fun _=>[]⟩,0,0,[]⟩⟩
instance:Inhabited Un:=⟨⟨[],[],[],0,0,0⟩⟩
theorem V7 {l:SV} (h:Sh Wj l):∃ q:Int,True/\∀ E vs,R E l vs->R E (inL q) vs:=by
 obtain ⟨_,_,rfl,⟨x,rfl,_⟩,rfl⟩:=h
 exact ⟨x,trivial,fun _ _ h=>h⟩
theorem Wa {l:SV} (h:Sh C7 l):∃ q:Pt,True/\∀ E vs,R E l vs->R E (ptL q) vs:=by
 obtain ⟨_,_,rfl,⟨x,rfl,_⟩,_,_,rfl,⟨y,rfl,_⟩,rfl⟩:=h
 exact ⟨(x,y),trivial,fun _ _ h=>h⟩
theorem fP {s:B} (h:s.length<=reachBytes):bgT s:=Nat.le_trans h Aa
theorem Wd {l:SV} (h:Sh Nn l):∃ q:B,bgT q/\∀ E vs,R E l vs->R E (stL q) vs:=by
 obtain ⟨_,_,rfl,⟨x,rfl,hx⟩,rfl⟩:=h
 exact ⟨x,fP hx,fun _ _ h=>h⟩
theorem V8 {l:SV} (h:Sh Nl l):∃ q:Nm,bgN q/\∀ E vs,R E l vs->R E (nmL q) vs:=by
 obtain ⟨_,_,rfl,⟨x,rfl,hx⟩,_,_,rfl,⟨y,rfl,_⟩,_,_,rfl,⟨z,rfl,hz⟩,rfl⟩:=h
 exact ⟨⟨x,y,z⟩,⟨fP hx,fP hz⟩,fun _ _ h=>h⟩
theorem tH {a:SV} (h:Sh (.slice 2 C7) a):∃ r:Pts,r.n<=4611686018427387904/\∀ E vs,R E a vs->R E (rgE r) vs:=by
 obtain ⟨x,h1,h2⟩:=mP (g:=ptL) (fun _ h=>Wa h) h
 exact ⟨⟨x.n,x.f⟩,h1.1,h2⟩
theorem J7 {a:SV} (h:Sh (.slice 1 Nn) a):∃ x:Sq B,bgQ x bgT/\∀ E vs,R E a vs->R E (stE x) vs:=mP (g:=stL) (fun _ h=>Wd h) h
theorem J6 {a:SV} (h:Sh (.slice 3 Nl) a):∃ x:Sq Nm,bgQ x bgN/\∀ E vs,R E a vs->R E (nmE x) vs:=mP (g:=nmL) (fun _ h=>V8 h) h
theorem V9 {l:SV} (h:Sh spO l):∃ q:Of,(q.links.n<=4611686018427387904/\bgQ q.codes bgT)/\∀ E vs,R E l vs->R E (ofL q) vs:=by
 obtain ⟨a,_,rfl,ha,b,_,rfl,hb,rfl⟩:=h
 obtain ⟨x,h1,h2⟩:=mP (g:=inL) (fun _ h=>V7 h) ha
 obtain ⟨y,h3,h4⟩:=J7 hb
 exact ⟨⟨x,y⟩,⟨h1.1,h3⟩,fun E=>bC (h2 E) (bC (h4 E) (id_ _))⟩
theorem Sb {a:SV} (h:Sh (.slice 2 spO) a):∃ l:Sq Of,bgO l/\∀ E vs,R E a vs->R E (ofE l) vs:=by
 obtain ⟨x,h1,h2⟩:=mP (g:=ofL) (fun _ h=>V9 h) h
 exact ⟨x,⟨h1.1,fun i hi=>(h1.2 i hi).1,fun i hi=>(h1.2 i hi).2⟩,h2⟩
theorem Wb {l:SV} (h:Sh Wk l):∃ q:Rn,bgR q/\∀ E vs,R E l vs->R E (rnL q) vs:=by
 obtain ⟨_,_,rfl,⟨id,rfl,hid⟩,_,_,rfl,⟨kind,rfl,_⟩,_,_,rfl,⟨owner,rfl,_⟩,ring,_,rfl,hring,names,_,rfl,hnames,_,_,rfl,⟨ended,rfl,_⟩,rfl⟩:=h
 obtain ⟨r,r1,r2⟩:=tH hring
 obtain ⟨n,n1,n2⟩:=J6 hnames
 exact ⟨⟨id,kind,owner,r,n,ended⟩,⟨fP hid,n1,r1⟩,fun E=>bC (id_ _) (bC (id_ _) (bC (id_ _) (bC (r2 E) (bC (n2 E) (id_ _)))))⟩
theorem Wc {l:SV} (h:Sh Wl l):∃ q:Sr,Pn q/\∀ E vs,R E l vs->R E (srL q) vs:=by
 obtain ⟨_,_,rfl,⟨id,rfl,hid⟩,_,_,rfl,⟨owner,rfl,_⟩,ring,_,rfl,hring,names,_,rfl,hnames,_,_,rfl,⟨ended,rfl,_⟩,rfl⟩:=h
 obtain ⟨r,r1,r2⟩:=tH hring
 obtain ⟨n,n1,n2⟩:=J6 hnames
 exact ⟨⟨id,owner,r,n,ended⟩,⟨fP hid,n1,r1⟩,fun E=>bC (id_ _) (bC (id_ _) (bC (r2 E) (bC (n2 E) (id_ _))))⟩
theorem V5 {l:SV} (h:Sh Wh l):∃ q:Bu,bgB q/\∀ E vs,R E l vs->R E (buL q) vs:=by
 obtain ⟨_,_,rfl,⟨id,rfl,hid⟩,_,_,rfl,⟨owner,rfl,_⟩,ring,_,rfl,hring,_,_,rfl,⟨ended,rfl,_⟩,rfl⟩:=h
 obtain ⟨r,r1,r2⟩:=tH hring
 exact ⟨⟨id,owner,r,ended⟩,⟨fP hid,r1⟩,fun E=>bC (id_ _) (bC (id_ _) (bC (r2 E) (id_ _)))⟩
theorem V6 {l:SV} (h:Sh Wi l):∃ q:Dr,bgD q/\∀ E vs,R E l vs->R E (drL q) vs:=by
 obtain ⟨_,_,rfl,⟨id,rfl,hid⟩,_,_,rfl,⟨bld,rfl,hbld⟩,_,_,rfl,⟨str,rfl,hstr⟩,_,_,rfl,⟨owner,rfl,_⟩,_,_,rfl,⟨n,rfl,_⟩,_,_,rfl,⟨s,rfl,hs⟩,_,_,rfl,⟨u,rfl,_⟩,_,_,rfl,⟨d,rfl,_⟩,
  _,_,rfl,⟨x,rfl,_⟩,_,_,rfl,⟨y,rfl,_⟩,_,_,rfl,⟨frm,rfl,_⟩,_,_,rfl,⟨ended,rfl,_⟩,after,_,rfl,hafter,_,_,rfl,⟨why,rfl,_⟩,_,_,rfl,⟨office,rfl,_⟩,_,_,rfl,⟨veil,rfl,hveil⟩,rfl⟩:=h
 obtain ⟨t,t1,t2⟩:=J7 hafter
 exact ⟨⟨id,bld,str,owner,⟨n,s,u,d⟩,(x,y),frm,ended,t,why,office,veil⟩,⟨fP hid,fP hbld,fP hstr,fP hs,fP hveil,t1⟩,
  fun E=>bC (id_ _) (bC (id_ _) (bC (id_ _) (bC (id_ _) (bC (id_ _) (bC (id_ _) (bC (id_ _) (bC (id_ _) (bC (id_ _) (bC (id_ _) (bC (id_ _) (bC (id_ _) (bC (t2 E) (id_ _)))))))))))))⟩
theorem We {l:SV} (h:Sh Wm l):∃ q:Un,bgU q/\∀ E vs,R E l vs->R E (unL q) vs:=by
 obtain ⟨_,_,rfl,⟨id,rfl,hid⟩,_,_,rfl,⟨door,rfl,hdoor⟩,_,_,rfl,⟨txt,rfl,htxt⟩,_,_,rfl,⟨frm,rfl,_⟩,_,_,rfl,⟨ended,rfl,_⟩,_,_,rfl,⟨why,rfl,_⟩,rfl⟩:=h
 exact ⟨⟨id,door,txt,frm,ended,why⟩,⟨fP hid,fP hdoor,fP htxt⟩,fun _ _ h=>h⟩
theorem Sd {l:SV} (h:Sh Oz l):∃ s:Sta,bgS s/\∀ E vs,R E (.agg l) vs->R E (kM s) vs:=by
 obtain ⟨_,_,rfl,h1,_,_,rfl,h2,_,_,rfl,h3,_,_,rfl,h4,_,_,rfl,h5,_,_,rfl,h6,_,_,rfl,h7,rfl⟩:=h
 obtain ⟨a,a1,a2⟩:=mP (g:=rnL) (fun _ h=>Wb h) h1
 obtain ⟨b,b1,b2⟩:=mP (g:=srL) (fun _ h=>Wc h) h2
 obtain ⟨c,c1,c2⟩:=mP (g:=buL) (fun _ h=>V5 h) h3
 obtain ⟨d,d1,d2⟩:=mP (g:=drL) (fun _ h=>V6 h) h4
 obtain ⟨e,e1,e2⟩:=mP (g:=unL) (fun _ h=>We h) h5
 obtain ⟨f,f1,f2⟩:=tH h6
 obtain ⟨g,g1,g2⟩:=tH h7
 exact ⟨⟨a,b,c,d,e,f,g⟩,⟨a1,b1,c1,d1,e1,f1,g1⟩,fun E=>O4 (bC (a2 E) (bC (b2 E) (bC (c2 E) (bC (d2 E) (bC (e2 E) (bC (f2 E) (bC (g2 E) (id_ _)))))))) ⟩
theorem wf_u8 {m:Int} (h:(Lit.int .u8 m).wf=true):0<=m/\m<=255:=by
 simp only [Lit.wf,Bool.and_eq_true,decide_eq_true_eq] at h
 have e1:IntKind.min .u8=0:=rfl
 have e2:IntKind.max .u8=255:=rfl
 omega
section
variable {H:Type} {enc:TypeId×Value->H} {W:World} {base:Nat} {sp:Nat->Bool} {held:Bool} {r:Reach} {b0:Nat} {v:Value} {d:DataW H} {ps:List MemPlace}
theorem open22 (hval:Value.okWide Tryz.prog W r b0 22 v) (hd:DataW.Trod enc Tryz.prog W base sp held 22 v d ps) (hw:Light Tryz.prog 22 d):∃ l:Sq Of,R (eM (Wall W) W) (ofE l) [v]/\bgO l:=by
 obtain ⟨a,h1,h2⟩:=Dp sp22 ⟨fun fs e=>by rw [Tryz.underlying22] at e; (cases e),fun m k e=>by rw [Tryz.underlying22] at e; (cases e)⟩ hval hd hw
 obtain ⟨l,hb,hr⟩:=Sb h1
 exact ⟨l,hr _ _ h2,hb⟩
theorem open30 (hval:Value.okWide Tryz.prog W r b0 30 v) (hd:DataW.Trod enc Tryz.prog W base sp held 30 v d ps) (hw:Light Tryz.prog 30 d):∃ s:Sta,R (eM (Wall W) W) (kM s) [v]/\bgS s:=by
 obtain ⟨l,h1,h2⟩:=Ll (.inl ⟨_,Tryz.underlying30⟩) sp30 hval hd hw
 obtain ⟨s,hb,hr⟩:=Sd h1
 exact ⟨s,hr _ _ h2,hb⟩
theorem open5 (hval:Value.okWide Tryz.prog W r b0 5 v) (hd:DataW.Trod enc Tryz.prog W base sp held 5 v d ps) (hw:Light Tryz.prog 5 d):∃ m:Int,R (eM (Wall W) W) (.int .u8 m) [v]/\0<=m/\m<=255:=by
 obtain ⟨a,h1,h2⟩:=Dp sp5 ⟨fun fs e=>by rw [Tryz.underlying5] at e; (cases e),fun m k e=>by rw [Tryz.underlying5] at e; (cases e)⟩ hval hd hw
 obtain ⟨m,rfl,hw⟩:=h1
 exact ⟨m,h2,wf_u8 hw⟩
end
theorem vP {f:Nat} {S:Eng.Spec} (hS:S.Ok Tryz.prog f) {W:World} {vs:List Value} {x:S.X} (hg:GV W) (hx:S.pre x) (hr:R (eM (Wall W) W) (S.args x) vs) (hres:S.res x=.bool true) :
  Calls Tryz.prog f vs.toArray W fun e W'=>e=.returned (.bool true)/\Eng.Below W.heap.size W W':=by
 refine (hS.does x W vs (Wall W) (fun b hb=>hb) hg hx hr).mono ?_
 intro e W' he
 cases e with
 | returned v =>
  obtain ⟨h1,h2⟩:=he
  rw [hres] at h1
  simp only [R] at h1
  exact ⟨by rw [List.singleton_inj.1 h1],h2⟩
 | panicked _=>exact he.elim
 | outgrown=>exact he.elim
section
variable {H:Type} {enc:TypeId×Value->H} {P:Program} {w:World} {base:Nat} {spare:Nat->Bool} {held:Bool}
theorem Gm {t1 t2 t3:TypeId} {args:Array Value} {ds:List (DataW H)} {ps:List MemPlace} (h:DataW.TrodAll enc P w base spare held [t1,t2,t3] args.toList ds ps) :
  ∃ v1 v2 v3 d1 d2 d3 p1 p2 p3,args=#[v1,v2,v3]/\ds=[d1,d2,d3]/\DataW.Trod enc P w base spare held t1 v1 d1 p1/\DataW.Trod enc P w base spare held t2 v2 d2 p2/\DataW.Trod enc P w base spare held t3 v3 d3 p3:=by
 obtain ⟨v1,vs1,d1,ds1,p1,q1,hargs,rfl,rfl,h1,r1⟩:=trodAll_cons h
 obtain ⟨v2,vs2,d2,ds2,p2,q2,rfl,rfl,rfl,h2,r2⟩:=trodAll_cons r1
 obtain ⟨v3,vs3,d3,ds3,p3,q3,rfl,rfl,rfl,h3,r3⟩:=trodAll_cons r2
 obtain ⟨rfl,rfl,rfl⟩:=trodAll_nil r3
 exact ⟨v1,v2,v3,d1,d2,d3,p1,p2,p3,by cases args; simp_all,rfl,h1,h2,h3⟩
end
end VO
