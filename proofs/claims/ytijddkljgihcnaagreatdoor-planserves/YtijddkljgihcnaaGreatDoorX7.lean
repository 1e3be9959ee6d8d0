/- A part of the proof. -/
import Derived.Test.YtijddkljgihcnaaGreatDoorS39
import Derived.Test.YtijddkljgihcnaaGreatDoorVO
section
open G4 G7 EV0 B1 B2 B3 S1 S4 S5 S6 S7 S8 S9 PL
namespace PL2
attribute [local irreducible] dst
theorem V1 {l:Sq Of} {c:B} (h:svI l c=-1):∀ i,i < l.n->lJ l c i=false:=by
 intro i hi
 cases ho:orB (lJ l c) l.n with
 | false=>exact bF.1 ho i hi
 | true =>
  exfalso
  have key:∀ n,orB (lJ l c) n=true->0<=aW (lJ l c) n:=by
   intro n
   induction n with
   | zero=>intro h; cases h
   | succ n ih =>
    intro h
    unfold aW
    split
    ·rename_i h; exact h
    ·rename_i h2
     unfold orB at h
     rw [Bool.or_eq_true] at h
     rcases h with h|h
     ·exact absurd (ih h) h2
     ·rw [if_pos h]; omega
  have:=key _ ho
  unfold svI at h
  omega
theorem Vs {l:Sq Of} {c:B} (h:svI l c≠-1):∃ i:Nat,svI l c=(i:Int)/\i < l.n/\lJ l c i=true/\∀ j,j < i->lJ l c j=false:=by
 have key:∀ n,aW (lJ l c) n≠-1->∃ i:Nat,aW (lJ l c) n=(i:Int)/\i < n/\lJ l c i=true/\∀ j,j < i->lJ l c j=false:=by
  intro n
  induction n with
  | zero=>intro h; exact absurd rfl h
  | succ n ih =>
   intro h
   unfold aW at h ⊢
   split at h
   ·rename_i h2
    rw [if_pos h2]
    obtain ⟨i,h3,h4,h5⟩:=ih (by omega)
    exact ⟨i,h3,by omega,h5⟩
   ·rename_i h2
    rw [if_neg h2]
    split at h
    ·rename_i h3
     rw [if_pos h3]
     refine ⟨n,rfl,by omega,h3,fun j hj=>?_⟩
     cases hc:lJ l c j with
     | false=>rfl
     | true =>
      exfalso
      apply h2
      by_cases ho:orB (lJ l c) n=true
      ·have:aW (lJ l c) n≠-1:=fun e=>by
        have:=bV (f:=lJ l c) (n:=n)
        have k2:∀ n,orB (lJ l c) n=true->0<=aW (lJ l c) n:=by
         intro n
         induction n with
         | zero=>intro h; cases h
         | succ n ih =>
          intro h
          unfold aW
          split
          ·rename_i h; exact h
          ·rename_i h2
           unfold orB at h
           rw [Bool.or_eq_true] at h
           rcases h with h|h
           ·exact absurd (ih h) h2
           ·rw [if_pos h]; omega
        have:=k2 n ho
        omega
       obtain ⟨i,h3,_⟩:=ih this
       omega
      ·exact absurd (aP.2 ⟨j,hj,hc⟩) ho
    ·exact absurd rfl h
 exact key _ h
def noC (l:Sq Of) (n:Nat):Sq Of:=⟨l.n,fun i=>if i=n then ⟨(l.f n).links,⟨0,fun _=>[]⟩⟩ else l.f i⟩
theorem Vp (l:Sq Of) (n i:Nat):((noC l n).f i).links=(l.f i).links:=by
 show (if i=n then (⟨(l.f n).links,⟨0,fun _=>[]⟩⟩:Of) else l.f i).links=_
 split
 ·rename_i e; rw [e]
 ·rfl
theorem V5 (l:Sq Of) (n:Nat):EO (noC l n)=EO l:=by
 funext i k
 unfold EO
 rw [Vp]
 rfl
theorem V6 {l:Sq Of} (h:vdV l=true) (n:Nat):vdV (noC l n)=true:=by
 have v:=pM.1 h
 refine pM.2 (Vd.mk' v.n1 v.n64 ?_ ?_ ?_ ?_ ?_)
 ·intro i hi; rw [Vp]; exact fun j hj=>(v.lk i hi j hj).1
 ·intro i k e; rw [V5] at e ⊢; exact ⟨v.lt e,fun h=>v.irr (h ▸ e),v.sym e⟩
 ·intro i hi
  show orB (coB (if i=n then (⟨(l.f n).links,⟨0,fun _=>[]⟩⟩:Of) else l.f i).codes) (if i=n then (⟨(l.f n).links,⟨0,fun _=>[]⟩⟩:Of) else l.f i).codes.n=false
  split
  ·rfl
  ·exact v.co i hi
 ·intro i hi h0; rw [Vp]; exact v.one i hi h0
 ·intro i hi; rw [V5]; exact v.con i hi
theorem Wa {l:Sq Of} {c:B} {n:Nat} (h:svI l c=(n:Int)):svI (noC l n) c=-1\/(n:Int) < svI (noC l n) c:=by
 by_cases e:svI (noC l n) c=-1
 ·exact .inl e
 ·right
  obtain ⟨i,h1,h2,h3,h4⟩:=Vs e
  obtain ⟨j,g1,g2,g3,g4⟩:=Vs (l:=l) (c:=c) (by omega)
  rw [h1]
  apply Classical.byContradiction
  intro hn
  have hij:j=n:=by omega
  subst hij
  by_cases e2:i=j
  ·subst e2
   unfold lJ at h3
   obtain ⟨q,q1,_⟩:=of_decide_eq_true h3
   have:((noC l i).f i).codes.n=0:=by
    show (if i=i then (⟨(l.f i).links,⟨0,fun _=>[]⟩⟩:Of) else l.f i).codes.n=0
    rw [if_pos rfl]
   omega
  ·have:=g4 i (by omega)
   have e3:(noC l j).f i=l.f i:=if_neg e2
   unfold lJ at h3 this
   rw [e3,this] at h3
   cases h3
end PL2
end
section
namespace VO
open Go Go.Eng Go.Proofs Go.RowKit Go.ChangeShapes Go.WideShapes G1 G3 EV0 S1 S9 S10 S35
set_option maxRecDepth 100000
theorem sp9:tD Tryz.prog 6 9=some (.cons .str .nil):=by kernel_rfl
section
variable {H:Type} {enc:TypeId×Value->H} {W:World} {base:Nat} {sp:Nat->Bool} {held:Bool} {r:Reach} {b0:Nat} {v:Value} {d:DataW H} {ps:List MemPlace}
theorem open9 (hval:Value.okWide Tryz.prog W r b0 9 v) (hd:DataW.Trod enc Tryz.prog W base sp held 9 v d ps) (hw:Light Tryz.prog 9 d):∃ m:B,R (eP (Wall W) W) (.str m) [v]/\bgT m:=by
 obtain ⟨a,h1,h2⟩:=Cr sp9 ⟨fun fs e=>by rw [Tryz.underlying9] at e; (cases e),fun m k e=>by rw [Tryz.underlying9] at e; (cases e)⟩ hval hd hw
 obtain ⟨m,rfl,hw⟩:=h1
 exact ⟨m,h2,U9 hw⟩
end
section
variable {H:Type} {enc:TypeId×Value->H} {P:Program} {w:World} {base:Nat} {spare:Nat->Bool} {held:Bool}
theorem Vu {t1 t2:TypeId} {args:Array Value} {ds:List (DataW H)} {ps:List MemPlace} (h:DataW.TrodAll enc P w base spare held [t1,t2] args.toList ds ps) :
  ∃ v1 v2 d1 d2 p1 p2,args=#[v1,v2]/\ds=[d1,d2]/\DataW.Trod enc P w base spare held t1 v1 d1 p1/\DataW.Trod enc P w base spare held t2 v2 d2 p2:=by
 obtain ⟨v1,vs1,d1,ds1,p1,q1,hargs,rfl,rfl,h1,r1⟩:=trodAll_cons h
 obtain ⟨v2,vs2,d2,ds2,p2,q2,rfl,rfl,rfl,h2,r2⟩:=trodAll_cons r1
 obtain ⟨rfl,rfl,rfl⟩:=trodAll_nil r2
 exact ⟨v1,v2,d1,d2,p1,p2,by cases args; simp_all,rfl,h1,h2⟩
end
end VO
end
