/- A part of the proof. -/
import Derived.Test.YtlfdokecdilkcaaGreatDoorRT5
import Derived.Test.YtlfdokecdilkcaaGreatDoorF21
import Derived.Test.YtlfdokecdilkcaaGreatDoorF13g
import Derived.Test.YtlfdokecdilkcaaGreatDoorF22
import Derived.Test.YtlfdokecdilkcaaGreatDoorF20
import Derived.Test.YtlfdokecdilkcaaGreatDoorF23
section
open Go Go.Eng Go.Proofs G1 G2 G3 G4 G6 G7 EV0 N1 N2 F1 F2 F3 F4 F5 F6 F7 F8 F9 F10 F11 F12 F13 F16 F17 F18 F20 RT2 RT3 RT4 RT5
set_option maxRecDepth 100000
namespace RT6
theorem Rc:(List.range 16).all (fun n=>decide (n < 1) || decide (kdV (bR.getD n [])=(n:Int)))=true:=by kernel_rfl
theorem Uh (n:Nat) (h:n < 16) (h1:1<=n):kdV (bR.getD n [])=(n:Int):=by
 have:=List.all_eq_true.1 Rc n (List.mem_range.2 h)
 rw [decide_eq_false (by omega),Bool.false_or] at this
 exact of_decide_eq_true this
theorem fM {e:Ev} (h:aS e=true):aM (Lib.itoa e.day)=e.day:=by
 have:=(bD h).2.1
 exact cN (by omega) (by omega)
theorem aQ {T:Type} {s t:Sq T} (h1:s.n=0) (h2:t.n=0):SqE s t:=⟨h1.trans h2.symm,fun i hi=>absurd hi (by omega)⟩
theorem eE {s t:Pts} (h1:s.n=0) (h2:t.n=0):PtE s t:=⟨h1.trans h2.symm,fun i hi=>absurd hi (by omega)⟩
structure Zs (e:Ev):Prop where
 a:e.kind=13\/e.kind=14\/e.kind=1\/e.a=0
 b:e.kind=13\/e.kind=14\/e.b=0
 off:e.kind=15\/e.off=0
 id:¬ (e.kind=13\/e.kind=14)\/e.id=[]
 oth:(e.kind=4\/e.kind=6\/e.kind=7)\/e.oth=[]
 txt:(e.kind=6\/e.kind=7\/e.kind=15)\/e.txt=[]
 num:(e.kind=6\/e.kind=10)\/e.num=⟨0,[],0,0⟩
 pt:(e.kind=6\/e.kind=10)\/e.pt=(0,0)
theorem iZ {e:Ev} (h:aS e=true):Zs e:=by
 have hz:=D2.1 (bD h).2.2.1
 obtain ⟨a,b,off,id,oth,txt,num,pt⟩:=hz
 unfold bA at a b off id oth txt num pt
 dsimp only at a b off id oth txt num pt
 constructor
 ·split at a
  ·rename_i k; rcases k with k|k|k <;> simp [k]
  ·simp [a]
 ·split at b
  ·rename_i k; rcases k with k|k <;> simp [k]
  ·simp [b]
 ·split at off
  ·rename_i k; exact .inl k
  ·exact .inr off
 ·split at id
  ·exact .inr id
  ·rename_i k; exact .inl k
 ·split at oth
  ·rename_i k; exact .inl k
  ·exact .inr oth
 ·split at txt
  ·rename_i k; exact .inl k
  ·exact .inr txt
 ·split at num
  ·rename_i k; exact .inl k
  ·exact .inr num
 ·split at pt
  ·rename_i k; exact .inl k
  ·exact .inr pt
theorem Wp {e:Ev} (h:aS e=true):cdV (cB e)=aW e.kind (adv ⟨(us e).length,fun i=>(us e).getD i []⟩ 1):=by
 obtain ⟨⟨k1,k2⟩,_⟩:=bD h
 unfold cdV wsq
 rw [Sg h]
 have e0:hdW ⟨(us e).length,fun i=>(us e).getD i []⟩=bR.getD e.kind.toNat []:=by
  unfold hdW us
  simp
 have ek:kdV (bR.getD e.kind.toNat [])=e.kind:=by
  rw [Uh e.kind.toNat (by omega) (by omega)]
  omega
 rw [e0,ek]
theorem dX (k:Int) (s:Sq B):(aW k s).day=aM (w s 0):=rfl
theorem iJ (k:Int) (s:Sq B):(aW k s).a=if k=1 then aM (w s 2) else if k=13\/k=14 then aM (w s 1) else 0:=rfl
theorem iK (k:Int) (s:Sq B):(aW k s).b=if k=13\/k=14 then aM (w s 2) else 0:=rfl
theorem dZ (k:Int) (s:Sq B):(aW k s).off=if k=15 then aM (w s 2) else 0:=rfl
theorem fN (k:Int) (s:Sq B):(aW k s).id=if k=13\/k=14 then [] else w s 1:=rfl
theorem eA (k:Int) (s:Sq B):(aW k s).oth=if k=4\/k=6\/k=7 then w s 2 else []:=rfl
theorem eB (k:Int) (s:Sq B):(aW k s).txt=if k=6\/k=7\/k=15 then w s 3 else []:=rfl
theorem dY (k:Int) (s:Sq B):(aW k s).num=if k=6 then cH (w s 4) else if k=10 then cH (w s 2) else ⟨0,[],0,0⟩:=rfl
theorem fO (k:Int) (s:Sq B):(aW k s).pt=if k=6 then ptP (w s 5) else if k=10 then ptP (w s 3) else (0,0):=rfl
theorem cO (k:Int) (s:Sq B):(aW k s).ids.n=if k=10 then s.n - 4 else 0:=rfl
theorem I4 (k:Int) (s:Sq B) (i:Nat):(aW k s).ids.f i=w s (4+i):=rfl
theorem cQ (k:Int) (s:Sq B):(aW k s).names.n=if k=3 then (s.n - 2+2) / 3 else 0:=rfl
theorem I5 (k:Int) (s:Sq B) (i:Nat):(aW k s).names.f i=⟨w s (2+3 * i),aM (w s (2+3 * i+1)),w s (2+3 * i+2)⟩:=rfl
theorem cR (k:Int) (s:Sq B):(aW k s).path.n=if k=3\/k=8\/k=9\/k=10 then 0 else s.n - j0 k:=rfl
theorem sS (k:Int) (s:Sq B) (i:Nat):(aW k s).path.p i=ptP (w s (j0 k+i)):=rfl
theorem cP (k:Int) (s:Sq B):(aW k s).list.n=if k=8 then (s.n - 2+1) / 2 else if k=9 then (s.n - 2+2) / 3 else 0:=rfl
theorem zK (k:Int) (s:Sq B) (i:Nat):(aW k s).list.f i=if k=8 then ⟨w s (2+2 * i),cH (w s (2+2 * i+1)),(0,0)⟩ else ⟨w s (2+3 * i),cH (w s (2+3 * i+1)),ptP (w s (2+3 * i+2))⟩:=rfl
theorem rY (L:List B):(adv ⟨L.length,fun i=>L.getD i []⟩ 1).n=L.length - 1:=rfl
theorem N8 {e:Ev} (h:aS e=true) (k:e.kind=8):∀ i,i < e.list.n->(e.list.f i).pt=(0,0):=by
 intro i hi
 have hn:=(bD h).2.2.2.2
 rw [Nk k] at hn
 unfold nd8 uS at hn
 simp only [Bool.and_eq_true,Bool.not_eq_true'] at hn
 have:=bE.1 hn.2 i hi
 unfold pbad at this
 simp only [Bool.or_eq_false_iff,Bool.true_and,Bool.not_eq_false',Bool.and_true,Bool.and_eq_true,decide_eq_true_eq] at this
 exact Prod.ext this.2.1 this.2.2
theorem rt1 {e:Ev} (h:aS e=true) (k:e.kind=1):EvE (aW 1 (adv ⟨(us e).length,fun i=>(us e).getD i []⟩ 1)) e:=by
 have z:=iZ h
 have ff:=dC h
 have hn:=(bD h).2.2.2.2
 have hd:=fM h
 have hid:e.id≠[]:=eO (fX h (by rw [k]; decide) (by rw [k]; decide))
 have zb:e.b=0:=by have:=z.b; simpa [k] using this
 have zo:e.off=0:=by have:=z.off; simpa [k] using this
 have zth:e.oth=[]:=by have:=z.oth; simpa [k] using this
 have zt:e.txt=[]:=by have:=z.txt; simpa [k] using this
 have zn:e.num=⟨0,[],0,0⟩:=by have:=z.num; simpa [k] using this
 have zp:e.pt=(0,0):=by have:=z.pt; simpa [k] using this
 have nn:e.names.n=0:=by rcases cD h with q|⟨q,_⟩ <;> first|exact q|(rw [k] at q; exact absurd q (by decide))
 have nl:e.list.n=0:=by rcases cY h with q|⟨q,_⟩|⟨q,_⟩ <;> first|exact q|(rw [k] at q; exact absurd q (by decide))
 have ni:e.ids.n=0:=by rcases eC h with q|⟨q,_⟩ <;> first|exact q|(rw [k] at q; exact absurd q (by decide))
 have hL:us e=[bR.getD e.kind.toNat [],Lib.itoa e.day,e.id,Lib.itoa e.a]++paW e.path e.path.n:=by unfold us kpU; simp [k,hid,nn,nmU,nl,enU,ni,Sq.list]
 rw [hL]
 have hlen:([bR.getD e.kind.toNat [],Lib.itoa e.day,e.id,Lib.itoa e.a]++paW e.path e.path.n).length=4+e.path.n:=by rw [List.length_append,mL]; rfl
 refine ⟨k.symm,?_,?_,?_,?_,?_,?_,?_,?_,?_,?_,?_,?_,?_⟩
 ·rw [dX]
  rw [bC]
  exact hd
 ·rw [iJ]
  rw [if_pos rfl,bC]
  exact cN ff.a.1 (by have:=ff.a.2; omega)
 ·rw [iK]
  rw [if_neg (by decide)]
  exact zb.symm
 ·rw [dZ]
  rw [if_neg (by decide)]
  exact zo.symm
 ·rw [fN]
  rw [if_neg (by decide),bC]
  rfl
 ·rw [eA]
  rw [if_neg (by decide)]
  exact zth.symm
 ·rw [eB]
  rw [if_neg (by decide)]
  exact zt.symm
 ·exact aQ (by rw [cO,if_neg (by decide)]) ni
 ·exact aQ (by rw [cQ,if_neg (by decide)]) nn
 ·rw [dY]
  rw [if_neg (by decide),if_neg (by decide)]
  exact zn.symm
 ·rw [fO]
  rw [if_neg (by decide),if_neg (by decide)]
  exact zp.symm
 ·have hj:j0 1=3:=rfl
  have hc:(aW 1 (adv ⟨([bR.getD e.kind.toNat [],Lib.itoa e.day,e.id,Lib.itoa e.a]++paW e.path e.path.n).length,fun i=>([bR.getD e.kind.toNat [],Lib.itoa e.day,e.id,Lib.itoa e.a]++paW e.path e.path.n).getD i []⟩ 1)).path.n=e.path.n:=by
   rw [cR,rY]
   rw [if_neg (by decide),hlen,hj]; omega
  refine ⟨hc,fun i hi=>?_⟩
  rw [hc] at hi
  rw [sS]
  rw [bC,hj,bB (L:=[bR.getD e.kind.toNat [],Lib.itoa e.day,e.id,Lib.itoa e.a]) (j:=i) (by show 1+(3+i)=4+i; omega),xT hi,qC (ff.pth i hi)]
 ·exact aQ (by rw [cP,if_neg (by decide),if_neg (by decide)]) nl
theorem rt2 {e:Ev} (h:aS e=true) (k:e.kind=2):EvE (aW 2 (adv ⟨(us e).length,fun i=>(us e).getD i []⟩ 1)) e:=by
 have z:=iZ h
 have ff:=dC h
 have hn:=(bD h).2.2.2.2
 have hd:=fM h
 have hid:e.id≠[]:=eO (fX h (by rw [k]; decide) (by rw [k]; decide))
 have za:e.a=0:=by have:=z.a; simpa [k] using this
 have zb:e.b=0:=by have:=z.b; simpa [k] using this
 have zo:e.off=0:=by have:=z.off; simpa [k] using this
 have zth:e.oth=[]:=by have:=z.oth; simpa [k] using this
 have zt:e.txt=[]:=by have:=z.txt; simpa [k] using this
 have zn:e.num=⟨0,[],0,0⟩:=by have:=z.num; simpa [k] using this
 have zp:e.pt=(0,0):=by have:=z.pt; simpa [k] using this
 have nn:e.names.n=0:=by rcases cD h with q|⟨q,_⟩ <;> first|exact q|(rw [k] at q; exact absurd q (by decide))
 have nl:e.list.n=0:=by rcases cY h with q|⟨q,_⟩|⟨q,_⟩ <;> first|exact q|(rw [k] at q; exact absurd q (by decide))
 have ni:e.ids.n=0:=by rcases eC h with q|⟨q,_⟩ <;> first|exact q|(rw [k] at q; exact absurd q (by decide))
 have hL:us e=[bR.getD e.kind.toNat [],Lib.itoa e.day,e.id]++paW e.path e.path.n:=by unfold us kpU; simp [k,hid,nn,nmU,nl,enU,ni,Sq.list]
 rw [hL]
 have hlen:([bR.getD e.kind.toNat [],Lib.itoa e.day,e.id]++paW e.path e.path.n).length=3+e.path.n:=by rw [List.length_append,mL]; rfl
 refine ⟨k.symm,?_,?_,?_,?_,?_,?_,?_,?_,?_,?_,?_,?_,?_⟩
 ·rw [dX]
  rw [bC]
  exact hd
 ·rw [iJ]
  rw [if_neg (by decide),if_neg (by decide)]
  exact za.symm
 ·rw [iK]
  rw [if_neg (by decide)]
  exact zb.symm
 ·rw [dZ]
  rw [if_neg (by decide)]
  exact zo.symm
 ·rw [fN]
  rw [if_neg (by decide),bC]
  rfl
 ·rw [eA]
  rw [if_neg (by decide)]
  exact zth.symm
 ·rw [eB]
  rw [if_neg (by decide)]
  exact zt.symm
 ·exact aQ (by rw [cO,if_neg (by decide)]) ni
 ·exact aQ (by rw [cQ,if_neg (by decide)]) nn
 ·rw [dY]
  rw [if_neg (by decide),if_neg (by decide)]
  exact zn.symm
 ·rw [fO]
  rw [if_neg (by decide),if_neg (by decide)]
  exact zp.symm
 ·have hj:j0 2=2:=rfl
  have hc:(aW 2 (adv ⟨([bR.getD e.kind.toNat [],Lib.itoa e.day,e.id]++paW e.path e.path.n).length,fun i=>([bR.getD e.kind.toNat [],Lib.itoa e.day,e.id]++paW e.path e.path.n).getD i []⟩ 1)).path.n=e.path.n:=by
   rw [cR,rY]
   rw [if_neg (by decide),hlen,hj]; omega
  refine ⟨hc,fun i hi=>?_⟩
  rw [hc] at hi
  rw [sS]
  rw [bC,hj,bB (L:=[bR.getD e.kind.toNat [],Lib.itoa e.day,e.id]) (j:=i) (by show 1+(2+i)=3+i; omega),xT hi,qC (ff.pth i hi)]
 ·exact aQ (by rw [cP,if_neg (by decide),if_neg (by decide)]) nl
theorem rt3 {e:Ev} (h:aS e=true) (k:e.kind=3):EvE (aW 3 (adv ⟨(us e).length,fun i=>(us e).getD i []⟩ 1)) e:=by
 have z:=iZ h
 have ff:=dC h
 have hn:=(bD h).2.2.2.2
 have hd:=fM h
 have hid:e.id≠[]:=eO (fX h (by rw [k]; decide) (by rw [k]; decide))
 have za:e.a=0:=by have:=z.a; simpa [k] using this
 have zb:e.b=0:=by have:=z.b; simpa [k] using this
 have zo:e.off=0:=by have:=z.off; simpa [k] using this
 have zth:e.oth=[]:=by have:=z.oth; simpa [k] using this
 have zt:e.txt=[]:=by have:=z.txt; simpa [k] using this
 have zn:e.num=⟨0,[],0,0⟩:=by have:=z.num; simpa [k] using this
 have zp:e.pt=(0,0):=by have:=z.pt; simpa [k] using this
 have nl:e.list.n=0:=by rcases cY h with q|⟨q,_⟩|⟨q,_⟩ <;> first|exact q|(rw [k] at q; exact absurd q (by decide))
 have ni:e.ids.n=0:=by rcases eC h with q|⟨q,_⟩ <;> first|exact q|(rw [k] at q; exact absurd q (by decide))
 have np:e.path.n=0:=by rcases cU h with q|q|q|q <;> first|exact q|(rw [k] at q; exact absurd q (by decide))
 have hL:us e=[bR.getD e.kind.toNat [],Lib.itoa e.day,e.id]++nmU e.names e.names.n:=by unfold us kpU; simp [k,hid,nl,enU,ni,Sq.list,np,paW]
 rw [hL]
 have hlen:([bR.getD e.kind.toNat [],Lib.itoa e.day,e.id]++nmU e.names e.names.n).length=3+3 * e.names.n:=by rw [List.length_append,E0]; rfl
 refine ⟨k.symm,?_,?_,?_,?_,?_,?_,?_,?_,?_,?_,?_,?_,?_⟩
 ·rw [dX]
  rw [bC]
  exact hd
 ·rw [iJ]
  rw [if_neg (by decide),if_neg (by decide)]
  exact za.symm
 ·rw [iK]
  rw [if_neg (by decide)]
  exact zb.symm
 ·rw [dZ]
  rw [if_neg (by decide)]
  exact zo.symm
 ·rw [fN]
  rw [if_neg (by decide),bC]
  rfl
 ·rw [eA]
  rw [if_neg (by decide)]
  exact zth.symm
 ·rw [eB]
  rw [if_neg (by decide)]
  exact zt.symm
 ·exact aQ (by rw [cO,if_neg (by decide)]) ni
 ·have hc:(aW 3 (adv ⟨([bR.getD e.kind.toNat [],Lib.itoa e.day,e.id]++nmU e.names e.names.n).length,fun i=>([bR.getD e.kind.toNat [],Lib.itoa e.day,e.id]++nmU e.names e.names.n).getD i []⟩ 1)).names.n=e.names.n:=by
   rw [cQ,rY]
   rw [if_pos rfl,hlen]; omega
  refine ⟨hc,fun i hi=>?_⟩
  rw [hc] at hi
  obtain ⟨g1,g2,g3⟩:=Nr hi
  have hs:=ff.scr i hi
  rw [I5]
  rw [bC,bC,bC,bB (L:=[bR.getD e.kind.toNat [],Lib.itoa e.day,e.id]) (j:=3 * i) (by show _=3+3 * i; omega),bB (L:=[bR.getD e.kind.toNat [],Lib.itoa e.day,e.id]) (j:=3 * i+1) (by show _=3+(3 * i+1); omega),bB (L:=[bR.getD e.kind.toNat [],Lib.itoa e.day,e.id]) (j:=3 * i+2) (by show _=3+(3 * i+2); omega),g1,g2,g3,cN hs.1 (by omega)]
 ·rw [dY]
  rw [if_neg (by decide),if_neg (by decide)]
  exact zn.symm
 ·rw [fO]
  rw [if_neg (by decide),if_neg (by decide)]
  exact zp.symm
 ·exact eE (by rw [cR,if_pos (by decide)]) np
 ·exact aQ (by rw [cP,if_neg (by decide),if_neg (by decide)]) nl
theorem rt4 {e:Ev} (h:aS e=true) (k:e.kind=4):EvE (aW 4 (adv ⟨(us e).length,fun i=>(us e).getD i []⟩ 1)) e:=by
 have z:=iZ h
 have ff:=dC h
 have hn:=(bD h).2.2.2.2
 have hd:=fM h
 have hid:e.id≠[]:=eO (fX h (by rw [k]; decide) (by rw [k]; decide))
 have za:e.a=0:=by have:=z.a; simpa [k] using this
 have zb:e.b=0:=by have:=z.b; simpa [k] using this
 have zo:e.off=0:=by have:=z.off; simpa [k] using this
 have zt:e.txt=[]:=by have:=z.txt; simpa [k] using this
 have zn:e.num=⟨0,[],0,0⟩:=by have:=z.num; simpa [k] using this
 have zp:e.pt=(0,0):=by have:=z.pt; simpa [k] using this
 have nn:e.names.n=0:=by rcases cD h with q|⟨q,_⟩ <;> first|exact q|(rw [k] at q; exact absurd q (by decide))
 have nl:e.list.n=0:=by rcases cY h with q|⟨q,_⟩|⟨q,_⟩ <;> first|exact q|(rw [k] at q; exact absurd q (by decide))
 have ni:e.ids.n=0:=by rcases eC h with q|⟨q,_⟩ <;> first|exact q|(rw [k] at q; exact absurd q (by decide))
 have np:e.path.n=0:=by rcases cU h with q|q|q|q <;> first|exact q|(rw [k] at q; exact absurd q (by decide))
 have hL:us e=[bR.getD e.kind.toNat [],Lib.itoa e.day,e.id,e.oth]:=by unfold us kpU; simp [k,hid,nn,nmU,nl,enU,ni,Sq.list,np,paW]
 rw [hL]
 refine ⟨k.symm,?_,?_,?_,?_,?_,?_,?_,?_,?_,?_,?_,?_,?_⟩
 ·rw [dX]
  rw [bC]
  exact hd
 ·rw [iJ]
  rw [if_neg (by decide),if_neg (by decide)]
  exact za.symm
 ·rw [iK]
  rw [if_neg (by decide)]
  exact zb.symm
 ·rw [dZ]
  rw [if_neg (by decide)]
  exact zo.symm
 ·rw [fN]
  rw [if_neg (by decide),bC]
  rfl
 ·rw [eA]
  rw [if_pos (by decide),bC]
  rfl
 ·rw [eB]
  rw [if_neg (by decide)]
  exact zt.symm
 ·exact aQ (by rw [cO,if_neg (by decide)]) ni
 ·exact aQ (by rw [cQ,if_neg (by decide)]) nn
 ·rw [dY]
  rw [if_neg (by decide),if_neg (by decide)]
  exact zn.symm
 ·rw [fO]
  rw [if_neg (by decide),if_neg (by decide)]
  exact zp.symm
 ·exact eE (by rw [cR,if_neg (by decide)]; rfl) np
 ·exact aQ (by rw [cP,if_neg (by decide),if_neg (by decide)]) nl
theorem rt5 {e:Ev} (h:aS e=true) (k:e.kind=5):EvE (aW 5 (adv ⟨(us e).length,fun i=>(us e).getD i []⟩ 1)) e:=by
 have z:=iZ h
 have ff:=dC h
 have hn:=(bD h).2.2.2.2
 have hd:=fM h
 have hid:e.id≠[]:=eO (fX h (by rw [k]; decide) (by rw [k]; decide))
 have za:e.a=0:=by have:=z.a; simpa [k] using this
 have zb:e.b=0:=by have:=z.b; simpa [k] using this
 have zo:e.off=0:=by have:=z.off; simpa [k] using this
 have zth:e.oth=[]:=by have:=z.oth; simpa [k] using this
 have zt:e.txt=[]:=by have:=z.txt; simpa [k] using this
 have zn:e.num=⟨0,[],0,0⟩:=by have:=z.num; simpa [k] using this
 have zp:e.pt=(0,0):=by have:=z.pt; simpa [k] using this
 have nn:e.names.n=0:=by rcases cD h with q|⟨q,_⟩ <;> first|exact q|(rw [k] at q; exact absurd q (by decide))
 have nl:e.list.n=0:=by rcases cY h with q|⟨q,_⟩|⟨q,_⟩ <;> first|exact q|(rw [k] at q; exact absurd q (by decide))
 have ni:e.ids.n=0:=by rcases eC h with q|⟨q,_⟩ <;> first|exact q|(rw [k] at q; exact absurd q (by decide))
 have hL:us e=[bR.getD e.kind.toNat [],Lib.itoa e.day,e.id]++paW e.path e.path.n:=by unfold us kpU; simp [k,hid,nn,nmU,nl,enU,ni,Sq.list]
 rw [hL]
 have hlen:([bR.getD e.kind.toNat [],Lib.itoa e.day,e.id]++paW e.path e.path.n).length=3+e.path.n:=by rw [List.length_append,mL]; rfl
 refine ⟨k.symm,?_,?_,?_,?_,?_,?_,?_,?_,?_,?_,?_,?_,?_⟩
 ·rw [dX]
  rw [bC]
  exact hd
 ·rw [iJ]
  rw [if_neg (by decide),if_neg (by decide)]
  exact za.symm
 ·rw [iK]
  rw [if_neg (by decide)]
  exact zb.symm
 ·rw [dZ]
  rw [if_neg (by decide)]
  exact zo.symm
 ·rw [fN]
  rw [if_neg (by decide),bC]
  rfl
 ·rw [eA]
  rw [if_neg (by decide)]
  exact zth.symm
 ·rw [eB]
  rw [if_neg (by decide)]
  exact zt.symm
 ·exact aQ (by rw [cO,if_neg (by decide)]) ni
 ·exact aQ (by rw [cQ,if_neg (by decide)]) nn
 ·rw [dY]
  rw [if_neg (by decide),if_neg (by decide)]
  exact zn.symm
 ·rw [fO]
  rw [if_neg (by decide),if_neg (by decide)]
  exact zp.symm
 ·have hj:j0 5=2:=rfl
  have hc:(aW 5 (adv ⟨([bR.getD e.kind.toNat [],Lib.itoa e.day,e.id]++paW e.path e.path.n).length,fun i=>([bR.getD e.kind.toNat [],Lib.itoa e.day,e.id]++paW e.path e.path.n).getD i []⟩ 1)).path.n=e.path.n:=by
   rw [cR,rY]
   rw [if_neg (by decide),hlen,hj]; omega
  refine ⟨hc,fun i hi=>?_⟩
  rw [hc] at hi
  rw [sS]
  rw [bC,hj,bB (L:=[bR.getD e.kind.toNat [],Lib.itoa e.day,e.id]) (j:=i) (by show 1+(2+i)=3+i; omega),xT hi,qC (ff.pth i hi)]
 ·exact aQ (by rw [cP,if_neg (by decide),if_neg (by decide)]) nl
theorem rt6 {e:Ev} (h:aS e=true) (k:e.kind=6):EvE (aW 6 (adv ⟨(us e).length,fun i=>(us e).getD i []⟩ 1)) e:=by
 have z:=iZ h
 have ff:=dC h
 have hn:=(bD h).2.2.2.2
 have hd:=fM h
 have hid:e.id≠[]:=eO (fX h (by rw [k]; decide) (by rw [k]; decide))
 have za:e.a=0:=by have:=z.a; simpa [k] using this
 have zb:e.b=0:=by have:=z.b; simpa [k] using this
 have zo:e.off=0:=by have:=z.off; simpa [k] using this
 have nn:e.names.n=0:=by rcases cD h with q|⟨q,_⟩ <;> first|exact q|(rw [k] at q; exact absurd q (by decide))
 have nl:e.list.n=0:=by rcases cY h with q|⟨q,_⟩|⟨q,_⟩ <;> first|exact q|(rw [k] at q; exact absurd q (by decide))
 have ni:e.ids.n=0:=by rcases eC h with q|⟨q,_⟩ <;> first|exact q|(rw [k] at q; exact absurd q (by decide))
 have np:e.path.n=0:=by rcases cU h with q|q|q|q <;> first|exact q|(rw [k] at q; exact absurd q (by decide))
 have hL:us e=[bR.getD e.kind.toNat [],Lib.itoa e.day,e.id,e.oth,e.txt,dI e.num,dD e.pt]:=by unfold us kpU; simp [k,hid,nn,nmU,nl,enU,ni,Sq.list,np,paW]
 rw [Nj k] at hn; unfold nd6 at hn; simp only [Bool.and_eq_true] at hn
 rw [hL]
 refine ⟨k.symm,?_,?_,?_,?_,?_,?_,?_,?_,?_,?_,?_,?_,?_⟩
 ·rw [dX]
  rw [bC]
  exact hd
 ·rw [iJ]
  rw [if_neg (by decide),if_neg (by decide)]
  exact za.symm
 ·rw [iK]
  rw [if_neg (by decide)]
  exact zb.symm
 ·rw [dZ]
  rw [if_neg (by decide)]
  exact zo.symm
 ·rw [fN]
  rw [if_neg (by decide),bC]
  rfl
 ·rw [eA]
  rw [if_pos (by decide),bC]
  rfl
 ·rw [eB]
  rw [if_pos (by decide),bC]
  rfl
 ·exact aQ (by rw [cO,if_neg (by decide)]) ni
 ·exact aQ (by rw [cQ,if_neg (by decide)]) nn
 ·rw [dY]
  rw [if_pos rfl,bC]
  exact rN hn.1.2
 ·rw [fO]
  rw [if_pos rfl,bC]
  exact qC ff.pt
 ·exact eE (by rw [cR,if_neg (by decide)]; rfl) np
 ·exact aQ (by rw [cP,if_neg (by decide),if_neg (by decide)]) nl
theorem rt7 {e:Ev} (h:aS e=true) (k:e.kind=7):EvE (aW 7 (adv ⟨(us e).length,fun i=>(us e).getD i []⟩ 1)) e:=by
 have z:=iZ h
 have ff:=dC h
 have hn:=(bD h).2.2.2.2
 have hd:=fM h
 have hid:e.id≠[]:=eO (fX h (by rw [k]; decide) (by rw [k]; decide))
 have za:e.a=0:=by have:=z.a; simpa [k] using this
 have zb:e.b=0:=by have:=z.b; simpa [k] using this
 have zo:e.off=0:=by have:=z.off; simpa [k] using this
 have zn:e.num=⟨0,[],0,0⟩:=by have:=z.num; simpa [k] using this
 have zp:e.pt=(0,0):=by have:=z.pt; simpa [k] using this
 have nn:e.names.n=0:=by rcases cD h with q|⟨q,_⟩ <;> first|exact q|(rw [k] at q; exact absurd q (by decide))
 have nl:e.list.n=0:=by rcases cY h with q|⟨q,_⟩|⟨q,_⟩ <;> first|exact q|(rw [k] at q; exact absurd q (by decide))
 have ni:e.ids.n=0:=by rcases eC h with q|⟨q,_⟩ <;> first|exact q|(rw [k] at q; exact absurd q (by decide))
 have np:e.path.n=0:=by rcases cU h with q|q|q|q <;> first|exact q|(rw [k] at q; exact absurd q (by decide))
 have hL:us e=[bR.getD e.kind.toNat [],Lib.itoa e.day,e.id,e.oth,e.txt]:=by unfold us kpU; simp [k,hid,nn,nmU,nl,enU,ni,Sq.list,np,paW]
 rw [hL]
 refine ⟨k.symm,?_,?_,?_,?_,?_,?_,?_,?_,?_,?_,?_,?_,?_⟩
 ·rw [dX]
  rw [bC]
  exact hd
 ·rw [iJ]
  rw [if_neg (by decide),if_neg (by decide)]
  exact za.symm
 ·rw [iK]
  rw [if_neg (by decide)]
  exact zb.symm
 ·rw [dZ]
  rw [if_neg (by decide)]
  exact zo.symm
 ·rw [fN]
  rw [if_neg (by decide),bC]
  rfl
 ·rw [eA]
  rw [if_pos (by decide),bC]
  rfl
 ·rw [eB]
  rw [if_pos (by decide),bC]
  rfl
 ·exact aQ (by rw [cO,if_neg (by decide)]) ni
 ·exact aQ (by rw [cQ,if_neg (by decide)]) nn
 ·rw [dY]
  rw [if_neg (by decide),if_neg (by decide)]
  exact zn.symm
 ·rw [fO]
  rw [if_neg (by decide),if_neg (by decide)]
  exact zp.symm
 ·exact eE (by rw [cR,if_neg (by decide)]; rfl) np
 ·exact aQ (by rw [cP,if_neg (by decide),if_neg (by decide)]) nl
theorem rt8 {e:Ev} (h:aS e=true) (k:e.kind=8):EvE (aW 8 (adv ⟨(us e).length,fun i=>(us e).getD i []⟩ 1)) e:=by
 have z:=iZ h
 have ff:=dC h
 have hn:=(bD h).2.2.2.2
 have hd:=fM h
 have hid:e.id≠[]:=eO (fX h (by rw [k]; decide) (by rw [k]; decide))
 have za:e.a=0:=by have:=z.a; simpa [k] using this
 have zb:e.b=0:=by have:=z.b; simpa [k] using this
 have zo:e.off=0:=by have:=z.off; simpa [k] using this
 have zth:e.oth=[]:=by have:=z.oth; simpa [k] using this
 have zt:e.txt=[]:=by have:=z.txt; simpa [k] using this
 have zn:e.num=⟨0,[],0,0⟩:=by have:=z.num; simpa [k] using this
 have zp:e.pt=(0,0):=by have:=z.pt; simpa [k] using this
 have nn:e.names.n=0:=by rcases cD h with q|⟨q,_⟩ <;> first|exact q|(rw [k] at q; exact absurd q (by decide))
 have ni:e.ids.n=0:=by rcases eC h with q|⟨q,_⟩ <;> first|exact q|(rw [k] at q; exact absurd q (by decide))
 have np:e.path.n=0:=by rcases cU h with q|q|q|q <;> first|exact q|(rw [k] at q; exact absurd q (by decide))
 have hL:us e=[bR.getD e.kind.toNat [],Lib.itoa e.day,e.id]++enU 8 e.list e.list.n:=by unfold us kpU; simp [k,hid,nn,nmU,ni,Sq.list,np,paW]
 rw [hL]
 have hlen:([bR.getD e.kind.toNat [],Lib.itoa e.day,e.id]++enU 8 e.list e.list.n).length=3+2 * e.list.n:=by rw [List.length_append,zG]; rfl
 refine ⟨k.symm,?_,?_,?_,?_,?_,?_,?_,?_,?_,?_,?_,?_,?_⟩
 ·rw [dX]
  rw [bC]
  exact hd
 ·rw [iJ]
  rw [if_neg (by decide),if_neg (by decide)]
  exact za.symm
 ·rw [iK]
  rw [if_neg (by decide)]
  exact zb.symm
 ·rw [dZ]
  rw [if_neg (by decide)]
  exact zo.symm
 ·rw [fN]
  rw [if_neg (by decide),bC]
  rfl
 ·rw [eA]
  rw [if_neg (by decide)]
  exact zth.symm
 ·rw [eB]
  rw [if_neg (by decide)]
  exact zt.symm
 ·exact aQ (by rw [cO,if_neg (by decide)]) ni
 ·exact aQ (by rw [cQ,if_neg (by decide)]) nn
 ·rw [dY]
  rw [if_neg (by decide),if_neg (by decide)]
  exact zn.symm
 ·rw [fO]
  rw [if_neg (by decide),if_neg (by decide)]
  exact zp.symm
 ·exact eE (by rw [cR,if_pos (by decide)]) np
 ·have hc:(aW 8 (adv ⟨([bR.getD e.kind.toNat [],Lib.itoa e.day,e.id]++enU 8 e.list e.list.n).length,fun i=>([bR.getD e.kind.toNat [],Lib.itoa e.day,e.id]++enU 8 e.list e.list.n).getD i []⟩ 1)).list.n=e.list.n:=by
   rw [cP,rY]
   rw [if_pos rfl,hlen]; omega
  refine ⟨hc,fun i hi=>?_⟩
  rw [hc] at hi
  obtain ⟨g1,g2⟩:=Io hi
  have hs:=xJ h i hi
  have hz:=N8 h k i hi
  rw [zK]
  rw [if_pos rfl,bC,bC,bB (L:=[bR.getD e.kind.toNat [],Lib.itoa e.day,e.id]) (j:=2 * i) (by show _=3+2 * i; omega),bB (L:=[bR.getD e.kind.toNat [],Lib.itoa e.day,e.id]) (j:=2 * i+1) (by show _=3+(2 * i+1); omega),g1,g2,rN hs.2.1,<- hz]
theorem rt9 {e:Ev} (h:aS e=true) (k:e.kind=9):EvE (aW 9 (adv ⟨(us e).length,fun i=>(us e).getD i []⟩ 1)) e:=by
 have z:=iZ h
 have ff:=dC h
 have hn:=(bD h).2.2.2.2
 have hd:=fM h
 have hid:e.id≠[]:=eO (fX h (by rw [k]; decide) (by rw [k]; decide))
 have za:e.a=0:=by have:=z.a; simpa [k] using this
 have zb:e.b=0:=by have:=z.b; simpa [k] using this
 have zo:e.off=0:=by have:=z.off; simpa [k] using this
 have zth:e.oth=[]:=by have:=z.oth; simpa [k] using this
 have zt:e.txt=[]:=by have:=z.txt; simpa [k] using this
 have zn:e.num=⟨0,[],0,0⟩:=by have:=z.num; simpa [k] using this
 have zp:e.pt=(0,0):=by have:=z.pt; simpa [k] using this
 have nn:e.names.n=0:=by rcases cD h with q|⟨q,_⟩ <;> first|exact q|(rw [k] at q; exact absurd q (by decide))
 have ni:e.ids.n=0:=by rcases eC h with q|⟨q,_⟩ <;> first|exact q|(rw [k] at q; exact absurd q (by decide))
 have np:e.path.n=0:=by rcases cU h with q|q|q|q <;> first|exact q|(rw [k] at q; exact absurd q (by decide))
 have hL:us e=[bR.getD e.kind.toNat [],Lib.itoa e.day,e.id]++enU 9 e.list e.list.n:=by unfold us kpU; simp [k,hid,nn,nmU,ni,Sq.list,np,paW]
 rw [hL]
 have hlen:([bR.getD e.kind.toNat [],Lib.itoa e.day,e.id]++enU 9 e.list e.list.n).length=3+3 * e.list.n:=by rw [List.length_append,zH]; rfl
 refine ⟨k.symm,?_,?_,?_,?_,?_,?_,?_,?_,?_,?_,?_,?_,?_⟩
 ·rw [dX]
  rw [bC]
  exact hd
 ·rw [iJ]
  rw [if_neg (by decide),if_neg (by decide)]
  exact za.symm
 ·rw [iK]
  rw [if_neg (by decide)]
  exact zb.symm
 ·rw [dZ]
  rw [if_neg (by decide)]
  exact zo.symm
 ·rw [fN]
  rw [if_neg (by decide),bC]
  rfl
 ·rw [eA]
  rw [if_neg (by decide)]
  exact zth.symm
 ·rw [eB]
  rw [if_neg (by decide)]
  exact zt.symm
 ·exact aQ (by rw [cO,if_neg (by decide)]) ni
 ·exact aQ (by rw [cQ,if_neg (by decide)]) nn
 ·rw [dY]
  rw [if_neg (by decide),if_neg (by decide)]
  exact zn.symm
 ·rw [fO]
  rw [if_neg (by decide),if_neg (by decide)]
  exact zp.symm
 ·exact eE (by rw [cR,if_pos (by decide)]) np
 ·have hc:(aW 9 (adv ⟨([bR.getD e.kind.toNat [],Lib.itoa e.day,e.id]++enU 9 e.list e.list.n).length,fun i=>([bR.getD e.kind.toNat [],Lib.itoa e.day,e.id]++enU 9 e.list e.list.n).getD i []⟩ 1)).list.n=e.list.n:=by
   rw [cP,rY]
   rw [if_neg (by decide),if_pos rfl,hlen]; omega
  refine ⟨hc,fun i hi=>?_⟩
  rw [hc] at hi
  obtain ⟨g1,g2,g3⟩:=Ip hi
  have hs:=xJ h i hi
  rw [zK]
  rw [if_neg (by decide),bC,bC,bC,bB (L:=[bR.getD e.kind.toNat [],Lib.itoa e.day,e.id]) (j:=3 * i) (by show _=3+3 * i; omega),bB (L:=[bR.getD e.kind.toNat [],Lib.itoa e.day,e.id]) (j:=3 * i+1) (by show _=3+(3 * i+1); omega),bB (L:=[bR.getD e.kind.toNat [],Lib.itoa e.day,e.id]) (j:=3 * i+2) (by show _=3+(3 * i+2); omega),g1,g2,g3,rN hs.2.1,qC hs.2.2]
theorem rt10 {e:Ev} (h:aS e=true) (k:e.kind=10):EvE (aW 10 (adv ⟨(us e).length,fun i=>(us e).getD i []⟩ 1)) e:=by
 have z:=iZ h
 have ff:=dC h
 have hn:=(bD h).2.2.2.2
 have hd:=fM h
 have hid:e.id≠[]:=eO (fX h (by rw [k]; decide) (by rw [k]; decide))
 have za:e.a=0:=by have:=z.a; simpa [k] using this
 have zb:e.b=0:=by have:=z.b; simpa [k] using this
 have zo:e.off=0:=by have:=z.off; simpa [k] using this
 have zth:e.oth=[]:=by have:=z.oth; simpa [k] using this
 have zt:e.txt=[]:=by have:=z.txt; simpa [k] using this
 have nn:e.names.n=0:=by rcases cD h with q|⟨q,_⟩ <;> first|exact q|(rw [k] at q; exact absurd q (by decide))
 have nl:e.list.n=0:=by rcases cY h with q|⟨q,_⟩|⟨q,_⟩ <;> first|exact q|(rw [k] at q; exact absurd q (by decide))
 have np:e.path.n=0:=by rcases cU h with q|q|q|q <;> first|exact q|(rw [k] at q; exact absurd q (by decide))
 have hL:us e=[bR.getD e.kind.toNat [],Lib.itoa e.day,e.id,dI e.num,dD e.pt]++e.ids.list:=by unfold us kpU; simp [k,hid,nn,nmU,nl,enU,np,paW]
 rw [Ap k] at hn; unfold nd10 at hn; simp only [Bool.and_eq_true] at hn
 rw [hL]
 have hlen:([bR.getD e.kind.toNat [],Lib.itoa e.day,e.id,dI e.num,dD e.pt]++e.ids.list).length=5+e.ids.n:=by rw [List.length_append,gQ]; rfl
 refine ⟨k.symm,?_,?_,?_,?_,?_,?_,?_,?_,?_,?_,?_,?_,?_⟩
 ·rw [dX]
  rw [bC]
  exact hd
 ·rw [iJ]
  rw [if_neg (by decide),if_neg (by decide)]
  exact za.symm
 ·rw [iK]
  rw [if_neg (by decide)]
  exact zb.symm
 ·rw [dZ]
  rw [if_neg (by decide)]
  exact zo.symm
 ·rw [fN]
  rw [if_neg (by decide),bC]
  rfl
 ·rw [eA]
  rw [if_neg (by decide)]
  exact zth.symm
 ·rw [eB]
  rw [if_neg (by decide)]
  exact zt.symm
 ·have hc:(aW 10 (adv ⟨([bR.getD e.kind.toNat [],Lib.itoa e.day,e.id,dI e.num,dD e.pt]++e.ids.list).length,fun i=>([bR.getD e.kind.toNat [],Lib.itoa e.day,e.id,dI e.num,dD e.pt]++e.ids.list).getD i []⟩ 1)).ids.n=e.ids.n:=by
   rw [cO,rY]
   rw [if_pos rfl,hlen]; omega
  refine ⟨hc,fun i hi=>?_⟩
  rw [hc] at hi
  rw [I4]
  rw [bC,bB (L:=[bR.getD e.kind.toNat [],Lib.itoa e.day,e.id,dI e.num,dD e.pt]) (j:=i) (by show 1+(4+i)=5+i; omega),Ah _ _ hi]
 ·exact aQ (by rw [cQ,if_neg (by decide)]) nn
 ·rw [dY]
  rw [if_neg (by decide),if_pos rfl,bC]
  exact rN hn.1.2
 ·rw [fO]
  rw [if_neg (by decide),if_pos rfl,bC]
  exact qC ff.pt
 ·exact eE (by rw [cR,if_pos (by decide)]) np
 ·exact aQ (by rw [cP,if_neg (by decide),if_neg (by decide)]) nl
theorem rt11 {e:Ev} (h:aS e=true) (k:e.kind=11):EvE (aW 11 (adv ⟨(us e).length,fun i=>(us e).getD i []⟩ 1)) e:=by
 have z:=iZ h
 have ff:=dC h
 have hn:=(bD h).2.2.2.2
 have hd:=fM h
 have hid:e.id≠[]:=eO (fX h (by rw [k]; decide) (by rw [k]; decide))
 have za:e.a=0:=by have:=z.a; simpa [k] using this
 have zb:e.b=0:=by have:=z.b; simpa [k] using this
 have zo:e.off=0:=by have:=z.off; simpa [k] using this
 have zth:e.oth=[]:=by have:=z.oth; simpa [k] using this
 have zt:e.txt=[]:=by have:=z.txt; simpa [k] using this
 have zn:e.num=⟨0,[],0,0⟩:=by have:=z.num; simpa [k] using this
 have zp:e.pt=(0,0):=by have:=z.pt; simpa [k] using this
 have nn:e.names.n=0:=by rcases cD h with q|⟨q,_⟩ <;> first|exact q|(rw [k] at q; exact absurd q (by decide))
 have nl:e.list.n=0:=by rcases cY h with q|⟨q,_⟩|⟨q,_⟩ <;> first|exact q|(rw [k] at q; exact absurd q (by decide))
 have ni:e.ids.n=0:=by rcases eC h with q|⟨q,_⟩ <;> first|exact q|(rw [k] at q; exact absurd q (by decide))
 have np:e.path.n=0:=by rcases cU h with q|q|q|q <;> first|exact q|(rw [k] at q; exact absurd q (by decide))
 have hL:us e=[bR.getD e.kind.toNat [],Lib.itoa e.day,e.id]:=by unfold us kpU; simp [k,hid,nn,nmU,nl,enU,ni,Sq.list,np,paW]
 rw [hL]
 refine ⟨k.symm,?_,?_,?_,?_,?_,?_,?_,?_,?_,?_,?_,?_,?_⟩
 ·rw [dX]
  rw [bC]
  exact hd
 ·rw [iJ]
  rw [if_neg (by decide),if_neg (by decide)]
  exact za.symm
 ·rw [iK]
  rw [if_neg (by decide)]
  exact zb.symm
 ·rw [dZ]
  rw [if_neg (by decide)]
  exact zo.symm
 ·rw [fN]
  rw [if_neg (by decide),bC]
  rfl
 ·rw [eA]
  rw [if_neg (by decide)]
  exact zth.symm
 ·rw [eB]
  rw [if_neg (by decide)]
  exact zt.symm
 ·exact aQ (by rw [cO,if_neg (by decide)]) ni
 ·exact aQ (by rw [cQ,if_neg (by decide)]) nn
 ·rw [dY]
  rw [if_neg (by decide),if_neg (by decide)]
  exact zn.symm
 ·rw [fO]
  rw [if_neg (by decide),if_neg (by decide)]
  exact zp.symm
 ·exact eE (by rw [cR,if_neg (by decide)]; rfl) np
 ·exact aQ (by rw [cP,if_neg (by decide),if_neg (by decide)]) nl
theorem rt12 {e:Ev} (h:aS e=true) (k:e.kind=12):EvE (aW 12 (adv ⟨(us e).length,fun i=>(us e).getD i []⟩ 1)) e:=by
 have z:=iZ h
 have ff:=dC h
 have hn:=(bD h).2.2.2.2
 have hd:=fM h
 have hid:e.id≠[]:=eO (fX h (by rw [k]; decide) (by rw [k]; decide))
 have za:e.a=0:=by have:=z.a; simpa [k] using this
 have zb:e.b=0:=by have:=z.b; simpa [k] using this
 have zo:e.off=0:=by have:=z.off; simpa [k] using this
 have zth:e.oth=[]:=by have:=z.oth; simpa [k] using this
 have zt:e.txt=[]:=by have:=z.txt; simpa [k] using this
 have zn:e.num=⟨0,[],0,0⟩:=by have:=z.num; simpa [k] using this
 have zp:e.pt=(0,0):=by have:=z.pt; simpa [k] using this
 have nn:e.names.n=0:=by rcases cD h with q|⟨q,_⟩ <;> first|exact q|(rw [k] at q; exact absurd q (by decide))
 have nl:e.list.n=0:=by rcases cY h with q|⟨q,_⟩|⟨q,_⟩ <;> first|exact q|(rw [k] at q; exact absurd q (by decide))
 have ni:e.ids.n=0:=by rcases eC h with q|⟨q,_⟩ <;> first|exact q|(rw [k] at q; exact absurd q (by decide))
 have np:e.path.n=0:=by rcases cU h with q|q|q|q <;> first|exact q|(rw [k] at q; exact absurd q (by decide))
 have hL:us e=[bR.getD e.kind.toNat [],Lib.itoa e.day,e.id]:=by unfold us kpU; simp [k,hid,nn,nmU,nl,enU,ni,Sq.list,np,paW]
 rw [hL]
 refine ⟨k.symm,?_,?_,?_,?_,?_,?_,?_,?_,?_,?_,?_,?_,?_⟩
 ·rw [dX]
  rw [bC]
  exact hd
 ·rw [iJ]
  rw [if_neg (by decide),if_neg (by decide)]
  exact za.symm
 ·rw [iK]
  rw [if_neg (by decide)]
  exact zb.symm
 ·rw [dZ]
  rw [if_neg (by decide)]
  exact zo.symm
 ·rw [fN]
  rw [if_neg (by decide),bC]
  rfl
 ·rw [eA]
  rw [if_neg (by decide)]
  exact zth.symm
 ·rw [eB]
  rw [if_neg (by decide)]
  exact zt.symm
 ·exact aQ (by rw [cO,if_neg (by decide)]) ni
 ·exact aQ (by rw [cQ,if_neg (by decide)]) nn
 ·rw [dY]
  rw [if_neg (by decide),if_neg (by decide)]
  exact zn.symm
 ·rw [fO]
  rw [if_neg (by decide),if_neg (by decide)]
  exact zp.symm
 ·exact eE (by rw [cR,if_neg (by decide)]; rfl) np
 ·exact aQ (by rw [cP,if_neg (by decide),if_neg (by decide)]) nl
theorem rt13 {e:Ev} (h:aS e=true) (k:e.kind=13):EvE (aW 13 (adv ⟨(us e).length,fun i=>(us e).getD i []⟩ 1)) e:=by
 have z:=iZ h
 have ff:=dC h
 have hn:=(bD h).2.2.2.2
 have hd:=fM h
 have hid:e.id=[]:=oM h (by rw [k]; decide)
 have zo:e.off=0:=by have:=z.off; simpa [k] using this
 have zth:e.oth=[]:=by have:=z.oth; simpa [k] using this
 have zt:e.txt=[]:=by have:=z.txt; simpa [k] using this
 have zn:e.num=⟨0,[],0,0⟩:=by have:=z.num; simpa [k] using this
 have zp:e.pt=(0,0):=by have:=z.pt; simpa [k] using this
 have nn:e.names.n=0:=by rcases cD h with q|⟨q,_⟩ <;> first|exact q|(rw [k] at q; exact absurd q (by decide))
 have nl:e.list.n=0:=by rcases cY h with q|⟨q,_⟩|⟨q,_⟩ <;> first|exact q|(rw [k] at q; exact absurd q (by decide))
 have ni:e.ids.n=0:=by rcases eC h with q|⟨q,_⟩ <;> first|exact q|(rw [k] at q; exact absurd q (by decide))
 have np:e.path.n=0:=by rcases cU h with q|q|q|q <;> first|exact q|(rw [k] at q; exact absurd q (by decide))
 have hL:us e=[bR.getD e.kind.toNat [],Lib.itoa e.day,Lib.itoa e.a,Lib.itoa e.b]:=by unfold us kpU; simp [k,hid,nn,nmU,nl,enU,ni,Sq.list,np,paW]
 rw [hL]
 refine ⟨k.symm,?_,?_,?_,?_,?_,?_,?_,?_,?_,?_,?_,?_,?_⟩
 ·rw [dX]
  rw [bC]
  exact hd
 ·rw [iJ]
  rw [if_neg (by decide),if_pos (by decide),bC]
  exact cN ff.a.1 (by have:=ff.a.2; omega)
 ·rw [iK]
  rw [if_pos (by decide),bC]
  exact cN ff.b.1 (by have:=ff.b.2; omega)
 ·rw [dZ]
  rw [if_neg (by decide)]
  exact zo.symm
 ·rw [fN]
  rw [if_pos (by decide)]
  exact hid.symm
 ·rw [eA]
  rw [if_neg (by decide)]
  exact zth.symm
 ·rw [eB]
  rw [if_neg (by decide)]
  exact zt.symm
 ·exact aQ (by rw [cO,if_neg (by decide)]) ni
 ·exact aQ (by rw [cQ,if_neg (by decide)]) nn
 ·rw [dY]
  rw [if_neg (by decide),if_neg (by decide)]
  exact zn.symm
 ·rw [fO]
  rw [if_neg (by decide),if_neg (by decide)]
  exact zp.symm
 ·exact eE (by rw [cR,if_neg (by decide)]; rfl) np
 ·exact aQ (by rw [cP,if_neg (by decide),if_neg (by decide)]) nl
theorem rt14 {e:Ev} (h:aS e=true) (k:e.kind=14):EvE (aW 14 (adv ⟨(us e).length,fun i=>(us e).getD i []⟩ 1)) e:=by
 have z:=iZ h
 have ff:=dC h
 have hn:=(bD h).2.2.2.2
 have hd:=fM h
 have hid:e.id=[]:=oM h (by rw [k]; decide)
 have zo:e.off=0:=by have:=z.off; simpa [k] using this
 have zth:e.oth=[]:=by have:=z.oth; simpa [k] using this
 have zt:e.txt=[]:=by have:=z.txt; simpa [k] using this
 have zn:e.num=⟨0,[],0,0⟩:=by have:=z.num; simpa [k] using this
 have zp:e.pt=(0,0):=by have:=z.pt; simpa [k] using this
 have nn:e.names.n=0:=by rcases cD h with q|⟨q,_⟩ <;> first|exact q|(rw [k] at q; exact absurd q (by decide))
 have nl:e.list.n=0:=by rcases cY h with q|⟨q,_⟩|⟨q,_⟩ <;> first|exact q|(rw [k] at q; exact absurd q (by decide))
 have ni:e.ids.n=0:=by rcases eC h with q|⟨q,_⟩ <;> first|exact q|(rw [k] at q; exact absurd q (by decide))
 have np:e.path.n=0:=by rcases cU h with q|q|q|q <;> first|exact q|(rw [k] at q; exact absurd q (by decide))
 have hL:us e=[bR.getD e.kind.toNat [],Lib.itoa e.day,Lib.itoa e.a,Lib.itoa e.b]:=by unfold us kpU; simp [k,hid,nn,nmU,nl,enU,ni,Sq.list,np,paW]
 rw [hL]
 refine ⟨k.symm,?_,?_,?_,?_,?_,?_,?_,?_,?_,?_,?_,?_,?_⟩
 ·rw [dX]
  rw [bC]
  exact hd
 ·rw [iJ]
  rw [if_neg (by decide),if_pos (by decide),bC]
  exact cN ff.a.1 (by have:=ff.a.2; omega)
 ·rw [iK]
  rw [if_pos (by decide),bC]
  exact cN ff.b.1 (by have:=ff.b.2; omega)
 ·rw [dZ]
  rw [if_neg (by decide)]
  exact zo.symm
 ·rw [fN]
  rw [if_pos (by decide)]
  exact hid.symm
 ·rw [eA]
  rw [if_neg (by decide)]
  exact zth.symm
 ·rw [eB]
  rw [if_neg (by decide)]
  exact zt.symm
 ·exact aQ (by rw [cO,if_neg (by decide)]) ni
 ·exact aQ (by rw [cQ,if_neg (by decide)]) nn
 ·rw [dY]
  rw [if_neg (by decide),if_neg (by decide)]
  exact zn.symm
 ·rw [fO]
  rw [if_neg (by decide),if_neg (by decide)]
  exact zp.symm
 ·exact eE (by rw [cR,if_neg (by decide)]; rfl) np
 ·exact aQ (by rw [cP,if_neg (by decide),if_neg (by decide)]) nl
theorem rt15 {e:Ev} (h:aS e=true) (k:e.kind=15):EvE (aW 15 (adv ⟨(us e).length,fun i=>(us e).getD i []⟩ 1)) e:=by
 have z:=iZ h
 have ff:=dC h
 have hn:=(bD h).2.2.2.2
 have hd:=fM h
 have hid:e.id≠[]:=eO (fX h (by rw [k]; decide) (by rw [k]; decide))
 have za:e.a=0:=by have:=z.a; simpa [k] using this
 have zb:e.b=0:=by have:=z.b; simpa [k] using this
 have zth:e.oth=[]:=by have:=z.oth; simpa [k] using this
 have zn:e.num=⟨0,[],0,0⟩:=by have:=z.num; simpa [k] using this
 have zp:e.pt=(0,0):=by have:=z.pt; simpa [k] using this
 have nn:e.names.n=0:=by rcases cD h with q|⟨q,_⟩ <;> first|exact q|(rw [k] at q; exact absurd q (by decide))
 have nl:e.list.n=0:=by rcases cY h with q|⟨q,_⟩|⟨q,_⟩ <;> first|exact q|(rw [k] at q; exact absurd q (by decide))
 have ni:e.ids.n=0:=by rcases eC h with q|⟨q,_⟩ <;> first|exact q|(rw [k] at q; exact absurd q (by decide))
 have np:e.path.n=0:=by rcases cU h with q|q|q|q <;> first|exact q|(rw [k] at q; exact absurd q (by decide))
 have hL:us e=[bR.getD e.kind.toNat [],Lib.itoa e.day,e.id,Lib.itoa e.off,e.txt]:=by unfold us kpU; simp [k,hid,nn,nmU,nl,enU,ni,Sq.list,np,paW]
 rw [hL]
 refine ⟨k.symm,?_,?_,?_,?_,?_,?_,?_,?_,?_,?_,?_,?_,?_⟩
 ·rw [dX]
  rw [bC]
  exact hd
 ·rw [iJ]
  rw [if_neg (by decide),if_neg (by decide)]
  exact za.symm
 ·rw [iK]
  rw [if_neg (by decide)]
  exact zb.symm
 ·rw [dZ]
  rw [if_pos rfl,bC]
  exact cN ff.off.1 (by have:=ff.off.2; omega)
 ·rw [fN]
  rw [if_neg (by decide),bC]
  rfl
 ·rw [eA]
  rw [if_neg (by decide)]
  exact zth.symm
 ·rw [eB]
  rw [if_pos (by decide),bC]
  rfl
 ·exact aQ (by rw [cO,if_neg (by decide)]) ni
 ·exact aQ (by rw [cQ,if_neg (by decide)]) nn
 ·rw [dY]
  rw [if_neg (by decide),if_neg (by decide)]
  exact zn.symm
 ·rw [fO]
  rw [if_neg (by decide),if_neg (by decide)]
  exact zp.symm
 ·exact eE (by rw [cR,if_neg (by decide)]; rfl) np
 ·exact aQ (by rw [cP,if_neg (by decide),if_neg (by decide)]) nl
theorem rt {e:Ev} (h:aS e=true):EvE (cdV (cB e)) e:=by
 rw [Wp h]
 obtain ⟨⟨k1,k2⟩,_⟩:=bD h
 rcases kinds k1 k2 with k|k|k|k|k|k|k|k|k|k|k|k|k|k|k
 ·have:=rt1 h k; rw [<- k] at this; exact this
 ·have:=rt2 h k; rw [<- k] at this; exact this
 ·have:=rt3 h k; rw [<- k] at this; exact this
 ·have:=rt4 h k; rw [<- k] at this; exact this
 ·have:=rt5 h k; rw [<- k] at this; exact this
 ·have:=rt6 h k; rw [<- k] at this; exact this
 ·have:=rt7 h k; rw [<- k] at this; exact this
 ·have:=rt8 h k; rw [<- k] at this; exact this
 ·have:=rt9 h k; rw [<- k] at this; exact this
 ·have:=rt10 h k; rw [<- k] at this; exact this
 ·have:=rt11 h k; rw [<- k] at this; exact this
 ·have:=rt12 h k; rw [<- k] at this; exact this
 ·have:=rt13 h k; rw [<- k] at this; exact this
 ·have:=rt14 h k; rw [<- k] at this; exact this
 ·have:=rt15 h k; rw [<- k] at this; exact this
theorem I0 {e:Ev} (h:aS e=true):dN (cB e)=true/\EvE (fA (cB e)) e:=by
 have r:=rt h
 have hb:dN (cB e)=true:=by
  unfold dN
  rw [pT r,h,mG r,decide_eq_true rfl]
  rfl
 refine ⟨hb,?_⟩
 unfold fA
 rw [if_pos hb]
 exact r
theorem Ml {a b:Ev} (ha:aS a=true) (hb:aS b=true) (e:cB a=cB b):EvE a b:=by
 have r:=rt ha
 rw [e] at r
 exact r.symm.trans (rt hb)
end RT6
end
section
open Go Go.Eng Go.Proofs G1 G2 G3 G4 G6 G7 EV0 N1 N2 F1 F2 F3 F4 F5 F6 F7 F8 F9 F10 F11 F12 F13 F14 F16 F17 F18 F19 F20 F21 F22 F23 RT3 RT6
namespace RT11
structure smV (e:Ev):Prop where
 id:e.id.length<=100
 oth:e.oth.length<=100
 txt:e.txt.length<=100
 num:e.num.l.length<=100
 ids:∀ i,i < e.ids.n->(e.ids.f i).length<=100
 names:∀ i,i < e.names.n->(e.names.f i).lang.length<=100/\(e.names.f i).text.length<=100
 list:∀ i,i < e.list.n->(e.list.f i).id.length<=100/\(e.list.f i).num.l.length<=100
theorem Qu {e:Ev} (h:gY e=true):smV e:=by
 unfold gY Fw at h
 simp only [Bool.and_eq_true,Bool.not_eq_true',Bool.or_eq_false_iff,decide_eq_false_iff_not] at h
 obtain ⟨⟨⟨⟨⟨⟨⟨⟨a1,a2⟩,a3⟩,a4⟩,a5⟩,a6⟩,a7⟩,a8⟩,h1,h2,h3⟩:=h
 constructor
 ·omega
 ·omega
 ·omega
 ·omega
 ·intro i hi
  have:=bE.1 h1 i hi
  unfold uO at this
  rw [decide_eq_false_iff_not] at this
  omega
 ·intro i hi
  have:=bE.1 h2 i hi
  unfold sR at this
  rw [Bool.or_eq_false_iff,decide_eq_false_iff_not,decide_eq_false_iff_not] at this
  omega
 ·intro i hi
  have:=bE.1 h3 i hi
  unfold sQ at this
  rw [Bool.or_eq_false_iff,decide_eq_false_iff_not,decide_eq_false_iff_not] at this
  omega
theorem S4 {h:Hn} (h0:h.l.length<=100) (hv:cE h=true):(dI h).length<=300:=by
 have hb:=uF hv
 have l0:=Lib.itoa_length_le h.n hb.1.1.1 hb.1.1.2
 have l1:=Lib.itoa_length_le h.num hb.1.2.1.1 hb.1.2.1.2
 have l2:=Lib.itoa_length_le h.den hb.1.2.2.1 hb.1.2.2.2
 unfold dI
 split
 ·simp; omega
 ·simp; omega
theorem Je {x:Hn} (h:x.l.length<=100):(kV x).length<=400:=by
 unfold kV
 rw [rP]
 split
 ·have:=S4 h (by assumption); omega
 ·simp
theorem Dr {p:Pt} (h:onB p=true):(dD p).length<=400:=by
 have h1:=As h
 have l0:=Lib.itoa_length_le p.1 h1.1.1 h1.1.2
 have l1:=Lib.itoa_length_le p.2 h1.2.1 h1.2.2
 unfold dD
 simp
 omega
theorem sZ {n:Int} (h0:0<=n) (h1:n<=100000):(Lib.itoa n).length<=400:=by
 have:=Lib.itoa_length_le n (by omega) (by omega)
 omega
theorem Wa {e:Ev} (h:smV e) (ff:FF e):∀ w∈wl e,w.length<=400:=by
 have ok:∀ s:B,s.length<=100->s.length<=400:=fun s hs=>by omega
 have qk:∀ s:B,s.length<=100->(kI s).length<=400:=fun s hs=>by rw [rP]; omega
 have hk:∀ w∈kp e,w.length<=400:=by
  have i1:=sZ ff.a.1 (by have:=ff.a.2; omega)
  have i2:=sZ ff.b.1 (by have:=ff.b.2; omega)
  have i3:=sZ ff.off.1 (by have:=ff.off.2; omega)
  have i4:=Je h.num
  have i5:=Dr ff.pt
  have i6:=ok _ h.oth
  have i7:=ok _ h.txt
  have i8:=qk _ h.txt
  unfold kp
  repeat' split
  all_goals simp_all
 have hn:∀ i,i<=e.names.n->∀ w∈nmW e.names i,w.length<=400:=by
  intro i
  induction i with
  | zero=>intro _ w hw; cases hw
  | succ i ih =>
   intro hi w hw
   simp only [nmW,List.mem_append] at hw
   have s:=ff.scr i (by omega)
   rcases hw with hw|hw
   ·exact ih (by omega) w hw
   ·have o:=h.names i (by omega)
    have i1:=ok _ o.1
    have i2:=qk _ o.2
    have i3:=sZ s.1 (by have:=s.2; omega)
    simp at hw
    rcases hw with rfl|rfl|rfl <;> assumption
 have hl:∀ i,i<=e.list.n->∀ w∈enW e.kind e.list i,w.length<=400:=by
  intro i
  induction i with
  | zero=>intro _ w hw; cases hw
  | succ i ih =>
   intro hi w hw
   simp only [enW,List.mem_append] at hw
   have s:=Dr (ff.lst i (by omega))
   have o:=h.list i (by omega)
   have i1:=ok _ o.1
   have i2:=Je o.2
   rcases hw with hw|hw|hw
   ·exact ih (by omega) w hw
   ·simp at hw
    rcases hw with rfl|rfl <;> assumption
   ·split at hw
    ·simp at hw; subst hw; exact s
    ·cases hw
 have hp:∀ i,i<=e.path.n->∀ w∈paW e.path i,w.length<=400:=by
  intro i
  induction i with
  | zero=>intro _ w hw; cases hw
  | succ i ih =>
   intro hi w hw
   simp only [paW,List.mem_append] at hw
   rcases hw with hw|hw
   ·exact ih (by omega) w hw
   ·simp at hw; subst hw; exact Dr (ff.pth i (by omega))
 intro w hw
 unfold wl w5 w4 w3 w2 w1 w0 at hw
 simp only [List.mem_append] at hw
 rcases hw with (((((hw|hw)|hw)|hw)|hw)|hw)|hw
 ·simp at hw
  rcases hw with rfl|rfl
  ·have:=Fa e.kind.toNat
   rw [List.getD_eq_getElem?_getD] at this
   omega
  ·exact sZ ff.day.1 ff.day.2
 ·split at hw
  ·cases hw
  ·simp at hw; subst hw; exact ok _ h.id
 ·exact hk w hw
 ·exact hn _ (Nat.le_refl _) w hw
 ·exact hl _ (Nat.le_refl _) w hw
 ·exact hp _ (Nat.le_refl _) w hw
 ·unfold Sq.list at hw
  obtain ⟨i,hi,rfl⟩:=List.mem_map.1 hw
  exact ok _ (h.ids i (List.mem_range.1 hi))
theorem Qp {e:Ev} (h:gY e=true):okT (cB e):=by
 unfold cB
 split
 ·have ff:=dC (by assumption)
  have h1:=oT (Wa (Qu h) ff)
  have h2:(wl e).length<=199:=by
   have:=Dy ff
   have:=ff.ids
   unfold wl
   rw [List.length_append,gQ]
   omega
  have h3:(wl e).length * (400+1)<=199 * (400+1):=Nat.mul_le_mul_right _ h2
  show (Lib.join (wl e) [32]).length<=1000000
  omega
 ·exact Nat.zero_le _
theorem Ed:okV ev00:=⟨Nat.zero_le _,Nat.zero_le _,Nat.zero_le _,⟨Nat.zero_le _,fun i hi=>absurd hi (Nat.not_lt_zero i)⟩,⟨Nat.zero_le _,fun i hi=>absurd hi (Nat.not_lt_zero i)⟩,Nat.zero_le _,Nat.zero_le _,⟨Nat.zero_le _,fun i hi=>absurd hi (Nat.not_lt_zero i)⟩⟩
theorem Eh {t:B} (h:okT t):okV (fA t):=by
 unfold fA
 split
 ·exact wV (bF (D1 h)) _
 ·exact Ed
theorem Qs {t:B} (h:dN t=false):fA t=ev00:=if_neg (by rw [h]; decide)
theorem Ei {t:B} (h:dN t=true):aS (fA t)=true/\cB (fA t)=t:=by
 have e:fA t=cdV t:=if_pos h
 unfold dN at h
 rw [Bool.and_eq_true,decide_eq_true_iff] at h
 rw [e]
 exact h
theorem Km:gS ev00 ev00=true:=rQ.2 (EvE.refl _)
theorem Sn {e:Ev} (h:aS e=true):gS (fA (cB e)) e=true:=rQ.2 (I0 h).2
theorem Sr {a b:Ev} (ha:aS a=true) (hb:aS b=true):decide (cB a=cB b)=gS a b:=by
 rw [Bool.eq_iff_iff,decide_eq_true_iff,rQ]
 exact ⟨Ml ha hb,fun h=>mG h⟩
end RT11
end
