/- A part of the proof. -/
import Derived.Test.YtijddkljgihcnaaGreatDoorS13
import Derived.Shelf.SortM.Plain
import Derived.Shelf.SortM.SortNone
import Derived.Sort.OwnSorted
import Derived.Ground.SlgmProg
import Derived.Test.YtijddkljgihcnaaGreatDoorProg
import Derived.KernelRfl
import Derived.Test.YtijddkljgihcnaaGreatDoorS18
section
namespace Go.Eng
open Go Go.RowKit Go.Proofs Go.Shelf Go.Sort
def mC (l:List (List UInt8)) (i:Nat):SV:=.cons (.str (l.getD i [])) .nil
def bE (l:List (List UInt8)):List (List UInt8):=l.mergeSort fun x y=>decide (x<=y)
def Ah (T:Nat):bZ where
 X:=List (List UInt8)
 Y:=Unit
 args:=fun l=>.cons (.lsl 0 1 l.length) .nil
 pre:=fun l=>l.length < 4611686018427387904
 h0:=fun l=>[(0,.arr T 1 l.length (mC l))]
 nx0:=1
 post:=fun _ _=>True
 res:=fun _ _=>.val (.tuple #[])
 h1:=fun l _=>[(0,.arr T 1 (bE l).length (mC (bE l)))]
 nx1:=1
theorem kW {id:Nat} {o o':aG} {n:Nat} (_hid:id < FB) (hs:solid? o=some o) (h:hget [(id,o)] n=some o'):n=id/\o'=o:=by
 unfold hget at h
 split at h
 ·rw [get?_cons] at h
  split at h
  ·rename_i e
   simp only [Option.bind_some,hs,Option.some.injEq] at h
   exact ⟨e.symm,h.symm⟩
  ·cases h
 ·split at h
  ·rename_i f hf
   rw [get?_cons] at hf
   split at hf
   ·cases hf
    cases hs
   ·cases hf
  ·cases h
theorem yQ {T k:Nat} {enc:Nat->SV} (n:Nat):hget [(0,.arr T k 0 enc)] n=none:=by
 rw [sO fS (fun f e=>by cases e) rfl]
 exact eP n
theorem aL.reU {w:World} {T U U':Nat->Prop} {μ pin:Nat->Option (Nat×Nat)} {np:Nat} {hp:List (Nat×aG)} {nx:Nat} {w':World} (h:aL (bT w T U pin np) μ hp nx w') (hv:∀ n,hget hp n=none):aL (bT w T U' pin np) μ hp nx w' where
 obj:=⟨h.obj.keys,fun id o e=>by rw [hv] at e; cases e⟩
 inj:=fun id id' o o' b c c' e=>by rw [hv] at e; cases e
 mine:=fun id o b c e=>by rw [hv] at e; cases e
 keys:=h.keys
 nx:=h.nx
 fam:=h.fam
 pin:=h.pin
 frm:=h.frm
theorem Gy {E:Env} {l:List (List UInt8)} {i:Nat} {vs:List Value}:R E (mC l i) vs ↔ vs=[encStr (l.getD i [])]:=by
 simp only [mC,R]
 constructor
 ·rintro ⟨x,xs,rfl,h1,rfl⟩
  rw [List.singleton_inj.1 h1]
 ·rintro rfl
  exact ⟨_,[],rfl,rfl,rfl⟩
section
variable {P:Program} {ρ:Ren}
theorem Nk (L:SlLaysM.n6 P ρ) (T:Nat) (ef:∀ args w,(callFunc (ρ.f 6) args).run P w=.ok (.enter (ρ.f 6) args) w):(Ah T).Ok P (ρ.f 6):=by
 refine ⟨ef,?_⟩
 intro l w μ vs T0 U hU _ hh hpre hRa
 have hlen:l.length < 4611686018427387904:=hpre
 obtain ⟨v1,r1,rfl,q1,q2⟩:=(show ∃ v r,vs=v::r/\R (aC (bT w T0 U μ 1) μ [(0,.arr T 1 l.length (mC l))] w) (.lsl 0 1 l.length) [v]/\R (aC (bT w T0 U μ 1) μ [(0,.arr T 1 l.length (mC l))] w) .nil r by simpa only [Ah,R] using hRa)
 have e2:r1=[]:=by simpa only [R] using q2
 subst e2
 cases l with
 | nil =>
  obtain ⟨a0,e1⟩:∃ a0,v1=.slice a0 0 0:=by
   simp only [R] at q1
   rcases q1 with ⟨_,a0,h⟩|⟨h,_⟩
   ·exact ⟨a0,List.singleton_inj.1 h⟩
   ·simp at h
  subst e1
  refine (AnyM.slices_Sort_string_none L a0 0 w).mono ?_
  rintro e w' ⟨rfl,rfl⟩
  refine ⟨(),μ,trivial,?_,by simp only [Ah,R]⟩
  have e0:bE []=[]:=by simp [bE]
  show aL (bT w' T0 _ μ 1) μ [(0,.arr T 1 (bE []).length (mC (bE [])))] 1 w'
  rw [e0]
  exact aL.reU (hp:=[(0,.arr T 1 0 (mC []))]) hh (fun n=>yQ n)
 | cons a l0 =>
  generalize hl:a::l0=l at *
  have hpos:0 < l.length:=by rw [<- hl]; simp
  have hh0:aL (bT w T0 U μ 1) μ [(0,.arr T 1 l.length (mC l))] 1 w:=hh
  have fb:(0:Nat) < FB:=by decide
  have hg0:hget [(0,aG.arr T 1 l.length (mC l))] 0=some (.arr T 1 l.length (mC l)):=by
   rw [cE fb]; exact aU hpos
  obtain ⟨b,c,x,m1,hb,hx⟩:=hh0.obj.obj 0 _ hg0
  have m1':μ 0=some (b,c):=m1
  have hb':w.heap[b]?=some x:=hb
  obtain ⟨cs,rfl,hcl,hlc,hel⟩:=hx
  simp only [R] at q1
  rcases q1 with ⟨e,_⟩|⟨_,b2,c2,m2,hv,hle⟩
  ·omega
  have m2':μ 0=some (b2,c2):=m2
  rw [m1'] at m2'
  obtain ⟨rfl,rfl⟩:b=b2/\c=c2:=by simpa using m2'
  have hv1:v1=.slice (some ⟨b,0,none⟩) l.length c:=by simpa using hv
  subst hv1
  have cellsAt:∀ i,i < l.length->cs[i]?=some (encStr (l.getD i [])):=by
   intro i hi
   obtain ⟨xs,r1,_,r3⟩:=hel i hi
   rw [Gy] at r1
   subst r1
   have:=r3 0 _ rfl
   simpa using this
  have hH:Go.Sort.Holds encStr w b 0 l.toArray:=by
   intro j hj
   have hj':j < l.length:=by simpa using hj
   have hc:=cellsAt j hj'
   refine ⟨?_,by simp [World.frozen?,hb']⟩
   rw [getElem!_pos l.toArray j hj]
   simp only [World.cell?,hb',Option.isSome_none,Bool.false_eq_true,if_false,Nat.zero_add]
   rw [List.getD_eq_getElem?_getD,List.getElem?_eq_getElem hj'] at hc
   simpa using hc
  have hblk:b < w.heap.size:=(Array.getElem?_eq_some_iff.1 hb').1
  have main:=AnyM.slices_Sort_string L b 0 c l w hH hblk hlen
  refine main.mono ?_
  rintro e w' ⟨rfl,q,os,rfl⟩
  have hyl:(bE l).length=l.length:=by simp [bE]
  have hypos:0 < (bE l).length:=by omega
  refine ⟨(),μ,trivial,?_,by simp only [Ah,R]⟩
  show aL (bT w T0 _ μ 1) μ [(0,.arr T 1 (bE l).length (mC (bE l)))] 1 _
  generalize hW:grow (putRow encStr (Sort.ahead w q) b 0 (l.mergeSort fun x y=>decide (x<=y)).toArray) os=W
  have hheap:W.heap[b]?=some (.cells (putCells encStr 0 (bE l).toArray cs.toArray) T (0,0)):=by
   rw [<- hW,heap_grow_old _ _ (by simpa [putRow,mapBlock,Sort.ahead] using hblk)]
   simp [putRow,mapBlock,Sort.ahead,Array.getElem?_modify,hb',onCells,bE]
  have hother:∀ i,i≠b->i < w.heap.size->W.heap[i]?=w.heap[i]?:=by
   intro i hi hlt
   rw [<- hW,heap_grow_old _ _ (by simpa [putRow,mapBlock,Sort.ahead] using hlt)]
   simp [putRow,mapBlock,Sort.ahead,Array.getElem?_modify,Ne.symm hi]
  have hsz:w.heap.size<=W.heap.size:=by
   rw [<- hW,size_grow]
   simp [putRow,mapBlock,Sort.ahead]
  have hg1:hget [(0,aG.arr T 1 (bE l).length (mC (bE l)))] 0=some (.arr T 1 (bE l).length (mC (bE l))):=by
   rw [cE fb]; exact aU hypos
  refine ⟨⟨?_,?_⟩,?_,?_,?_,hh0.nx,?_,hh0.pin,?_⟩
  ·intro i o e
   rw [get?_cons] at e
   split at e
   ·rename_i h; rw [<- h]; exact fb
   ·cases e
  ·intro i o e
   obtain ⟨rfl,rfl⟩:=kW fb (aU hypos) e
   refine ⟨b,c,_,m1',hheap,?_⟩
   refine ⟨(putCells encStr 0 (bE l).toArray cs.toArray).toList,by simp,by simp [putCells,hcl],by omega,?_⟩
   intro i hi
   refine ⟨_,Gy.2 rfl,rfl,?_⟩
   intro j v hv
   have hj:j=0:=by
    have:=(List.getElem?_eq_some_iff.1 hv).1
    simpa using this
   subst hj
   have hv':v=encStr ((bE l).getD i []):=by simpa using hv.symm
   have hlc':i < cs.length:=by omega
   simp only [putCells,Array.toList_mapIdx,List.getElem?_mapIdx,Nat.mul_one,Nat.add_zero,List.getElem?_eq_getElem hlc',Option.map_some,Nat.zero_le,true_and,Nat.zero_add,List.size_toArray,hi,if_true,Nat.sub_zero]
   rw [hv']
   congr 2
   rw [List.getD_eq_getElem?_getD,List.getElem?_eq_getElem hi,getElem!_pos (bE l).toArray i (by simpa using hi)]
   simp
  ·intro i i' o o' b0 c0 c0' e e' _ _
   obtain ⟨rfl,_⟩:=kW fb (aU hypos) e
   obtain ⟨rfl,_⟩:=kW fb (aU hypos) e'
   rfl
  ·intro i o b0 c0 e em
   obtain ⟨rfl,_⟩:=kW fb (aU hypos) e
   exact hh0.mine 0 _ b0 c0 hg0 em
  ·intro i o e
   rw [get?_cons] at e
   split at e
   ·rename_i h; rw [<- h]; exact Nat.zero_lt_one
   ·cases e
  ·intro i p e hge
   obtain ⟨o,ho⟩:=hh0.fam i p e hge
   obtain ⟨rfl,_⟩:=kW fb (aU hpos) ho
   omega
  ·refine ⟨?_,?_,?_,hsz,?_,?_⟩
   ·rw [<- hW]; rfl
   ·rw [<- hW]; rfl
   ·rw [<- hW]; rfl
   ·intro i hi hT
    refine hother i ?_ hi
    rintro rfl
    rcases hh0.mine 0 _ i c hg0 m1' with h|h
    ·exact hT h
    ·have:w.heap.size<=i:=h
     omega
   ·rw [<- hW]
    refine fun _=>?_
    show w.drawn<=w.drawn+q
    omega
end
end Go.Eng
end
section
namespace Go.Proofs
open Go.Shelf
def Tryz.Ge:Go.Shelf.Ren:=⟨fun|6=>70|8=>104|9=>103|19=>172|20=>173|21=>163|22=>164|23=>165|24=>166|25=>167|26=>168|27=>169|28=>170|29=>171|36=>215|31=>216|32=>217|37=>218|38=>219|39=>220|41=>247|n=>n,fun|27=>42|29=>9|3=>3|32=>151|26=>42|0=>0|44=>188|46=>190|4=>4|36=>181|35=>180|41=>185|5=>5|9=>9|53=>220|57=>224|63=>251|64=>252|n=>n,fun n=>n⟩
theorem Tryz.Wg:Go.Proofs.SlLaysM.n6 Tryz.prog Tryz.Ge:={
 mixed:=by kernel_rfl
 f6:=⟨Tryz.f70.name,by decide,Tryz.func70.trans (congrArg some (by kernel_rfl))⟩
 f8:=Tryz.func104.trans (congrArg some (by kernel_rfl))
 f9:=⟨Tryz.f103.name,by decide,Tryz.func103.trans (congrArg some (by kernel_rfl))⟩
 f19:=Tryz.func172.trans (congrArg some (by kernel_rfl))
 f20:=Tryz.func173.trans (congrArg some (by kernel_rfl))
 f21:=⟨Tryz.f163.name,by decide,Tryz.func163.trans (congrArg some (by kernel_rfl))⟩
 f22:=⟨Tryz.f164.name,by decide,Tryz.func164.trans (congrArg some (by kernel_rfl))⟩
 f23:=⟨Tryz.f165.name,by decide,Tryz.func165.trans (congrArg some (by kernel_rfl))⟩
 f24:=⟨Tryz.f166.name,by decide,Tryz.func166.trans (congrArg some (by kernel_rfl))⟩
 f25:=⟨Tryz.f167.name,by decide,Tryz.func167.trans (congrArg some (by kernel_rfl))⟩
 f26:=⟨Tryz.f168.name,by decide,Tryz.func168.trans (congrArg some (by kernel_rfl))⟩
 f27:=⟨Tryz.f169.name,by decide,Tryz.func169.trans (congrArg some (by kernel_rfl))⟩
 f28:=⟨Tryz.f170.name,by decide,Tryz.func170.trans (congrArg some (by kernel_rfl))⟩
 f29:=⟨Tryz.f171.name,by decide,Tryz.func171.trans (congrArg some (by kernel_rfl))⟩
 f31:=Tryz.func216.trans (congrArg some (by kernel_rfl))
 f32:=Tryz.func217.trans (congrArg some (by kernel_rfl))
 f36:=⟨Tryz.f215.name,by decide,Tryz.func215.trans (congrArg some (by kernel_rfl))⟩
 f37:=⟨Tryz.f218.name,by decide,Tryz.func218.trans (congrArg some (by kernel_rfl))⟩
 f38:=⟨Tryz.f219.name,by decide,Tryz.func219.trans (congrArg some (by kernel_rfl))⟩
 f39:=⟨Tryz.f220.name,by decide,Tryz.func220.trans (congrArg some (by kernel_rfl))⟩
 f41:=⟨Tryz.f247.name,by decide,Tryz.func247.trans (congrArg some (by kernel_rfl))⟩
 t0:=Tryz.underlying0
 a0:=Tryz.isAgg0
 z0:=Tryz.sizeOf0
 v0:=Tryz.zeroValue0
 t3:=Tryz.underlying3
 a3:=Tryz.isAgg3
 z3:=Tryz.sizeOf3
 v3:=Tryz.zeroValue3
 t4:=Tryz.underlying4
 a4:=Tryz.isAgg4
 z4:=Tryz.sizeOf4
 v4:=Tryz.zeroValue4
 t5:=Tryz.underlying5
 a5:=Tryz.isAgg5
 z5:=Tryz.sizeOf5
 v5:=Tryz.zeroValue5
 t9:=Tryz.underlying9
 a9:=Tryz.isAgg9
 z9:=Tryz.sizeOf9
 v9:=Tryz.zeroValue9
 t26:=Tryz.underlying42
 a26:=Tryz.isAgg42
 z26:=Tryz.sizeOf42
 v26:=Tryz.zeroValue42
 t27:=Tryz.underlying42
 a27:=Tryz.isAgg42
 z27:=Tryz.sizeOf42
 v27:=Tryz.zeroValue42
 t29:=Tryz.underlying9
 a29:=Tryz.isAgg9
 z29:=Tryz.sizeOf9
 v29:=Tryz.zeroValue9
 t32:=Tryz.underlying151
 a32:=Tryz.isAgg151
 z32:=Tryz.sizeOf151
 v32:=Tryz.zeroValue151
 t35:=Tryz.underlying180
 a35:=Tryz.isAgg180
 z35:=Tryz.sizeOf180
 v35:=Tryz.zeroValue180
 t36:=Tryz.underlying181
 a36:=Tryz.isAgg181
 z36:=Tryz.sizeOf181
 v36:=Tryz.zeroValue181
 t41:=Tryz.underlying185
 a41:=Tryz.isAgg185
 z41:=Tryz.sizeOf185
 v41:=Tryz.zeroValue185
 t44:=Tryz.underlying188
 a44:=Tryz.isAgg188
 z44:=Tryz.sizeOf188
 v44:=Tryz.zeroValue188
 t46:=Tryz.underlying190
 a46:=Tryz.isAgg190
 z46:=Tryz.sizeOf190
 v46:=Tryz.zeroValue190
 t53:=Tryz.underlying220
 a53:=Tryz.isAgg220
 z53:=Tryz.sizeOf220
 v53:=Tryz.zeroValue220
 t57:=Tryz.underlying224
 a57:=Tryz.isAgg224
 z57:=Tryz.sizeOf224
 v57:=Tryz.zeroValue224
 t63:=Tryz.underlying251
 a63:=Tryz.isAgg251
 z63:=Tryz.sizeOf251
 v63:=Tryz.zeroValue251
 t64:=Tryz.underlying252
 a64:=Tryz.isAgg252
 z64:=Tryz.sizeOf252
 v64:=Tryz.zeroValue252 }
end Go.Proofs
open Go Go.Eng Go.Proofs
set_option maxRecDepth 100000
namespace S19
def Gz:Eng.bZ:=Ah 9
theorem xY:Gz.Ok Tryz.prog 70:=Nk Tryz.Wg 9 (enters_of Tryz.func70 (by kernel_rfl) rfl)
end S19
end
section
open Go Go.Eng Go.Proofs F1 F2 F6 F10 G7 G4 L3 L10 G1 G3 EV0 S1 S10 S11 S12 S13 S14 S15 S16 S19
set_option maxRecDepth 100000
namespace S20
def liS (x:Sq B):List B:=(List.range x.n).map x.f
theorem wI (x:Sq B):(liS x).length=x.n:=by unfold liS; rw [List.length_map,List.length_range]
theorem I2 {x:Sq B} {j:Nat} (h:j < x.n):(liS x).getD j []=x.f j:=by
 unfold liS
 rw [List.getD_eq_getElem?_getD,List.getElem?_map,List.getElem?_range h]
 rfl
theorem xL (l:List B):(bE l).length=l.length:=by simp [bE]
def srQ (x:Sq B):Sq B:=⟨x.n,fun j=>(bE (liS x)).getD j []⟩
def lW (x:Sq B):Bool:=decide (((ddL (srQ x).f x.n).length:Int)=(x.n:Int))
def g48:List Nat:=[0,3,2]
def c48:aH :=
 .seq (.region g48 [(zo 2 (.move cF))]) (.seq (.region g48 [(mv 4 0),(zo 5 (.call (.c (.fn 69)) [.s 4])),(mv 0 5)]) (.seq (.region g48 [(mv 6 0),(zo 7 (.lenSl (.s 6))),(mv 3 7)]) (.seq (.region g48 [(mv 8 0),(zo 9 (.call (.c (.fn 70)) [.s 8]))]) (.seq (.region g48 [(mv 10 0),(zo 11 (.call (.c (.fn 71)) [.s 10])),(zo 12 (.lenSl (.s 11))),(mv 13 3),(zo 14 (.bin (.eql) (.s 12) (.s 13))),(mv 2 14)]) .ret))))
theorem e48:aI Tryz.prog 48 g48 [] [] []=some (c48,[.slot 2],15):=by kernel_rfl
def P6:Eng.Spec where
 X:=Sq B
 args:=fun x=>.cons (stE x) .nil
 pre:=fun x=>x.n<=10000000
 res:=fun x=>.bool (lW x)
 inst:=EV0.one stD
theorem Hs:P6.Ok Tryz.prog 48:=by
 refine Eng.Spec.okR e48 .nil (fun _=>[(69,.m Tw),(70,.m Gz),(71,.m T4)]) (fun _ _=>aA.m Pr (aA.m xY (aA.m Py aA.nil))) ?_
 rintro (x:Sq B) (hn:x.n<=10000000)
 have hl:=wI x
 have hs:=(xL (liS x)).trans hl
 have hp:(liS x).length < 4611686018427387904:=by rw [hl]; omega
 refine ⟨trivial,?_⟩
 repeat' (first|exact hn|apply And.intro|exact trivial|exact rfl|exact lz fun _=>rfl)
 refine Exists.intro x (Exists.intro [] ?_)
 repeat' (first|exact hn|apply And.intro|exact trivial|exact rfl|exact lz fun _=>rfl)
 refine fun (_:Unit) (_:True)=>?_
 repeat' (first|exact hn|apply And.intro|exact trivial|exact rfl|exact lz fun _=>rfl)
 refine Exists.intro (liS x) (Exists.intro [0] ?_)
 repeat' (first|exact hp|exact hl.symm|exact fun (j:Nat) (hj:j < x.n)=>EL.aV (congrArg stL (I2 hj).symm) (bX _ _ _ _)|apply And.intro|exact trivial|exact rfl|exact lz fun _=>rfl)
 refine fun (_:Unit) (_:True)=>?_
 repeat' (first|apply And.intro|exact trivial|exact rfl|exact lz fun _=>rfl)
 refine Exists.intro (srQ x) (Exists.intro [0] ?_)
 repeat' (first|exact hn|exact hs|exact hs.symm|exact fun (j:Nat) (hj:j < _)=>EL.aV rfl (bX _ _ _ _)|apply And.intro|exact trivial|exact rfl|exact lz fun _=>rfl)
 rintro (y:Sq B) ⟨(hy:y.n<=x.n),(he:lsR y.f y.n=ddL (srQ x).f x.n)⟩
 have el:y.n=(ddL (srQ x).f x.n).length:=by rw [<- he]; unfold lsR; rw [List.length_map,List.length_range]
 have e:decide ((y.n:Int)=(x.n:Int))=lW x:=by unfold lW; rw [<- el]
 repeat' (first|exact e|apply And.intro|exact trivial|exact rfl|exact lz fun _=>rfl)
end S20
end
