/- A part of the proof. -/
import Derived.Test.YtpiolkcdfgiefaaGreatDoorT2
import Derived.Test.YtpiolkcdfgiefaaGreatDoorT25
import Derived.Shelf.Strings.BuilderK
import Derived.WalkKit
import Derived.BigCall
import Derived.Test.YtpiolkcdfgiefaaGreatDoorProg
section
open Go Go.Eng Go.Proofs T1 T3 T23 T25 D3
set_option maxRecDepth 100000
namespace D6
def dP (l:List B):B:=(l.map fun s=>Lib.itoa (s.length:Int)++58::s).flatten
def kL (l:List B):B:=Nl (dP l)
def uZ:Eng.Spec where
 X:=List B
 args:=fun l=>.cons (slE l) .nil
 pre:=fun l=>l.length<=1000000/\(dP l).length<=140737488355328
 res:=fun l=>.str (kL l)
 inst:=fun _=>none
def Ma:aK:=uZ.mof B (fun x y=>y=kL x) (fun _ y=>.str y)
theorem Bv (h:uZ.Ok Tryz.prog 35):Ma.Ok Tryz.prog 35:=Eng.Spec.iN h fun _ _=>⟨_,rfl,rfl⟩
def bW (n:ND):List B:=[116,114,105,101]::Lib.itoa (n.ids.length:Int)::n.ids
def fH (n:ND):Nat->List B
 | 0=>[]
 | j+1=>fH n j++[(n.bys.drop j).take 1,n.kids.getD j []]
def kB (n:ND):B:=if n.bys.length=n.kids.length then kL (bW n++fH n n.kids.length) else []
def g19:List Nat:=[0,12,23,25,22,1,4,5,24,3,2]
def c19:aF :=
 .seq (.region g19 [(zo 1 (.box 39 (.s 0))),(zo 2 (.move (.c (.str []))))]) (.seq (.seq (.region g19 [(fa 6 1 1),(ld 7 6),(zo 8 (.lenStr (.s 7))),(fa 9 2 1),(ld 10 9),(zo 11 (.lenSl (.s 10))),(zo 12 (.bin (.neq) (.s 8) (.s 11)))]) (.cond (.s 12) (.seq (.region g19 [(zo 2 (.move (.c (.str []))))]) .ret) .skip)) (.seq (.drawn g19 (.pure 0 (fa 13 0 1) (.pure 1 (ld 14 13) (.pure 2 (zo 15 (.lenSl (.s 14))) (.pure 3 (zo 16 (.call (.c (.fn 52)) [.s 15])) (.pure 5 (fa 18 0 1) (.pure 6 (ld 19 18) (.eff 4 (zo 17 (.buildSl 9 1 2 (.cons (.str []) .nil) [(0,1,.c (.str [116,114,105,101])),(1,1,.s 16)])) [(ld 19 18)] (.eff 7 (zo 20 (.app 9 1 16 (.s 17) (.s 19))) [] (.pure 8 (mv 3 20) .done) .none) .none)))))))) (.seq (.seq (.region g19 [(fa 21 2 1),(ld 22 21),(zo 23 (.lenSl (.s 22))),(zo 24 (.move (cj 0)))]) (.block 0 (.loop 0 [25,26,27,28,4,5,29,30,31,32,33,34,35,36,37,38,3,39,24] (.seq (.region g19 [(zo 25 (.bin (.lss) (.s 24) (.s 23)))]) (.seq (.cond (.s 25) .skip (.exit 0)) (.seq (.block 1 (.seq (.region g19 [(mv 26 24),(zo 27 (.idxSl 1 (.s 22) (.s 24))),(ld 28 27),(mv 4 26),(mv 5 28)]) (.region g19 [(mv 29 3),(fa 30 1 1),(ld 31 30),(mv 32 4),(mv 33 4),(zo 34 (.bin (.add) (.s 33) (cj 1))),(zo 35 (.sliceStr (.s 31) (some (.s 32)) (some (.s 34)))),(mv 36 5),(zo 37 (.buildSl 9 1 2 (.cons (.str []) .nil) [(0,1,.s 35),(1,1,.s 36)])),(zo 38 (.app 9 1 16 (.s 29) (.s 37))),(mv 3 38)]))) (.region g19 [(zo 39 (.bin (.add) (.s 24) (cj 1))),(mv 24 39)]))))))) (.seq (.region g19 [(mv 40 3),(zo 41 (.call (.c (.fn 35)) [.s 40])),(mv 2 41)]) .ret))))
theorem e19:aO Tryz.prog 19 g19 [] [17] []=some (c19,[.slot 2],42):=by kernel_rfl
def Sm:Eng.Spec where
 X:=ND
 args:=fun n=>.cons (.agg (ndL n)) .nil
 pre:=fun n=>(n.ids.length<=100000/\n.kids.length<=100000)/\(dP (bW n++fH n n.kids.length)).length<=140737488355328
 res:=fun n=>.str (kB n)
 inst:=fun _=>none
theorem Lh (n:ND):(bW n++fH n 0).length=2+n.ids.length:=by simp [bW,fH]; omega
theorem yI {α:Type} (a b:Nat) (x y:α):(bif Nat.blt a b then x else y)=if a < b then x else y:=by
 by_cases h:a < b
 ·rw [show Nat.blt a b=true by rw [Nat.blt_eq]; exact h,if_pos h]; rfl
 ·have:Nat.blt a b=false:=by
   cases hb:Nat.blt a b with
   | false=>rfl
   | true=>rw [Nat.blt_eq] at hb; exact absurd hb h
  rw [this,if_neg h]; rfl
theorem S6 {k:Keep} {hp:List (Nat×aC)} (n:ND) {m:Nat}:∀ i,i < m->iC k (sub k hp 200) (dZ 2 (hZ (.cons (.cons (.str [116,114,105,101]) .nil) (.cons (.cons (.str (Lib.itoa (n.ids.length:Int))) .nil) .nil))) (fun i=>idE (n.ids.getD i [])) i) (idE ((bW n++fH n 0).getD i [])):=by
 intro i _
 have e:dZ 2 (hZ (.cons (.cons (.str [116,114,105,101]) .nil) (.cons (.cons (.str (Lib.itoa (n.ids.length:Int))) .nil) .nil))) (fun i=>idE (n.ids.getD i [])) i=idE ((bW n++fH n 0).getD i []):=by
  unfold dZ bW fH
  rw [yI,List.append_nil]
  match i with
  | 0=>rfl
  | 1=>rfl
  | i+2 =>
   rw [if_neg (by omega),Nat.add_sub_cancel]
   rfl
 rw [e]
 exact Or.inl (aL _ _ _ _)
theorem Bn (n:ND):∀ j,(fH n j).length=2 * j
 | 0=>rfl
 | j+1=>by rw [fH,List.length_append,Bn n j]; simp only [List.length_cons,List.length_nil]; omega
theorem pX (n:ND) (j:Nat):(bW n++fH n j).length=2+n.ids.length+2 * j:=by
 rw [List.length_append,Bn]
 simp only [bW,List.length_cons]
 omega
theorem Tg {k:Keep} {hp:List (Nat×aC)} {n:ND} {j:Nat} {x y:B} {m:Nat} (hx:x=(n.bys.drop j).take 1) (hy:y=n.kids.getD j []) (hm:m=(bW n++fH n j).length+2):∀ i,i < m->iC k (sub k hp 200) (dZ (bW n++fH n j).length (fun q=>idE ((bW n++fH n j).getD q [])) (fun q=>hZ (.cons (.cons (.str x) .nil) (.cons (.cons (.str y) .nil) .nil)) (0+q)) i) (idE ((bW n++fH n (j+1)).getD i [])):=by
 intro i hi
 subst hx hy hm
 rw [fH,<- List.append_assoc]
 generalize bW n++fH n j=L at *
 have e:dZ L.length (fun j=>idE (L.getD j [])) (fun q=>hZ (.cons (.cons (.str ((n.bys.drop j).take 1)) .nil) (.cons (.cons (.str (n.kids.getD j [])) .nil) .nil)) (0+q)) i=idE ((L++[(n.bys.drop j).take 1,n.kids.getD j []]).getD i []):=by
  unfold dZ
  rw [yI]
  by_cases h:i < L.length
  ·rw [if_pos h]
   show idE (L.getD i [])=_
   rw [List.getD_eq_getElem?_getD,List.getD_eq_getElem?_getD,List.getElem?_append_left h]
  ·rw [if_neg h]
   have e2:(L++[(n.bys.drop j).take 1,n.kids.getD j []]).getD i []=[(n.bys.drop j).take 1,n.kids.getD j []].getD (i - L.length) []:=by
    rw [List.getD_eq_getElem?_getD,List.getElem?_append_right (by omega),<- List.getD_eq_getElem?_getD]
   rw [e2]
   show hZ _ (0+(i - L.length))=_
   rw [Nat.zero_add]
   have hc:i - L.length=0\/i - L.length=1:=by omega
   rcases hc with hc|hc <;> rw [hc] <;> rfl
 rw [e]
 exact Or.inl (aL _ _ _ _)
theorem Qh {P:Nat->Prop} (h0:P 0) (h1:P 1):∀ j,j < 2->P j:=by
 intro j hj
 have hc:j=0\/j=1:=by omega
 rcases hc with rfl|rfl
 ·exact h0
 ·exact h1
theorem Du (hl:uZ.Ok Tryz.prog 35):Sm.Ok Tryz.prog 19:=by
 refine Eng.Spec.okR e19 .nil (fun _=>[(52,.p Bj),(35,.m Ma),(2097152,.own)]) (fun _ _=>aD.p D5.itoa (aD.m (Bv hl) (aD.o aD.nil))) ?_
 rintro ⟨ids,bys,kids⟩ ⟨⟨(h1:ids.length<=100000),(h2:kids.length<=100000)⟩,(h3:(dP (bW ⟨ids,bys,kids⟩++fH ⟨ids,bys,kids⟩ kids.length)).length<=140737488355328)⟩
 refine ⟨trivial,?_⟩
 repeat' (first|apply And.intro|exact trivial|exact rfl|exact zf|exact zh|refine zt ?_|fail)
 ·refine fun (h:(!decide ((bys.length:Int)=(kids.length:Int)))=true)=>?_
  have hne:¬ bys.length=kids.length:=by
   intro e
   rw [e] at h
   simp at h
  have e:[]=kB ⟨ids,bys,kids⟩:=(if_neg hne).symm
  repeat' (first|apply And.intro|exact trivial|exact rfl|exact e|fail)
 ·refine fun (h:(!decide ((bys.length:Int)=(kids.length:Int)))=false)=>?_
  have he:bys.length=kids.length:=by
   have:decide ((bys.length:Int)=(kids.length:Int))=true:=by revert h; cases decide ((bys.length:Int)=(kids.length:Int)) <;> simp
   have:=of_decide_eq_true this
   omega
  repeat' (first|apply And.intro|exact trivial|exact rfl|exact zf|exact zh|refine zt ?_|fail)
  ·show (-9223372036854775808:Int)<=(ids.length:Int)
   omega
  ·show (ids.length:Int)<=9223372036854775807
   omega
  ·exact fun _ _=>rfl
  ·show 2+ids.length<=9223372036854775807
   omega
  ·show (2+ids.length) * 16<=140737488355328
   omega
  refine ⟨⟨Nat,fun j=>j<=kids.length,fun j=>[(24,.int .i64 (j:Int)),(3,.lsl 30 1 (bW ⟨ids,bys,kids⟩++fH ⟨ids,bys,kids⟩ j).length)],fun j=>[lsH 30 (bW ⟨ids,bys,kids⟩++fH ⟨ids,bys,kids⟩ j)],fun j=>kids.length - j⟩,0,Nat.zero_le _,?_,?_⟩
  ·repeat' (first|apply And.intro|exact trivial|exact rfl|exact zf|exact zh|refine zt ?_|exact fun (j:Nat) (hj:j < _)=>Or.inl (aL _ _ _ _)|fail)
   ·exact (Lh ⟨ids,bys,kids⟩).symm
   ·exact (Lh ⟨ids,bys,kids⟩).symm
   ·exact S6 ⟨ids,bys,kids⟩
  rintro (j:Nat) (kj:j<=kids.length)
  repeat' (first|apply And.intro|exact trivial|exact rfl|exact zf|exact zh|refine zt ?_|fail)
  ·refine fun (hlt:decide ((j:Int) < (kids.length:Int))=true)=>?_
   replace hlt:j < kids.length:=by have:=of_decide_eq_true hlt; omega
   have g0:(0:Int)<=(j:Int):=by omega
   have g1:(j:Int) < (kids.length:Int):=by omega
   have g2:-9223372036854775808<=(j:Int)+1:=by omega
   have g3:(j:Int)+1<=9223372036854775807:=by omega
   have g4:(j:Int)<=(j:Int)+1:=by omega
   have g5:(j:Int)+1<=(bys.length:Int):=by omega
   have hal:=pX ⟨ids,bys,kids⟩ j
   have hal2:=pX ⟨ids,bys,kids⟩ (j+1)
   replace hal:(bW ⟨ids,bys,kids⟩++fH ⟨ids,bys,kids⟩ j).length=2+ids.length+2 * j:=hal
   replace hal2:(bW ⟨ids,bys,kids⟩++fH ⟨ids,bys,kids⟩ (j+1)).length=2+ids.length+2 * (j+1):=hal2
   have g6:(bW ⟨ids,bys,kids⟩++fH ⟨ids,bys,kids⟩ j).length+2<=9223372036854775807:=by omega
   have g7:((bW ⟨ids,bys,kids⟩++fH ⟨ids,bys,kids⟩ j).length+2) * 16<=140737488355328:=by omega
   have g8:kids.length - (j+1) < kids.length - j:=by omega
   have g9:(bW ⟨ids,bys,kids⟩++fH ⟨ids,bys,kids⟩ j).length+2=(bW ⟨ids,bys,kids⟩++fH ⟨ids,bys,kids⟩ (j+1)).length:=by omega
   have hx:(bys.drop (j:Int).toNat).take (((j:Int)+1).toNat - (j:Int).toNat)=(bys.drop j).take 1:=by
    rw [Int.toNat_natCast,show ((j:Int)+1).toNat=j+1 by omega,Nat.add_sub_cancel_left]
   repeat' (first|apply And.intro|exact trivial|exact rfl|exact zf|exact zh|refine zt ?_|(with_reducible first|exact g0|exact g1|exact g2|exact g3)|fail)
   ·exact g4
   ·exact g5
   ·exact Nat.le_refl 2
   ·exact Qh rfl rfl
   ·exact g6
   ·exact g7
   refine Exists.intro (j+1) (And.intro hlt (And.intro ?_ g8))
   repeat' (first|apply And.intro|exact trivial|exact rfl|exact zf|exact zh|refine zt ?_|exact fun (j:Nat) (hj:j < _)=>Or.inl (aL _ _ _ _)|fail)
   ·exact g9
   ·exact g9
   ·exact Tg hx rfl rfl
  ·refine fun (hlt:decide ((j:Int) < (kids.length:Int))=false)=>?_
   replace hlt:j=kids.length:=by have:=of_decide_eq_false hlt; omega
   subst hlt
   repeat' (first|apply And.intro|exact trivial|exact rfl|exact zf|exact zh|refine zt ?_|fail)
   have hal:=pX ⟨ids,bys,kids⟩ kids.length
   replace hal:(bW ⟨ids,bys,kids⟩++fH ⟨ids,bys,kids⟩ kids.length).length=2+ids.length+2 * kids.length:=hal
   have g1:(bW ⟨ids,bys,kids⟩++fH ⟨ids,bys,kids⟩ kids.length).length<=1000000:=by omega
   refine Exists.intro (bW ⟨ids,bys,kids⟩++fH ⟨ids,bys,kids⟩ kids.length) (Exists.intro [] ?_)
   repeat' (first|exact g1|exact h3|apply And.intro|exact trivial|exact rfl|exact zf|exact zh|refine zt ?_|exact fun (j:Nat) (hj:j < _)=>Or.inl (aL _ _ _ _)|exact Nat.le_of_eq (Nat.zero_add _)|exact (fun (j:Nat) _=>by rw [Nat.zero_add]; exact Or.inl (aL _ _ _ _))|fail)
   refine fun (y:B) (hy:y=kL (bW ⟨ids,bys,kids⟩++fH ⟨ids,bys,kids⟩ kids.length))=>?_
   have he2:y=kB ⟨ids,bys,kids⟩:=by rw [hy]; exact (if_pos he).symm
   repeat' (first|exact he2|apply And.intro|exact trivial|exact rfl|exact zf|exact zh|refine zt ?_|exact fun (j:Nat) (hj:j < _)=>Or.inl (aL _ _ _ _)|fail)
end D6
end
section
namespace Go.Proofs
open Go.RowKit Go.Shelf
set_option maxRecDepth 1000000
def Tryz.xC:Go.Shelf.Ren:=⟨fun|167=>61|n=>Tryz.gD.f n,Tryz.gD.t,Tryz.gD.g⟩
theorem Tryz.Vl:Go.Proofs.Lays.n167 Tryz.prog Tryz.xC :=
 { Tryz.uY with
  f167:=Tryz.func61.trans (congrArg some (by kernel_rfl)) }
theorem Tryz.Q6:Go.Proofs.Lays.n166 Tryz.prog Tryz.gD:={ Tryz.uY with }
theorem Tryz.Vk:Go.Proofs.Lays.n169 Tryz.prog Tryz.gD:={ Tryz.uY with }
theorem Tryz.Wa:Builder.Extra Tryz.prog Tryz.xC:={ Tryz.bx with }
end Go.Proofs
namespace D7
open Go Go.Eng Go.Proofs Go.RowKit Go.Shelf T1 D3 D6
def uQ (s:B):B:=Lib.itoa (s.length:Int)++58::s
theorem Ep (n:Nat) (hn:n<=9223372036854775807) (w:World) (hg:GV w):Calls Tryz.prog 52 #[.int .i64 (n:Int)] w fun e w'=>e=.returned (.string ⟨(Lib.itoa (n:Int)).toArray⟩)/\RowKit.Below w.heap.size w w':=by
 refine (D5.itoa.does (n:Int) w [.int .i64 (n:Int)] (fun _=>False) (fun _ h=>h.elim) hg ⟨by omega,by omega⟩ ⟨_,_,rfl,rfl,rfl⟩).mono ?_
 intro e w' he
 cases e with
 | returned v =>
  obtain ⟨h1,h2⟩:=he
  exact ⟨by rw [List.singleton_inj.1 h1],h2.row⟩
 | panicked c=>exact he.elim
 | outgrown=>exact he.elim
theorem Js (hs:Nk.Ok Tryz.prog 62) (t:B) (ht:t.length < 4611686018427387904) (w:World) (hg:GV w):Calls Tryz.prog 62 #[.string ⟨t.toArray⟩] w fun e w'=>e=.returned (.string ⟨(Nl t).toArray⟩)/\RowKit.Below w.heap.size w w':=by
 refine (hs.does t w [.string ⟨t.toArray⟩] (fun _=>False) (fun _ h=>h.elim) hg ht ⟨_,_,rfl,rfl,rfl⟩).mono ?_
 intro e w' he
 cases e with
 | returned v =>
  obtain ⟨h1,h2⟩:=he
  exact ⟨by rw [List.singleton_inj.1 h1],h2.row⟩
 | panicked c=>exact he.elim
 | outgrown=>exact he.elim
theorem wM {T e:TypeId} {B b:Nat} {p:Value} {bs:List Value} {W W':World} (h:Lib.BuilderAtF T e B b p bs W) (hb:RowKit.Below W.heap.size W W'):Lib.BuilderAtF T e B b p bs W':=by
 have hlt:=h.lt
 obtain ⟨hB,v,hv,hown,hne⟩:=h
 exact ⟨hB,v,(hb.block b hlt).trans hv,hown.kept (row:=none) ⟨hb.os,hb.tape,hb.output,hb.size,fun k hk _=>hb.block k hk⟩ (Classical.em _),hne⟩
theorem Ir {T e:TypeId} {B b:Nat} {bs:List Value} {W W':World} (h:Lib.IsBuilderF T e B b bs W) (hb:RowKit.Below W.heap.size W W'):Lib.IsBuilderF T e B b bs W' :=
 h.elim (fun x=>.inl (wM x hb)) (fun x=>.inr (wM x hb))
theorem An {l:List B} (_hn:l.length<=1000000) (hj:(dP l).length<=140737488355328) (i:Nat) (hi:i < l.length):(dP (l.take i)).length+(uQ (l.getD i [])).length<=140737488355328:=by
 have e:dP l=dP (l.take i)++(uQ (l.getD i [])++dP (l.drop (i+1))):=by
  have e1:l=l.take i++(l.getD i []::l.drop (i+1)):=by
   rw [List.getD_eq_getElem?_getD,List.getElem?_eq_getElem hi,Option.getD_some,<- List.drop_eq_getElem_cons hi,List.take_append_drop]
  conv=>lhs; rw [e1]
  simp only [dP,List.map_append,List.map_cons,List.flatten_append,List.flatten_cons]
  rfl
 rw [e,List.length_append,List.length_append] at hj
 omega
theorem blw {B:Nat} {w w':World} (h:RowKit.Below B w w'):Eng.Below B w w':=by
 exact .nK h (DLe.no rfl)
theorem Lf {w w':World} (h:GV w) (b:RowKit.Below w.heap.size w w'):GV w':=h.below (blw b)
theorem Er {l:List B} (i:Nat) (hi:i < l.length):dP (l.take (i+1))=dP (l.take i)++uQ (l.getD i []):=by
 rw [List.take_add_one,dP,dP,List.map_append,List.flatten_append,List.getD_eq_getElem?_getD,List.getElem?_eq_getElem hi]
 simp [uQ]
set_option maxHeartbeats 1000000 in
theorem Mb (hs:Nk.Ok Tryz.prog 62) (l:List B) (a:Option Addr) (cap:Nat) (w:World) (hgv:GV w) (hn:l.length<=1000000) (hj:(dP l).length<=140737488355328)
  (hel:∀ i,i < l.length->∃ b off,a=some ⟨b,off,none⟩/\b < w.heap.size/\w.cell? ⟨b,off+i,none⟩=some (.string ⟨(l.getD i []).toArray⟩)) :
  Calls Tryz.prog 35 #[.slice a l.length cap] w fun e w'=>e=.returned (.string ⟨(kL l).toArray⟩)/\RowKit.Below w.heap.size w w':=by
 have b0:RowKit.Below w.heap.size w (w.alloc (.cells #[.pointer none,.slice none 0 0] 89)):=(RowKit.Below.refl _ w).alloc (Nat.le_refl _) _
 have h0:Lib.IsBuilderF 89 5 w.heap.size w.heap.size [] (w.alloc (.cells #[.pointer none,.slice none 0 0] 89)):=Lib.IsBuilderF.of (Lib.fresh_isBuilder 89 5 w)
 go_enter Tryz.func35,Tryz.ntmps35
 go_wp2
 go_loopg [8] l.length (fun g s8 wx=>∃ i:Nat,s8=.int .i64 (i:Int)/\i+g=l.length/\Lib.IsBuilderF 89 5 w.heap.size w.heap.size (Lib.byteCells (dP (l.take i))) wx/\RowKit.Below w.heap.size w wx)
 case atStart=>exact ⟨0,rfl,by omega,h0,b0⟩
 case round =>
  obtain ⟨i,rfl,hig,hB,hbx⟩:=hrel
  cases gk with
  | zero =>
   obtain rfl:i=l.length:=by omega
   have hno:¬ ((l.length:Int) < (l.length:Int)):=Int.lt_irrefl _
   rw [List.take_length] at hB
   have cStr:Calls Tryz.prog 63 #[.pointer (some ⟨w.heap.size,0,none⟩)] wr fun e w'=>e=.returned (.string ⟨(dP l).toArray⟩)/\(Lib.IsBuilderF 89 5 w.heap.size w.heap.size (Lib.byteCells (dP l)) w'/\RowKit.Below w.heap.size wr w') :=
    Any.Builder_String_any_f Tryz.Vk Tryz.bx w.heap.size w.heap.size (dP l) wr hB hbx.size
   go_wp2_with (go_at_call 63; go_fit cStr; rintro e W1 ⟨rfl,h1,b1⟩)
   have cSum:=Js hs (dP l) (by omega) W1 (Lf hgv (hbx.trans b1))
   go_wp2_with (go_at_call 62; go_fit cSum; rintro e W2 ⟨rfl,b2⟩)
   go_ret
   exact ⟨rfl,hbx.trans (b1.trans (b2.mono (Nat.le_trans hbx.size b1.size)))⟩
  | succ g =>
   have hil:i < l.length:=by omega
   have hil':(i:Int) < (l.length:Int):=by omega
   obtain ⟨b,off,rfl,hb,hc⟩:=hel i hil
   have hc2:=(hbx.cell (p:=⟨b,off+i,none⟩) hb).trans hc
   obtain ⟨s,hs'⟩:∃ s,l.getD i []=s:=⟨_,rfl⟩
   have hsl:=An hn hj i hil
   rw [hs'] at hc2 hsl
   obtain ⟨S,hS⟩:∃ S:ByteArray,(⟨s.toArray⟩:ByteArray)=S:=⟨_,rfl⟩
   rw [hS] at hc2
   have hSz:S.size=s.length:=by rw [<- hS]; rfl
   have hlen:(uQ s).length=(Lib.itoa (s.length:Int)).length+(s.length+1):=by rw [uQ,List.length_append,List.length_cons]
   have cI:=Ep s.length (by omega) wr (Lf hgv hbx)
   obtain ⟨I,hI⟩:∃ I:ByteArray,(⟨(Lib.itoa (s.length:Int)).toArray⟩:ByteArray)=I:=⟨_,rfl⟩
   rw [hI] at cI
   have hId:I.data.toList=Lib.itoa (s.length:Int):=by rw [<- hI]
   have hIz:I.size=(Lib.itoa (s.length:Int)).length:=by rw [Lib.size_eq,hId]
   have hSd:S.data.toList=s:=by rw [<- hS]
   go_wp2_with (go_at_call 52; go_fit cI; rintro e W1 ⟨rfl,b1⟩)
   have cW:Calls Tryz.prog 60 #[.pointer (some ⟨w.heap.size,0,none⟩),.string I] W1 fun e w'=>e=.returned (.tuple #[.int .i64 I.size,.nilIface])/\(Lib.BuilderAtF 89 5 w.heap.size w.heap.size (.pointer (some ⟨w.heap.size,0,none⟩)) (Lib.byteCells (dP (l.take i))++Lib.strCells I) w'/\RowKit.Below w.heap.size W1 w') :=
    Any.Builder_WriteString_f Tryz.Q6 Tryz.bx w.heap.size w.heap.size _ I W1 (Ir hB b1) (by rw [Lib.byteCells_length,hIz]; omega) (Nat.le_trans hbx.size b1.size)
   go_wp2_with (go_at_call 60; go_fit cW; rintro e W2 ⟨rfl,h2,b2⟩)
   have cB:Calls Tryz.prog 61 #[.pointer (some ⟨w.heap.size,0,none⟩),.int .u8 58] W2 fun e w'=>e=.returned .nilIface/\(Lib.BuilderAtF 89 5 w.heap.size w.heap.size (.pointer (some ⟨w.heap.size,0,none⟩)) (Lib.byteCells (dP (l.take i))++Lib.strCells I++[.int .u8 58]) w'/\RowKit.Below w.heap.size W2 w'/\Lib.OthersKept 5 (some w.heap.size) W2 w') :=
    Any.Builder_WriteByte_k Tryz.Vl Tryz.Wa w.heap.size w.heap.size _ 58 W2 (Or.inr h2) (by rw [List.length_append,Lib.byteCells_length,Lib.strCells_eq,Lib.byteCells_length,<- Lib.size_eq,hIz]; omega) (Nat.le_trans hbx.size (Nat.le_trans b1.size b2.size))
   go_wp2_with (go_at_call 61; go_fit cB; rintro e W3 ⟨rfl,h3,b3,-⟩)
   have cV:Calls Tryz.prog 60 #[.pointer (some ⟨w.heap.size,0,none⟩),.string S] W3 fun e w'=>e=.returned (.tuple #[.int .i64 S.size,.nilIface])/\(Lib.BuilderAtF 89 5 w.heap.size w.heap.size (.pointer (some ⟨w.heap.size,0,none⟩)) (Lib.byteCells (dP (l.take i))++Lib.strCells I++[.int .u8 58]++Lib.strCells S) w'/\RowKit.Below w.heap.size W3 w') :=
    Any.Builder_WriteString_f Tryz.Q6 Tryz.bx w.heap.size w.heap.size _ S W3 (Or.inr h3) (by rw [List.length_append,List.length_append,Lib.byteCells_length,Lib.strCells_eq,Lib.byteCells_length,<- Lib.size_eq,hIz,hSz]; simp only [List.length_singleton]; omega) (Nat.le_trans hbx.size (Nat.le_trans b1.size (Nat.le_trans b2.size b3.size)))
   go_wp2_with (go_at_call 60; go_fit cV; rintro e W4 ⟨rfl,h4,b4⟩)
   go_roundg g
   case measure=>omega
   case rel =>
    refine ⟨i+1,rfl,by omega,Or.inr ?_,hbx.trans ((b1.mono hbx.size).trans (b2.trans (b3.trans b4)))⟩
    rw [Lib.strCells_eq,Lib.strCells_eq,hId,hSd] at h4
    have e:Lib.byteCells (dP (l.take (i+1)))=Lib.byteCells (dP (l.take i))++Lib.byteCells (Lib.itoa (s.length:Int))++[.int .u8 58]++Lib.byteCells s:=by
     rw [Er i hil,hs',uQ,Lib.byteCells_append,Lib.byteCells_append]
     simp [Lib.byteCells]
    rw [e]
    exact h4
theorem tR (hs:Nk.Ok Tryz.prog 62):uZ.Ok Tryz.prog 35:=by
 refine oX (enters_of Tryz.func35 (by kernel_rfl) rfl) ?_
 rintro l w vs U hg ⟨(h1:l.length<=1000000),(h2:(dP l).length<=140737488355328)⟩ hR
 simp only [uZ,T3.slE,R] at hR
 obtain ⟨v1,r1,rfl,⟨a,cap,e1,-,hel⟩,rfl⟩:=hR
 obtain rfl:=List.singleton_inj.1 e1
 refine ⟨_,(Mb hs l a cap w hg h1 h2 fun i hi=>?_).mono fun e w' h=>⟨h.1,blw h.2⟩,fun E=>by simp only [uZ,R]⟩
 obtain ⟨b,off,cs,ha,h3,h4,h5⟩:=hel i hi
 simp only [T1.idE,R] at h4
 obtain ⟨x,xs,rfl,e2,rfl⟩:=h4
 obtain rfl:=List.singleton_inj.1 e2
 have hc:=h5.2 0 _ rfl
 rw [Nat.mul_one,Nat.add_zero] at hc
 refine ⟨b,off,ha,?_,hc⟩
 exact World.block_lt_of_cell? w _ hc
end D7
end
section
namespace D8
open Go Go.Eng Go.Proofs Go.RowKit Go.Shelf T1 D3
set_option maxRecDepth 1000000
theorem Fj (w:World):Calls Tryz.prog 148 #[.int .i64 16] w fun e w'=>e=.returned (.bool true)/\w'=w:=by
 go_enter Tryz.func148,Tryz.ntmps148
 go_wp2
 go_ret
 exact ⟨rfl,rfl⟩
theorem Ga (w:World) (hg:GV w):Calls Tryz.prog 172 #[.int .u64 16] w fun e w'=>e=.returned (.int .i64 4)/\w'=w:=by
 obtain ⟨T,fr,hd⟩:=hg.d
 have hc:w.cell? ⟨7,15,none⟩=some (.int .u8 4):=by
  have hd':w.heap[7]?=some (.cells (dbr64.map fun z=>Value.int .u8 z).toArray T fr):=hd
  simp only [World.cell?,hd']
  rfl
 have h16:IntKind.u64.wrap (bits BinOp.and IntKind.u64 16 (IntKind.u64.wrap (-16)) * 285870213051353865) / 288230376151711744=15:=by decide
 clear hd
 go_enter Tryz.func172,Tryz.ntmps172
 go_wp2
 go_ret
 exact ⟨rfl,rfl⟩
theorem Nq (w:World) (hg:GV w):Calls Tryz.prog 149 #[.int .u64 16] w fun e w'=>e=.returned (.int .i64 4)/\w'=w:=by
 have c:=Ga w hg
 go_enter Tryz.func149,Tryz.ntmps149
 go_wp2_with (go_at_call 172; go_fit c; rintro e w' ⟨rfl,hw⟩; rw [hw])
 go_ret
 exact ⟨rfl,rfl⟩
def Row (b:Nat) (acc:List UInt8) (w:World):Prop :=
 (∀ j,j < 65->∃ v,w.cell? ⟨b,j,none⟩=some v)/\(∀ j,w.frozen? ⟨b,j,none⟩=false)/\∀ j,j < acc.length->w.cell? ⟨b,65 - acc.length+j,none⟩=some (.int .u8 ((acc.getD j 0).toNat:Int))
theorem P2 (w:World):Row w.heap.size [] (w.alloc (.cells Tryz.zeroCells177 177)):=by
 refine ⟨fun j hj=>?_,fun j=>World.frozen?_alloc_new ..,fun j hj=>absurd hj (Nat.not_lt_zero _)⟩
 rw [World.cell?_alloc_new]
 exact ⟨_,Array.getElem?_eq_getElem (show j < Tryz.zeroCells177.size from hj)⟩
theorem Hk {b:Nat} {acc:List UInt8} {w:World} (h:Row b acc w) (ha:acc.length < 65) (d:UInt8):Row b (d::acc) (w.setCell ⟨b,65 - acc.length - 1,none⟩ (.int .u8 (d.toNat:Int))):=by
 refine ⟨fun j hj=>?_,fun j=>by rw [World.frozen?_setCell]; exact h.2.1 j,fun j hj=>?_⟩
 ·by_cases e:j=65 - acc.length - 1
  ·subst e
   obtain ⟨v,hv⟩:=h.1 _ hj
   exact ⟨_,World.cell?_setCell_same _ _ _ hv⟩
  ·obtain ⟨v,hv⟩:=h.1 _ hj
   refine ⟨v,?_⟩
   rw [World.cell?_setCell_other _ _ _ _ (fun x=>e (by injection x with _ x _; omega))]
   exact hv
 ·cases j with
  | zero =>
   obtain ⟨v,hv⟩:=h.1 (65 - acc.length - 1) (by omega)
   rw [List.length_cons,show 65 - (acc.length+1)+0=65 - acc.length - 1 by omega,List.getD_cons_zero]
   exact World.cell?_setCell_same _ _ _ hv
  | succ j =>
   rw [List.length_cons] at hj
   rw [List.length_cons,show 65 - (acc.length+1)+(j+1)=65 - acc.length+j by omega,List.getD_cons_succ,World.cell?_setCell_other _ _ _ _ (fun x=>by injection x with _ x _; omega)]
   exact h.2.2 j (by omega)
abbrev digs:ByteArray:={ data:=#[48,49,50,51,52,53,54,55,56,57,97,98,99,100,101,102,103,104,105,106,107,108,109,110,111,112,113,114,115,116,117,118,119,120,121,122] }
theorem lt36 {u:Nat} (h:u < 16):u < digs.size:=Nat.lt_trans h (by decide)
theorem Kn (u:Nat) (h:u < 16) (h':u < digs.size):digs[u]=dgt u:=by
 match u,h with
 | 0,_|1,_|2,_|3,_|4,_|5,_|6,_|7,_|8,_|9,_|10,_|11,_|12,_|13,_|14,_|15,_=>rfl
 | u+16,h=>exact absurd h (by omega)
theorem and15 (u:Nat) (hu:u < 18446744073709551616):bits .and .u64 (u:Int) 15=((u % 16:Nat):Int):=by
 have h:=bits_mask .u64 64 (by decide) (fun n h0 h1=>by rw [IntKind.wrap_u64]; omega) 4 (by decide) (u:Int) (by omega) (by omega)
 have e:((2:Int) ^ 4 - 1)=15:=by decide
 have e2:((2:Int) ^ 4)=16:=by decide
 rw [e,e2] at h
 rw [h]
 omega
theorem Ox (n:Nat) (hn:n < 18446744073709551616) (w:World) (hgv:GV w) :
  Calls Tryz.prog 129 #[.slice none 0 0,.int .u64 n,.int .i64 16,.bool false,.bool false] w fun e w'=>e=.returned (.tuple #[.slice none 0 0,.string ⟨(pN n).toArray⟩])/\RowKit.Below w.heap.size w w':=by
 have b0:RowKit.Below w.heap.size w (w.alloc (.cells Tryz.zeroCells177 177)):=(RowKit.Below.refl _ w).alloc (Nat.le_refl _) _
 have cT:=Nq _ (D7.Lf hgv b0)
 go_enter Tryz.func129,Tryz.ntmps129
 go_wp2_with (first
  | (go_at_call 148; refine (Fj _).mono ?_; rintro e w' ⟨rfl,hw⟩; rw [hw])
  | (go_at_call 149; refine cT.mono ?_; rintro e w' ⟨rfl,hw⟩; rw [hw]))
 go_loopg [1,13] 16 (fun g s1 s13 wx=>∃ (u:Nat) (acc:List UInt8),s1=.int .u64 (u:Int)/\s13=.int .i64 (((65 - acc.length:Nat)):Int)/\acc.length+g=16/\Eg g u acc=pN n/\u < 16 ^ g/\1<=g/\Row w.heap.size acc wx/\RowKit.Below w.heap.size w wx)
 case atStart=>exact ⟨n,[],rfl,rfl,rfl,rfl,by omega,by omega,P2 w,b0⟩
 case round =>
  obtain ⟨u,acc,rfl,rfl,hag,hV,hu,hg1,hr,hbx⟩:=hrel
  obtain ⟨g,rfl⟩:∃ g,gk=g+1:=⟨gk - 1,by omega⟩
  simp only [Eg] at hV
  obtain ⟨p,hp⟩:∃ p,65 - acc.length=p+1:=⟨64 - acc.length,by omega⟩
  rw [hp]
  have hp1:((p+1:Nat):Int) - 1=(p:Int):=by omega
  have hp65:p < 65:=by omega
  have hp65':(p:Int) < 65:=by omega
  obtain ⟨v,hv⟩:=hr.1 p hp65
  have hf:=hr.2.1 p
  have hn2:u < 18446744073709551616:=Nat.lt_of_lt_of_le hu (Nat.pow_le_pow_right (n:=16) (j:=16) (by decide) (by omega))
  by_cases h16:u < 16
  ·have h16':¬ ((u:Int)>=16):=by omega
   have h36':(u:Int) < 36:=by omega
   have hal:Tryz.prog.arrayLen 177=65:=by simp [Program.arrayLen,Tryz.underlying177]
   have hsl:∀ W,(Instr.sliceAt 177 (.pointer (some ⟨w.heap.size,0,none⟩)) (some (.int .i64 (p:Int))) none none).run Tryz.prog W=.ok (.slice (some ⟨w.heap.size,p,none⟩) (65 - p) (65 - p)) W:=fun W=>by
    rw [run_sliceAt_array_l W 177 ⟨w.heap.size,0,none⟩ (by simp [Program.arrayLen,Program.elem,Tryz.underlying177]) .i64 (p:Int) (by omega) (by rw [hal]; omega)]
    go_simp
    omega
   clear hal
   have hr2:Row w.heap.size (dgt (u)::acc) (wr.setCell ⟨w.heap.size,p,none⟩ (.int .u8 ((digs[u]'(lt36 h16)).toNat:Int))):=by
    rw [Kn _ h16 (lt36 h16)]
    have h:=Hk hr (by omega) (dgt (u))
    rw [hp,Nat.add_sub_cancel] at h
    exact h
   rw [if_pos h16] at hV
   have hcv:(convert 87 9 (.slice (some ⟨w.heap.size,p,none⟩) (65 - p) (65 - p))).run Tryz.prog (wr.setCell ⟨w.heap.size,p,none⟩ (.int .u8 ((digs[u]'(lt36 h16)).toNat:Int)))=.ok (.string ⟨(pN n).toArray⟩) (wr.setCell ⟨w.heap.size,p,none⟩ (.int .u8 ((digs[u]'(lt36 h16)).toNat:Int))):=by
    have hl:(dgt u::acc).length=65 - p:=by rw [List.length_cons]; omega
    have h:=run_convert_bytes_back (P:=Tryz.prog) (wr.setCell ⟨w.heap.size,p,none⟩ (.int .u8 ((digs[u]'(lt36 h16)).toNat:Int))) 87 9 5 ⟨w.heap.size,p,none⟩ (65 - p) (dgt u::acc) Tryz.underlying87 Tryz.underlying5 Tryz.underlying9 (fun j hj=>by
     have h:=hr2.2.2 j hj
     rw [hl,show 65 - (65 - p)+j=p+j by omega,List.getD_eq_getElem?_getD,List.getElem?_eq_getElem hj,Option.getD_some] at h
     rw [Lib.add_plain]
     exact h)
    rw [hl,hV] at h
    exact h
   have hb2:RowKit.Below w.heap.size w (wr.setCell ⟨w.heap.size,p,none⟩ (.int .u8 ((digs[u]'(lt36 h16)).toNat:Int))):=hbx.setCell (Nat.le_refl _) _
   unfold digs at hcv hb2
   go_wp2
   go_ret2
   exact ⟨rfl,hb2⟩
  ·have h16':(u:Int)>=16:=by omega
   have hm:u % 16 < 16:=Nat.mod_lt _ (by decide)
   have hmk:bits .and .u64 (u:Int) 15=((u % 16:Nat):Int):=and15 u hn2
   have hr2:Row w.heap.size (dgt (u % 16)::acc) (wr.setCell ⟨w.heap.size,p,none⟩ (.int .u8 ((digs[u % 16]'(lt36 hm)).toNat:Int))):=by
    rw [Kn _ hm (lt36 hm)]
    have h:=Hk hr (by omega) (dgt (u % 16))
    rw [hp,Nat.add_sub_cancel] at h
    exact h
   rw [if_neg h16] at hV
   have h4:∀ g,u < 16 ^ (g+1)->u / 16 < 16 ^ g:=fun g h=>Nat.div_lt_of_lt_mul (by rw [Nat.pow_succ] at h; omega)
   go_wp2
   go_roundg g
   case measure=>omega
   case rel =>
    refine ⟨u / 16,dgt (u % 16)::acc,?_,?_,?_,hV,h4 _ hu,?_,hr2,hbx.setCell (Nat.le_refl _) _⟩
    ·rw [Int.natCast_ediv]; rfl
    ·rw [List.length_cons,show 65 - (acc.length+1)=p by omega]
    ·rw [List.length_cons]; omega
    ·cases g with
     | zero=>exact absurd hu (by omega)
     | succ g=>omega
theorem K5 (n:Nat) (hn:n < 18446744073709551616) (w:World) (hgv:GV w) :
  Calls Tryz.prog 110 #[.int .u64 n,.int .i64 16] w fun e w'=>e=.returned (.string ⟨(pN n).toArray⟩)/\RowKit.Below w.heap.size w w':=by
 have c:=Ox n hn w hgv
 go_enter Tryz.func110,Tryz.ntmps110
 go_wp2_with (go_at_call 129; go_fit c; rintro e w' ⟨rfl,hb⟩)
 go_ret
 exact ⟨rfl,hb⟩
theorem K6 (n:Nat) (hn:n < 18446744073709551616) (w:World) (hgv:GV w) :
  Calls Tryz.prog 91 #[.int .u64 n,.int .i64 16] w fun e w'=>e=.returned (.string ⟨(pN n).toArray⟩)/\RowKit.Below w.heap.size w w':=by
 have c:=K5 n hn w hgv
 go_enter Tryz.func91,Tryz.ntmps91
 go_wp2_with (go_at_call 110; go_fit c; rintro e w' ⟨rfl,hb⟩)
 go_ret
 exact ⟨rfl,hb⟩
theorem Sv:fmtS.Ok Tryz.prog 91:=by
 refine oX (enters_of Tryz.func91 (by kernel_rfl) rfl) ?_
 rintro (x:Int) w vs U hg ⟨(h1:0<=x),(h2:x < 18446744073709551616)⟩ hR
 simp only [fmtS,R] at hR
 obtain ⟨v1,r1,rfl,e1,v2,r2,rfl,e2,rfl⟩:=hR
 obtain rfl:=List.singleton_inj.1 e1
 obtain rfl:=List.singleton_inj.1 e2
 obtain ⟨n,rfl⟩:∃ n:Nat,x=(n:Int):=⟨x.toNat,by omega⟩
 exact ⟨_,(K6 n (by omega) w hg).mono fun e w' h=>⟨h.1,D7.blw h.2⟩,fun E=>by simp only [fmtS,R]⟩
theorem F7:Nk.Ok Tryz.prog 62:=D3.F7 Sv D4.Ty
theorem tR:D6.uZ.Ok Tryz.prog 35:=D7.tR F7
theorem Du:D6.Sm.Ok Tryz.prog 19:=D6.Du tR
end D8
end
section
open Go Go.Eng Go.Proofs T1 T2 T3 T4 T5 T6 T7 T8 T9 T10 T11 T12 T13 T14 T15 T16 T17 T18 T19 T24
set_option maxRecDepth 100000
namespace T26
theorem _root_.T18.Tr.mono {D:Dg} {T:TT} {N:Nat->NO} {c r:Nat} {K K':Int} (h:Tr D T N c r K) (hK:K<=K'):Tr D T N c r K':=by
 refine ⟨h.rep,⟨h.ok.cl,h.ok.nd,?_⟩,h.wf,h.val,h.sz⟩
 intro j a n m sz mk hj
 have:=h.ok.bd _ _ _ _ _ _ hj
 omega
def kI (T:TT) (k:Ky):TT:=if tG T k.1 k.2=true then jL k.2 k.1 T else T
def iQ (T:TT) (k:Ky):TT:=if pcT T k=0 then fX k.2 k.1 T else T
theorem _root_.T18.Tr.drop1 {D:Dg} {T:TT} {N:Nat->NO} {c r:Nat} {K:Int} (h:Tr D T N c r K) (hK:0<=K) (k:Ky):Tr D (kI T k) (T12.iE ⟨false,N,c,r,k.1,k.2⟩) c r (K+1000):=by
 unfold kI
 split
 ·rename_i hm
  exact h.drop hK (gN.1 hm)
 ·rename_i hm
  have:HX.has ⟨false,N,c,r,k.1,k.2⟩=false:=by
   rw [Bool.eq_false_iff]
   intro h'
   exact hm (gN.2 (h.has.1 h'))
  have e:T12.iE ⟨false,N,c,r,k.1,k.2⟩=N:=by unfold T12.iE; rw [this]; rfl
  rw [e]
  exact h.mono (by omega)
theorem _root_.T18.Tr.put1 {D:Dg} {T:TT} {N:Nat->NO} {c r:Nat} {K:Int} (h:Tr D T N c r K) (hK:0<=K) (k:Ky) {y:Nat} (hy:HX.puts ⟨true,N,c,r,k.1,k.2⟩=true->chS.post ⟨true,N,c,r,k.1,k.2⟩ y) :
  Tr D (iQ T k) (nL ⟨true,N,c,r,k.1,k.2⟩ y) (putc ⟨true,N,c,r,k.1,k.2⟩) r (K+1000):=by
 unfold iQ
 have hp:=h.puts0 (t:=k.1) (i:=k.2)
 split
 ·rename_i hm
  have hp':HX.puts ⟨true,N,c,r,k.1,k.2⟩=true:=by rw [hp]; exact decide_eq_true hm
  exact h.put hK hp' (hy hp')
 ·rename_i hm
  have hp':HX.puts ⟨true,N,c,r,k.1,k.2⟩=false:=by rw [hp]; exact decide_eq_false hm
  have e:nL ⟨true,N,c,r,k.1,k.2⟩ y=N:=by unfold nL; rw [hp']; rfl
  have e2:putc ⟨true,N,c,r,k.1,k.2⟩=c:=by unfold putc; rw [hp']; rfl
  rw [e,e2]
  exact h.mono (by omega)
structure DX where
 T:TT
 N:Nat->NO
 c:Nat
 r:Nat
 K:Int
 l:List Ac
end T26
end
section
open Go Go.Eng Go.Proofs T1 T2 T3 T4 T5 T6 T10 T11
set_option maxRecDepth 100000
namespace T27
def tD:List Ky:=[([97,98,99],[115,49]),([97,98],[115,50]),([97,98],[115,49])]
def ksH (i:Nat) (l:List Ky):Nat×aC:=(i,.arr 32 2 l.length fun j=>oL (l.getD j k0))
def g34:List Nat:=[0]
def c34:aF :=
 .seq (.region g34 [(zo 0 (.move (.c (.nilsl))))]) (.seq (.region g34 [(zo 1 (.build (.cons (.str []) (.cons (.str []) .nil)) [(0,1,.c (.str [97,98,99])),(1,1,.c (.str [115,49]))])),(zo 2 (.build (.cons (.str []) (.cons (.str []) .nil)) [(0,1,.c (.str [97,98])),(1,1,.c (.str [115,50]))])),(zo 3 (.build (.cons (.str []) (.cons (.str []) .nil)) [(0,1,.c (.str [97,98])),(1,1,.c (.str [115,49]))])),(zo 4 (.buildSl 32 2 3 (.cons (.str []) (.cons (.str []) .nil)) [(0,2,.s 1),(2,2,.s 2),(4,2,.s 3)])),(mv 0 4)]) .ret)
theorem e34:aO Tryz.prog 34 g34 [] [] []=some (c34,[.slot 0],5):=by kernel_rfl
def Rj:aK where
 X:=Unit
 Y:=Unit
 args:=fun _=>.nil
 pre:=fun _=>True
 h0:=fun _=>[]
 nx0:=0
 post:=fun _ _=>True
 res:=fun _ _=>.lsl 0 2 3
 h1:=fun _ _=>[ksH 0 tD]
 nx1:=1
theorem P4:Rj.Ok Tryz.prog 34:=by
 refine Eng.aK.okR e34 .nil (fun _=>[(2097152,.own)]) (fun _ _=>aD.o aD.nil) ?_
 rintro ⟨⟩ _
 refine ⟨trivial,?_⟩
 repeat' (first|apply And.intro|exact trivial|exact rfl|exact zf|exact zh|refine zt ?_|fail)
 refine Exists.intro () ?_
 repeat' (first|apply And.intro|exact trivial|exact rfl|exact zf|exact zh|refine zt ?_|(refine fun (j:Nat) (hj:j < 3)=>?_; rcases (by omega:j=0\/j=1\/j=2) with rfl|rfl|rfl; exact Or.inl (aT _ _ _ ([97,98,99],[115,49])); exact Or.inl (aT _ _ _ ([97,98],[115,50])); exact Or.inl (aT _ _ _ ([97,98],[115,49])))|fail)
end T27
end
section
open Go Go.Eng
set_option maxRecDepth 100000
namespace A0
def lc {α:Type} (enc:α->SV) (d:α) (l:List α) (i:Nat):SV:=enc (l.getD i d)
section
variable {α:Type} {enc:α->SV} {d:α} {k:Keep} {hp:List (Nat×aC)} {m:Nat}
theorem cG (h:∀ a,sub k hp m (enc a) (enc a)) {l:List α} {n:Nat}:∀ j,j < n->iC k (sub k hp m) (lc enc d l j) (lc enc d l j):=fun _ _=>Or.inl (h _)
theorem bG (h:∀ a,sub k hp m (enc a) (enc a)) {l:List α} {n:Nat}:∀ j,j < n->iC k (sub k hp m) (lc enc d l (0+j)) (lc enc d l j):=fun j _=>by rw [Nat.zero_add]; exact Or.inl (h _)
theorem Hp (h:∀ a,sub k hp m (enc a) (enc a)) {l:List α} {x:α} {e:Nat->SV} (he:e 0=enc x) {n:Nat} (hn:n=l.length+1):∀ j,j < n->iC k (sub k hp m) (dZ l.length (lc enc d l) e j) (lc enc d (l++[x]) j):=by
 intro j hj
 subst hn
 have e:dZ l.length (lc enc d l) e j=lc enc d (l++[x]) j:=by
  unfold dZ lc
  rw [List.getD_eq_getElem?_getD,List.getD_eq_getElem?_getD]
  by_cases e:j < l.length
  ·have hb:Nat.blt j l.length=true:=by rw [Nat.blt_eq]; exact e
   rw [hb,cond_true,List.getElem?_append_left e]
  ·have hb:Nat.blt j l.length=false:=by
    cases h:Nat.blt j l.length with
    | false=>rfl
    | true=>exact absurd (by rw [Nat.blt_eq] at h; exact h) e
   have hj':j=l.length:=by omega
   subst hj'
   rw [hb,cond_false,Nat.sub_self,he]
   simp
 rw [e]
 exact Or.inl (h _)
theorem zL {l:List α} {x:α}:l.length+1=(l++[x]).length:=by simp
end
theorem sA {V:Type} {k:aH}:∀ {l:List (aH×V×Nat)},mget l k=none ↔ k ∉ l.map (·.1):=by
 intro l
 induction l with
 | nil=>simp [mget]
 | cons x r ih =>
  simp only [mget,List.map_cons,List.mem_cons,not_or]
  by_cases h:x.1=k
  ·simp [h]
  ·rw [if_neg h,ih]
   exact ⟨fun e=>⟨fun e'=>h e'.symm,e⟩,fun e=>e.2⟩
theorem B1 {V:Type} {k:aH} {v:V} {t:Nat}:∀ {l:List (aH×V×Nat)},mget l k=some (v,t)->(k,v,t)∈l:=by
 intro l
 induction l with
 | nil=>intro h; cases h
 | cons x r ih =>
  intro h
  simp only [mget] at h
  by_cases e:x.1=k
  ·rw [if_pos e] at h
   obtain ⟨a,b,c⟩:=x
   have h':=Option.some.inj h
   have e':a=k:=e
   simp only [Prod.mk.injEq] at h'
   rw [<- e',<- h'.1,<- h'.2]
   exact List.mem_cons_self ..
  ·rw [if_neg e] at h
   exact List.mem_cons_of_mem _ (ih h)
theorem Fe {V:Type} {l:List (aH×V×Nat)} (hn:(l.map (·.2.2)).Nodup) {a b:aH×V×Nat} (ha:a∈l) (hb:b∈l) (e:a.2.2=b.2.2):a=b:=by
 induction l with
 | nil=>cases ha
 | cons z t ih =>
  simp only [List.map_cons,List.nodup_cons] at hn
  rcases List.mem_cons.1 ha with a1|a1
  ·rcases List.mem_cons.1 hb with b1|b1
   ·rw [a1,b1]
   ·subst a1; exact (hn.1 (List.mem_map.2 ⟨b,b1,e.symm⟩)).elim
  ·rcases List.mem_cons.1 hb with b1|b1
   ·subst b1; exact (hn.1 (List.mem_map.2 ⟨a,a1,e⟩)).elim
   ·exact ih hn.2 a1 b1
def left {V:Type} (il:List (aH×V×Nat)) (seen:List Nat):Nat:=(il.filter fun y=>!bD seen y.2.2).length
theorem Iy {V:Type} {il:List (aH×V×Nat)} {seen:List Nat} {y:aH×V×Nat} (hy:y∈il) (hs:y.2.2 ∉ seen):left il (seen++[y.2.2]) < left il seen:=by
 unfold left
 have hm:∀ z:aH×V×Nat,bD (seen++[y.2.2]) z.2.2=(bD seen z.2.2 || decide (z.2.2=y.2.2)):=by
  intro z
  rw [Bool.eq_iff_iff,Bool.or_eq_true,dE,dE,decide_eq_true_eq,List.mem_append,List.mem_singleton]
 have hsub:(il.filter fun z=>!bD (seen++[y.2.2]) z.2.2)=(il.filter fun z=>!bD seen z.2.2).filter fun z=>!decide (z.2.2=y.2.2):=by
  rw [List.filter_filter]
  congr 1
  funext z
  rw [hm z]
  cases bD seen z.2.2 <;> cases decide (z.2.2=y.2.2) <;> rfl
 rw [hsub]
 have hyl:y∈il.filter fun z=>!bD seen z.2.2:=by
  refine List.mem_filter.2 ⟨hy,?_⟩
  cases h:bD seen y.2.2 with
  | true=>exact absurd (dE.1 h) hs
  | false=>rfl
 refine Nat.lt_of_le_of_ne (List.length_filter_le _ _) fun e=>?_
 have:=List.length_filter_eq_length_iff.1 e y hyl
 simp at this
end A0
end
section
open Go Go.Eng Go.Proofs A0 T1 T2 T3 T4 T5 T6
set_option maxRecDepth 100000
namespace T28
def bE (n:Int):SV:=.cons (.int .u8 n) .nil
theorem aW (k:Keep) (hp:List (Nat×aC)) (m:Nat) (n:Int):sub k hp (m+3) (bE n) (bE n):=⟨⟨rfl,rfl⟩,trivial⟩
abbrev IL:=List (aH×Nat×Nat)
def Th:aH->Int
 | .i _ n=>n
 | _=>0
def gW (l:IL):List Int:=l.map fun x=>Th x.1
def FSn (l:IL) (seen:List Nat) (L:List Int):Prop:=L.Perm (gW (l.filter fun x=>bD seen x.2.2))/\∀ t∈seen,∃ x∈l,x.2.2=t
theorem K9 (l:IL):FSn l [] []:=by
 refine ⟨?_,fun t h=>by cases h⟩
 have:(l.filter fun x=>bD [] x.2.2)=[]:=List.filter_eq_nil_iff.2 fun x _=>by simp [bD]
 rw [this]
 exact List.Perm.refl _
theorem S1 {l:IL} {seen:List Nat} {L:List Int} (h:FSn l seen L):L.length<=l.length:=by
 rw [h.1.length_eq]
 unfold gW
 rw [List.length_map]
 exact List.length_filter_le _ _
theorem O3 {l:IL} (hn:(l.map (·.2.2)).Nodup) {seen:List Nat} {L:List Int} (h:FSn l seen L) {k:IntKind} {s:Int} {b t:Nat} (hy:(aH.i k s,b,t)∈l) (hs:t ∉ seen):FSn l (seen++[t]) (L++[s]):=by
 refine ⟨?_,fun u hu=>?_⟩
 ·have key:∀ {l:IL},(l.map (·.2.2)).Nodup->(aH.i k s,b,t)∈l->(gW (l.filter fun x=>bD (seen++[t]) x.2.2)).Perm (s::gW (l.filter fun x=>bD seen x.2.2)):=by
   intro l
   induction l with
   | nil=>intro _ h; cases h
   | cons x r ih =>
    intro hn hm
    simp only [List.map_cons,List.nodup_cons] at hn
    have hmem:∀ z:Nat,bD (seen++[t]) z=(bD seen z || decide (z=t)):=by
     intro z
     rw [Bool.eq_iff_iff,Bool.or_eq_true,dE,dE,decide_eq_true_eq,List.mem_append,List.mem_singleton]
    have hst:bD seen t=false:=by
     cases h:bD seen t with
     | true=>exact absurd (dE.1 h) hs
     | false=>rfl
    rcases List.mem_cons.1 hm with e|e
    ·subst e
     have hr:(r.filter fun x=>bD (seen++[t]) x.2.2)=r.filter fun x=>bD seen x.2.2:=by
      refine List.filter_congr fun z hz=>?_
      rw [hmem]
      have:z.2.2≠t:=fun e=>hn.1 (List.mem_map.2 ⟨z,hz,e⟩)
      simp [this]
     rw [List.filter_cons_of_pos (by simp [hmem]),List.filter_cons_of_neg (by simp [hst]),hr]
     exact List.Perm.refl _
    ·have hxt:x.2.2≠t:=fun e'=>hn.1 (List.mem_map.2 ⟨_,e,e'.symm⟩)
     cases hx:bD seen x.2.2 with
     | true =>
      rw [List.filter_cons_of_pos (by simp [hmem,hx]),List.filter_cons_of_pos (by simp [hx])]
      exact ((ih hn.2 e).cons (Th x.1)).trans (List.Perm.swap _ _ _)
     | false =>
      rw [List.filter_cons_of_neg (by simp [hmem,hx,hxt]),List.filter_cons_of_neg (by simp [hx])]
      exact ih hn.2 e
  refine List.Perm.trans ?_ (key hn hy).symm
  exact (List.perm_append_comm (l₁:=L) (l₂:=[s])).trans (h.1.cons s)
 ·rcases List.mem_append.1 hu with hu|hu
  ·exact h.2 u hu
  ·exact ⟨_,hy,(List.mem_singleton.1 hu).symm⟩
theorem O2 {l:IL} {seen:List Nat} {L:List Int} (h:FSn l seen L) (hall:∀ x∈l,x.2.2∈seen):L.Perm (gW l):=by
 have:(l.filter fun x=>bD seen x.2.2)=l:=List.filter_eq_self.2 fun x hx=>dE.2 (hall x hx)
 rw [<- this]
 exact h.1
theorem Um {l:IL} (hk:∀ x∈l,x.1.kind=.i .u8) {seen:List Nat} {Q:aH×Nat×Nat->Prop} (h:∀ (s:Int) (b t:Nat),(aH.i .u8 s,b,t)∈l->t ∉ seen->Q (aH.i .u8 s,b,t)):∀ y∈l,y.2.2 ∉ seen->Q y:=by
 rintro ⟨ky,b,t⟩ hy hs
 have hks:ky.kind=.i .u8:=hk _ hy
 cases ky with
 | i k n=>cases hks; exact h n b t hy hs
 | s _=>cases hks
 | a _ _=>cases hks
 | t _=>cases hks
structure KX where
 N:Nat->NO
 m:Nat
 l:IL
 q:Nat
structure KOk (x:KX):Prop where
 at_:x.N x.m=.map x.l x.q
 tk:Tk x.l x.q
 kd:∀ y∈x.l,y.1.kind=.i .u8
 ln:x.l.length<=20000
def clo (m:Nat):SV:=.fn 124 (.cons (.cptr (.cons (.fmref 0 m) .nil)) .nil)
def g100:List Nat:=[0,1,2]
def c100:aF :=
 .seq (.region g100 [(zo 1 (.box 68 (.s 0))),(zo 2 (.move (.c (.nilfn))))]) (.seq (.region g100 [(zo 3 (.mkfn 124 [.s 1])),(mv 2 3)]) .ret)
theorem e100:aO Tryz.prog 100 g100 [] [] []=some (c100,[.slot 2],4):=by kernel_rfl
def Mg:aK where
 X:=KX
 Y:=Unit
 args:=fun x=>.cons (.fmref 0 x.m) .nil
 pre:=fun _=>True
 h0:=fun x=>[(0,.fam fun q=>noO 0 (x.N q))]
 nx0:=1
 post:=fun _ _=>True
 res:=fun x _=>clo x.m
 h1:=fun x _=>[(0,.fam fun q=>noO 0 (x.N q))]
 nx1:=1
theorem Mh:Mg.Ok Tryz.prog 100:=by
 refine Eng.aK.okR e100 .nil (fun _=>[]) (fun _ _=>aD.nil) ?_
 rintro ⟨N,m,l,q⟩ _
 refine ⟨trivial,?_⟩
 repeat' (first|apply And.intro|exact trivial|exact rfl|exact zm N rfl|exact zr N rfl rfl|exact zf|exact zh|refine zt ?_|fail)
 refine Exists.intro () ?_
 repeat' (first|apply And.intro|exact trivial|exact rfl|exact zm N rfl|exact zr N rfl rfl|exact zf|exact zh|refine zt ?_|fail)
def g124:List Nat:=[1,7,5,0,3,13]
def c124:aF :=
 .seq (.region g124 [(ld 4 1),(zo 5 (.mrange (.s 4)))]) (.block 0 (.loop 0 [6,7,8,9,3,10,11,12,13] (.seq (.region g124 [(zo 6 (.mnext (.s 5))),(zo 7 (.extract 0 (.s 6)))]) (.seq (.cond (.s 7) .skip (.exit 0)) (.block 1 (.seq (.region g124 [(zo 8 (.mentry (.s 5))),(zo 9 (.extract 0 (.s 8))),(mv 3 9)]) (.seq (.region g124 [(mv 10 0),(mv 11 3),(zo 12 (.call (.s 10) [.s 11])),(zo 13 (.not (.s 12)))]) (.cond (.s 13) .ret .skip))))))))
theorem e124:aO Tryz.prog 124 g124 [] [] []=some (c124,[],14):=by kernel_rfl
def g142:List Nat:=[0,1,6,7,5,2,4]
def c142:aF :=
 .seq (.region g142 [(zo 2 (.box 87 (.s 0))),(zo 4 (.move (.c (.nilsl))))]) (.seq (.seq (.region g142 [(mv 6 1)]) (.block 0 (.range 0 (.s 6) 124 (c124) 14 [7] (.region g142 [(mv 5 7)]) (.block 1 (.region g142 [(ld 8 2),(mv 9 5),(zo 10 (.buildSl 5 1 1 (.cons (.int (.u8) 0) .nil) [(0,1,.s 9)])),(zo 11 (.app 5 1 1 (.s 8) (.s 10))),⟨none,none,.store 1 (.s 2) (.s 11),[]⟩]))))) (.seq (.region g142 [(ld 12 2),(mv 4 12)]) .ret))
def r142:List gS:=[.slot 4]
def k142:List (Nat×Nat×aF×Nat):=[(0,124,c124,14)]
theorem e142:aO Tryz.prog 142 g142 [] [] k142=some (c142,r142,13):=by kernel_rfl
theorem q142:kU Tryz.prog k142:=kU.cons (kU.nil) .nil e124
def Uo:aK where
 X:=KX
 Y:=List Int
 args:=fun x=>.cons .nilsl (.cons (clo x.m) .nil)
 pre:=KOk
 h0:=fun x=>[(0,.fam fun q=>noO 0 (x.N q))]
 nx0:=1
 post:=fun x y=>y.Perm (gW x.l)
 res:=fun _ y=>.lsl 1 1 y.length
 h1:=fun x y=>[(0,.fam fun q=>noO 0 (x.N q)),(1,.arr 5 1 y.length (lc bE 0 y))]
 nx1:=2
structure XS where
 seen:List Nat
 L:List Int
theorem Rz:Uo.Ok Tryz.prog 142:=by
 refine Eng.aK.okR e142 q142 (fun _=>[]) (fun _ _=>aD.nil) ?_
 rintro ⟨N,m,l,q⟩ ⟨(hat:N m=.map l q),(htk:Tk l q),(hkd:∀ y∈l,y.1.kind=.i .u8),(hln:l.length<=20000)⟩
 refine ⟨trivial,?_⟩
 repeat' (first|apply And.intro|exact trivial|exact rfl|exact zm N rfl|exact zr N rfl rfl|exact zf|exact zh|refine zt ?_|fail)
 refine Exists.intro (noO 0 (.map l q)) (And.intro (congrArg (noO 0) hat) ?_)
 repeat' (first|apply And.intro|exact trivial|exact rfl|exact zm N rfl|exact zr N rfl rfl|exact zf|exact zh|refine zt ?_|fail)
 refine ⟨⟨XS,fun x=>FSn l x.seen x.L,fun _=>[(5,.own 60 0)],fun x=>[(60,.iter (.fmref 0 m) q x.seen q),(1,.cells 87 (.cons (.lsl 40 1 x.L.length) .nil)),(40,.arr 5 1 x.L.length (lc bE 0 x.L))],fun x=>left l x.seen⟩,⟨[],[]⟩,K9 l,?_,?_⟩
 ·repeat' (first|apply And.intro|exact trivial|exact rfl|exact zm N rfl|exact zr N rfl rfl|exact cG (fun a=>aW _ _ _ a)|exact bG (fun a=>aW _ _ _ a)|fail)
 rintro ⟨seen,L⟩ hF
 replace hF:FSn l seen L:=hF
 have hlen:=S1 hF
 repeat' (first|apply And.intro|exact trivial|exact rfl|exact zm N rfl|exact zr N rfl rfl|fail)
 refine Exists.intro (noO 0 (.map l q)) (And.intro (congrArg (noO 0) hat) ?_)
 repeat' (first|apply And.intro|exact trivial|exact rfl|exact zm N rfl|exact zr N rfl rfl|fail)
 ·exact htk.1
 ·exact Nat.le_refl _
 ·refine Um hkd (fun (s:Int) (b t:Nat) hy hns=>?_)
  have hF2:=O3 htk.2 hF hy hns
  repeat' (first|apply And.intro|exact trivial|exact rfl|exact zf|exact zh|refine zt ?_|exact zm N rfl|exact zr N rfl rfl|fail)
  refine Exists.intro (noO 0 (.map l q)) (And.intro (congrArg (noO 0) hat) ?_)
  refine And.intro rfl (Exists.intro _ (And.intro hy (And.intro (fun z hz hzt=>Fe htk.2 hz hy hzt) (And.intro ⟨_,rfl⟩ ?_))))
  repeat' (first|apply And.intro|exact trivial|exact rfl|exact zf|exact zh|refine zt ?_|exact zm N rfl|exact zr N rfl rfl|fail)
  ·show L.length+1<=9223372036854775807
   omega
  ·show (L.length+1) * 1<=140737488355328
   omega
  refine Exists.intro (XS.mk (seen++[t]) (L++[s])) (And.intro hF2 (And.intro ?_ ?_))
  ·repeat' (first|apply And.intro|exact trivial|exact rfl|exact zm N rfl|exact zr N rfl rfl|exact zL|exact Hp (fun a=>aW _ _ _ a) rfl rfl|fail)
  ·exact Iy hy hns
 ·intro hall
  repeat' (first|apply And.intro|exact trivial|exact rfl|exact zf|exact zh|refine zt ?_|exact zm N rfl|exact zr N rfl rfl|fail)
  refine Exists.intro L (And.intro (O2 hF hall) ?_)
  repeat' (first|apply And.intro|exact trivial|exact rfl|exact zm N rfl|exact zr N rfl rfl|exact cG (fun a=>aW _ _ _ a)|exact bG (fun a=>aW _ _ _ a)|fail)
def g122:List Nat:=[0,2]
def c122:aF :=
 .seq (.region g122 [(zo 2 (.move (.c (.nilsl))))]) (.seq (.region g122 [(mv 3 0),(zo 4 (.call (.c (.fn 142)) [.c (.nilsl),.s 3])),(mv 2 4)]) .ret)
theorem e122:aO Tryz.prog 122 g122 [] [] []=some (c122,[.slot 2],5):=by kernel_rfl
def Qq:aK where
 X:=KX
 Y:=List Int
 args:=fun x=>.cons (clo x.m) .nil
 pre:=KOk
 h0:=fun x=>[(0,.fam fun q=>noO 0 (x.N q))]
 nx0:=1
 post:=fun x y=>y.Perm (gW x.l)
 res:=fun _ y=>.lsl 1 1 y.length
 h1:=fun x y=>[(0,.fam fun q=>noO 0 (x.N q)),(1,.arr 5 1 y.length (lc bE 0 y))]
 nx1:=2
theorem Om:Qq.Ok Tryz.prog 122:=by
 refine Eng.aK.okR e122 .nil (fun _=>[(142,.m Uo)]) (fun _ _=>aD.m Rz aD.nil) ?_
 rintro ⟨N,m,l,q⟩ (h:KOk ⟨N,m,l,q⟩)
 refine ⟨trivial,?_⟩
 repeat' (first|apply And.intro|exact trivial|exact rfl|exact zm N rfl|exact zr N rfl rfl|exact zf|exact zh|refine zt ?_|fail)
 refine Exists.intro ⟨N,m,l,q⟩ (Exists.intro [0] ?_)
 repeat' (first|exact h|apply And.intro|exact trivial|exact rfl|exact zm N rfl|exact zr N rfl rfl|exact zf|exact zh|refine zt ?_|fail)
 refine fun (y:List Int) (hy:y.Perm (gW l))=>?_
 repeat' (first|apply And.intro|exact trivial|exact rfl|exact zm N rfl|exact zr N rfl rfl|exact zf|exact zh|refine zt ?_|fail)
 refine Exists.intro y (And.intro hy ?_)
 repeat' (first|apply And.intro|exact trivial|exact rfl|exact zm N rfl|exact zr N rfl rfl|exact cG (fun a=>aW _ _ _ a)|exact bG (fun a=>aW _ _ _ a)|fail)
end T28
end
