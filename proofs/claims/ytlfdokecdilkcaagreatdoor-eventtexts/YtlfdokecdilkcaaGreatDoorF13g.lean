/- A part of the proof. -/
import Derived.Test.YtlfdokecdilkcaaGreatDoorF13
open Go Go.Eng Go.Proofs G1 G2 G3 G4 G6 G7 EV0 N1 N2 F1 F2 F3 F4 F5 F6 F7 F8 F9 F10 F11 F12 F13
set_option maxRecDepth 100000
namespace F13g
theorem K4:aA Tryz.prog tab12:=aA.p wW (aA.p Ln (aA.p V2.itoa (aA.m Sf (aA.p Q7 (aA.p Sx (aA.p Kg (aA.p V2.join aA.nil)))))))
set_option maxHeartbeats 8000000 in
theorem Qo {k day a b off:Int} {id oth txt:B} {ids:Sq B} {names:Sq Nm} {num:Hn} {pt:Pt} {path:Pts} {list:Sq En} (h:okV ⟨k,day,a,b,off,id,oth,txt,ids,names,num,pt,path,list⟩) (hf:aS ⟨k,day,a,b,off,id,oth,txt,ids,names,num,pt,path,list⟩=true):O0 tab12 c12 r12 true (Is.args ⟨k,day,a,b,off,id,oth,txt,ids,names,num,pt,path,list⟩) (Is.res ⟨k,day,a,b,off,id,oth,txt,ids,names,num,pt,path,list⟩):=by
 have ff:=dC hf
 have hnf:(!aS ⟨k,day,a,b,off,id,oth,txt,ids,names,num,pt,path,list⟩)=true->False:=fun h=>by rw [hf] at h; cases h
 have nn:names.n<=8:=ff.names
 have ll:list.n<=40:=ff.list
 have pp:path.n<=40:=ff.path
 obtain ⟨⟨(k1:1<=k),(k2:k<=15)⟩,_⟩:=bD hf
 have f0:(0:Int)<=k:=by omega
 have fb:k < ((16:Nat):Int):=by omega
 have fc:k.toNat < 16:=by omega
 have d0:-9223372036854775808<=day:=by have:0<=day:=ff.day.1; omega
 have d1:day<=9223372036854775807:=by have:day<=100000:=ff.day.2; omega
 have hlit:∀ j,j < 2->bI (rG (w0 ⟨k,day,a,b,off,id,oth,txt,ids,names,num,pt,path,list⟩)) j=stL ((w0 ⟨k,day,a,b,off,id,oth,txt,ids,names,num,pt,path,list⟩).getD j []):=fun j hj=>Nf _ j hj
 have hw0:w0 ⟨k,day,a,b,off,id,oth,txt,ids,names,num,pt,path,list⟩=w0 ⟨k,day,a,b,off,id,oth,txt,ids,names,num,pt,path,list⟩:=rfl
 repeat' (first|exact h|apply And.intro|exact trivial|exact rfl|exact lz fun _=>rfl)
 ·exact fun hc=>(hnf hc).elim
 refine fun _=>?_
 refine Exists.intro ⟨List B,fun y=>y=w0 ⟨k,day,a,b,off,id,oth,txt,ids,names,num,pt,path,list⟩,fun _=>[(4,.own 20 0)],fun y=>[(20,.cells 22 (.cons (.lsl 21 1 y.length) .nil)),(21,.arr 9 1 y.length fun j=>stL (y.getD j []))],fun _=>0⟩ ?_
 refine And.intro ?_ ?_
 ·rcases kinds k1 k2 with rfl|rfl|rfl|rfl|rfl|rfl|rfl|rfl|rfl|rfl|rfl|rfl|rfl|rfl|rfl
  all_goals repeat' (first|apply And.intro|exact trivial|exact rfl|exact f0|exact fb|exact fc|exact d0|exact d1)
  all_goals refine Exists.intro _ (And.intro hw0 ?_)
  all_goals repeat' (first|apply And.intro|exact trivial|exact rfl|exact lz fun _=>rfl|exact fun (j:Nat) (hj:j < 2)=>EL.aY (hlit j hj) (fD _ _ _ _))
 refine fun (y0:List B) (hy0:y0=w0 ⟨k,day,a,b,off,id,oth,txt,ids,names,num,pt,path,list⟩)=>?_
 have hl0:y0.length<=10000000:=by rw [hy0]; exact Nat.le_of_ble_eq_true rfl
 repeat' (first|apply And.intro|exact trivial|exact rfl|exact lz fun _=>rfl)
 refine Exists.intro ⟨List B,fun y=>y=w1 ⟨k,day,a,b,off,id,oth,txt,ids,names,num,pt,path,list⟩,fun _=>[],fun y=>[(20,.cells 22 (.cons (.lsl 30 1 y.length) .nil)),(30,.arr 9 1 y.length fun j=>stL (y.getD j [])),(21,.gone)],fun _=>0⟩ ?_
 refine And.intro ?_ ?_
 ·repeat' (first|apply And.intro|exact trivial|exact rfl|exact lz fun _=>rfl)
  ·refine fun (hc:(!decide (id=[]))=true)=>?_
   have hy:∀ y:List B,y=y0++(bQ [id]).list->y=w1 ⟨k,day,a,b,off,id,oth,txt,ids,names,num,pt,path,list⟩:=fun y e=>by
    rw [e,hy0]; unfold w1; dsimp only; rw [if_neg (by simpa using hc)]; rfl
   repeat' (first|apply And.intro|exact trivial|exact rfl|exact lz fun _=>rfl)
   refine Exists.intro (y0,bQ [id]) (Exists.intro [20,21] ?_)
   refine And.intro (And.intro hl0 (Nat.le_of_ble_eq_true rfl)) ?_
   repeat' (first|apply And.intro|exact trivial|exact rfl|exact lz fun _=>rfl)
   refine fun (y1:List B) (hy1:y1=y0++(bQ [id]).list)=>?_
   have hy1:=hy y1 hy1
   repeat' (first|apply And.intro|exact trivial|exact rfl|exact lz fun _=>rfl)
   refine Exists.intro y1 (And.intro hy1 ?_)
   repeat' (first|apply And.intro|exact trivial|exact rfl|exact lz fun _=>rfl)
  ·refine fun (hc:(!decide (id=[]))=false)=>?_
   have hy:y0=w1 ⟨k,day,a,b,off,id,oth,txt,ids,names,num,pt,path,list⟩:=by rw [hy0]; unfold w1; dsimp only; rw [if_pos (by simpa using hc)]; exact (List.append_nil _).symm
   repeat' (first|apply And.intro|exact trivial|exact rfl|exact lz fun _=>rfl)
   refine Exists.intro y0 (And.intro hy ?_)
   repeat' (first|apply And.intro|exact trivial|exact rfl|exact lz fun _=>rfl)
 refine fun (y1:List B) (hy1:y1=w1 ⟨k,day,a,b,off,id,oth,txt,ids,names,num,pt,path,list⟩)=>?_
 have hl1:y1.length<=10000000:=by rw [hy1]; have:=Lg ⟨k,day,a,b,off,id,oth,txt,ids,names,num,pt,path,list⟩; omega
 repeat' (first|apply And.intro|exact trivial|exact rfl|exact lz fun _=>rfl)
 refine Exists.intro ⟨List B,fun y=>y=w2 ⟨k,day,a,b,off,id,oth,txt,ids,names,num,pt,path,list⟩,fun _=>[],fun y=>[(20,.cells 22 (.cons (.lsl 31 1 y.length) .nil)),(31,.arr 9 1 y.length fun j=>stL (y.getD j [])),(30,.gone)],fun _=>0⟩ ?_
 have kpe:∀ {L:List B},kp ⟨k,day,a,b,off,id,oth,txt,ids,names,num,pt,path,list⟩=L->∀ y:List B,y=y1++L->y=w2 ⟨k,day,a,b,off,id,oth,txt,ids,names,num,pt,path,list⟩:=fun hL y e=>by rw [e,hy1]; unfold w2; rw [hL]
 have a0:-9223372036854775808<=a:=by have:0<=a:=ff.a.1; omega
 have a1:a<=9223372036854775807:=by have:a<=63:=ff.a.2; omega
 have b0:-9223372036854775808<=b:=by have:0<=b:=ff.b.1; omega
 have b1:b<=9223372036854775807:=by have:b<=63:=ff.b.2; omega
 have o0:-9223372036854775808<=off:=by have:0<=off:=ff.off.1; omega
 have o1:off<=9223372036854775807:=by have:off<=63:=ff.off.2; omega
 have hl:okT num.l:=h.num
 have p1:=As ff.pt
 have hq:txt.length<=1000000000:=by have:txt.length<=1000000:=h.txt; omega
 refine And.intro ?_ ?_
 ·repeat' (first|apply And.intro|exact trivial|exact rfl|exact lz fun _=>rfl)
  ·refine fun (hc:decide (k=1)=true)=>?_
   have hK:=kpe (L:=(bQ [Lib.itoa a]).list) (by simp [kp,of_decide_eq_true hc]; rfl)
   repeat' (first|apply And.intro|exact trivial|exact rfl|exact lz fun _=>rfl)
   ·exact a0
   ·exact a1
   refine Exists.intro (y1,bQ [Lib.itoa a]) (Exists.intro [20,30] ?_)
   refine And.intro (And.intro hl1 (Nat.le_of_ble_eq_true rfl)) ?_
   repeat' (first|apply And.intro|exact trivial|exact rfl|exact lz fun _=>rfl)
   refine fun (y2:List B) (hy2:y2=y1++(bQ [Lib.itoa a]).list)=>?_
   have hy2:=hK y2 hy2
   repeat' (first|apply And.intro|exact trivial|exact rfl|exact lz fun _=>rfl)
   refine Exists.intro y2 (And.intro hy2 ?_)
   repeat' (first|apply And.intro|exact trivial|exact rfl|exact lz fun _=>rfl)
  refine fun (hc1:decide (k=1)=false)=>?_
  repeat' (first|apply And.intro|exact trivial|exact rfl|exact lz fun _=>rfl)
  ·refine fun (hc:decide (k=4)=true)=>?_
   have hK:=kpe (L:=(bQ [oth]).list) (by simp [kp,of_decide_eq_true hc]; rfl)
   repeat' (first|apply And.intro|exact trivial|exact rfl|exact lz fun _=>rfl)
   refine Exists.intro (y1,bQ [oth]) (Exists.intro [20,30] ?_)
   refine And.intro (And.intro hl1 (Nat.le_of_ble_eq_true rfl)) ?_
   repeat' (first|apply And.intro|exact trivial|exact rfl|exact lz fun _=>rfl)
   refine fun (y2:List B) (hy2:y2=y1++(bQ [oth]).list)=>?_
   have hy2:=hK y2 hy2
   repeat' (first|apply And.intro|exact trivial|exact rfl|exact lz fun _=>rfl)
   refine Exists.intro y2 (And.intro hy2 ?_)
   repeat' (first|apply And.intro|exact trivial|exact rfl|exact lz fun _=>rfl)
  refine fun (hc4:decide (k=4)=false)=>?_
  repeat' (first|apply And.intro|exact trivial|exact rfl|exact lz fun _=>rfl)
  ·refine fun (hc:decide (k=6)=true)=>?_
   have hK:=kpe (L:=(bQ [oth,txt,kV num,dD pt]).list) (by simp [kp,of_decide_eq_true hc]; rfl)
   repeat' (first|apply And.intro|exact trivial|exact rfl|exact lz fun _=>rfl)
   ·exact hl
   ·exact p1.1.1
   ·exact p1.1.2
   ·exact p1.2.1
   ·exact p1.2.2
   refine Exists.intro (y1,bQ [oth,txt,kV num,dD pt]) (Exists.intro [20,30] ?_)
   refine And.intro (And.intro hl1 (Nat.le_of_ble_eq_true rfl)) ?_
   repeat' (first|apply And.intro|exact trivial|exact rfl|exact lz fun _=>rfl)
   refine fun (y2:List B) (hy2:y2=y1++(bQ [oth,txt,kV num,dD pt]).list)=>?_
   have hy2:=hK y2 hy2
   repeat' (first|apply And.intro|exact trivial|exact rfl|exact lz fun _=>rfl)
   refine Exists.intro y2 (And.intro hy2 ?_)
   repeat' (first|apply And.intro|exact trivial|exact rfl|exact lz fun _=>rfl)
  refine fun (hc6:decide (k=6)=false)=>?_
  repeat' (first|apply And.intro|exact trivial|exact rfl|exact lz fun _=>rfl)
  ·refine fun (hc:decide (k=7)=true)=>?_
   have hK:=kpe (L:=(bQ [oth,kI txt]).list) (by simp [kp,of_decide_eq_true hc]; rfl)
   repeat' (first|apply And.intro|exact trivial|exact rfl|exact lz fun _=>rfl)
   ·exact hq
   refine Exists.intro (y1,bQ [oth,kI txt]) (Exists.intro [20,30] ?_)
   refine And.intro (And.intro hl1 (Nat.le_of_ble_eq_true rfl)) ?_
   repeat' (first|apply And.intro|exact trivial|exact rfl|exact lz fun _=>rfl)
   refine fun (y2:List B) (hy2:y2=y1++(bQ [oth,kI txt]).list)=>?_
   have hy2:=hK y2 hy2
   repeat' (first|apply And.intro|exact trivial|exact rfl|exact lz fun _=>rfl)
   refine Exists.intro y2 (And.intro hy2 ?_)
   repeat' (first|apply And.intro|exact trivial|exact rfl|exact lz fun _=>rfl)
  refine fun (hc7:decide (k=7)=false)=>?_
  repeat' (first|apply And.intro|exact trivial|exact rfl|exact lz fun _=>rfl)
  ·refine fun (hc:decide (k=10)=true)=>?_
   have hK:=kpe (L:=(bQ [kV num,dD pt]).list) (by simp [kp,of_decide_eq_true hc]; rfl)
   repeat' (first|apply And.intro|exact trivial|exact rfl|exact lz fun _=>rfl)
   ·exact hl
   ·exact p1.1.1
   ·exact p1.1.2
   ·exact p1.2.1
   ·exact p1.2.2
   refine Exists.intro (y1,bQ [kV num,dD pt]) (Exists.intro [20,30] ?_)
   refine And.intro (And.intro hl1 (Nat.le_of_ble_eq_true rfl)) ?_
   repeat' (first|apply And.intro|exact trivial|exact rfl|exact lz fun _=>rfl)
   refine fun (y2:List B) (hy2:y2=y1++(bQ [kV num,dD pt]).list)=>?_
   have hy2:=hK y2 hy2
   repeat' (first|apply And.intro|exact trivial|exact rfl|exact lz fun _=>rfl)
   refine Exists.intro y2 (And.intro hy2 ?_)
   repeat' (first|apply And.intro|exact trivial|exact rfl|exact lz fun _=>rfl)
  refine fun (hc10:decide (k=10)=false)=>?_
  repeat' (first|apply And.intro|exact trivial|exact rfl|exact lz fun _=>rfl)
  ·refine fun (hc:decide (k=13)=true)=>?_
   have hK:=kpe (L:=(bQ [Lib.itoa a,Lib.itoa b]).list) (by simp [kp,of_decide_eq_true hc]; rfl)
   repeat' (first|apply And.intro|exact trivial|exact rfl|exact lz fun _=>rfl)
   ·refine fun _=>?_
    repeat' (first|apply And.intro|exact trivial|exact rfl|exact lz fun _=>rfl)
    ·exact a0
    ·exact a1
    ·exact b0
    ·exact b1
    refine Exists.intro (y1,bQ [Lib.itoa a,Lib.itoa b]) (Exists.intro [20,30] ?_)
    refine And.intro (And.intro hl1 (Nat.le_of_ble_eq_true rfl)) ?_
    repeat' (first|apply And.intro|exact trivial|exact rfl|exact lz fun _=>rfl)
    refine fun (y2:List B) (hy2:y2=y1++(bQ [Lib.itoa a,Lib.itoa b]).list)=>?_
    have hy2:=hK y2 hy2
    repeat' (first|apply And.intro|exact trivial|exact rfl|exact lz fun _=>rfl)
    refine Exists.intro y2 (And.intro hy2 ?_)
    repeat' (first|apply And.intro|exact trivial|exact rfl|exact lz fun _=>rfl)
   ·exact fun (h':decide (k=13)=false)=>absurd (hc.symm.trans h') (by decide)
  refine fun (hc13:decide (k=13)=false)=>?_
  repeat' (first|apply And.intro|exact trivial|exact rfl|exact lz fun _=>rfl)
  ·refine fun (hc:decide (k=14)=true)=>?_
   have hK:=kpe (L:=(bQ [Lib.itoa a,Lib.itoa b]).list) (by simp [kp,of_decide_eq_true hc]; rfl)
   repeat' (first|apply And.intro|exact trivial|exact rfl|exact lz fun _=>rfl)
   ·exact a0
   ·exact a1
   ·exact b0
   ·exact b1
   refine Exists.intro (y1,bQ [Lib.itoa a,Lib.itoa b]) (Exists.intro [20,30] ?_)
   refine And.intro (And.intro hl1 (Nat.le_of_ble_eq_true rfl)) ?_
   repeat' (first|apply And.intro|exact trivial|exact rfl|exact lz fun _=>rfl)
   refine fun (y2:List B) (hy2:y2=y1++(bQ [Lib.itoa a,Lib.itoa b]).list)=>?_
   have hy2:=hK y2 hy2
   repeat' (first|apply And.intro|exact trivial|exact rfl|exact lz fun _=>rfl)
   refine Exists.intro y2 (And.intro hy2 ?_)
   repeat' (first|apply And.intro|exact trivial|exact rfl|exact lz fun _=>rfl)
  refine fun (hc14:decide (k=14)=false)=>?_
  repeat' (first|apply And.intro|exact trivial|exact rfl|exact lz fun _=>rfl)
  ·refine fun (hc:decide (k=15)=true)=>?_
   have hK:=kpe (L:=(bQ [Lib.itoa off,txt]).list) (by simp [kp,of_decide_eq_true hc]; rfl)
   repeat' (first|apply And.intro|exact trivial|exact rfl|exact lz fun _=>rfl)
   ·exact o0
   ·exact o1
   refine Exists.intro (y1,bQ [Lib.itoa off,txt]) (Exists.intro [20,30] ?_)
   refine And.intro (And.intro hl1 (Nat.le_of_ble_eq_true rfl)) ?_
   repeat' (first|apply And.intro|exact trivial|exact rfl|exact lz fun _=>rfl)
   refine fun (y2:List B) (hy2:y2=y1++(bQ [Lib.itoa off,txt]).list)=>?_
   have hy2:=hK y2 hy2
   repeat' (first|apply And.intro|exact trivial|exact rfl|exact lz fun _=>rfl)
   refine Exists.intro y2 (And.intro hy2 ?_)
   repeat' (first|apply And.intro|exact trivial|exact rfl|exact lz fun _=>rfl)
  refine fun (hc15:decide (k=15)=false)=>?_
  have hK:=kpe (L:=[]) (by unfold kp; dsimp only; rw [if_neg (of_decide_eq_false hc1),if_neg (of_decide_eq_false hc4),if_neg (of_decide_eq_false hc6),if_neg (of_decide_eq_false hc7),if_neg (of_decide_eq_false hc10),if_neg (by rintro (q|q); exact of_decide_eq_false hc13 q; exact of_decide_eq_false hc14 q),if_neg (of_decide_eq_false hc15)]) y1 (List.append_nil _).symm
  repeat' (first|apply And.intro|exact trivial|exact rfl|exact lz fun _=>rfl)
  refine Exists.intro y1 (And.intro hK ?_)
  repeat' (first|apply And.intro|exact trivial|exact rfl|exact lz fun _=>rfl)
 refine fun (W:List B) (hW:W=w2 ⟨k,day,a,b,off,id,oth,txt,ids,names,num,pt,path,list⟩)=>?_
 repeat' (first|apply And.intro|exact trivial|exact rfl|exact lz fun _=>rfl)
 refine ⟨⟨Nat×List B,fun x=>x.1<=names.n/\x.2=w2 ⟨k,day,a,b,off,id,oth,txt,ids,names,num,pt,path,list⟩++nmW names x.1,fun x=>[(110,.int .i64 (x.1:Int))],
  fun x=>[(20,.cells 22 (.cons (.lsl 40 1 x.2.length) .nil)),(40,.arr 9 1 x.2.length fun j=>stL (x.2.getD j [])),(31,.gone)],fun x=>names.n - x.1⟩,(0,W),?_,?_,?_⟩
 ·exact ⟨Nat.zero_le _,by rw [hW]; exact (List.append_nil _).symm⟩
 ·repeat' (first|apply And.intro|exact trivial|exact rfl|exact lz fun _=>rfl)
 rintro ⟨i,W⟩ ⟨(hi:i<=names.n),(hW:W=w2 ⟨k,day,a,b,off,id,oth,txt,ids,names,num,pt,path,list⟩++nmW names i)⟩
 have hWl:W.length<=10000000:=by
  have:=Lh ⟨k,day,a,b,off,id,oth,txt,ids,names,num,pt,path,list⟩
  rw [hW,List.length_append,E1]
  omega
 repeat' (first|apply And.intro|exact trivial|exact rfl)
 ·refine fun (hc:decide ((i:Int) < (names.n:Int))=true)=>?_
  have hi1:(i:Int) < (names.n:Int):=of_decide_eq_true hc
  have hi0:(0:Int)<=(i:Int):=by omega
  have hil:i < names.n:=by omega
  have hs:=ff.scr i hil
  have s1:-9223372036854775808<=(names.f i).script:=by have:0<=(names.f i).script:=hs.1; omega
  have s2:(names.f i).script<=9223372036854775807:=by have:(names.f i).script<=7:=hs.2; omega
  have s3:(names.f i).text.length<=1000000000:=by have:(names.f i).text.length<=1000000:=(h.names.2 i hil).2; omega
  have b1:-9223372036854775808<=(i:Int)+1:=by omega
  have b2:(i:Int)+1<=9223372036854775807:=by omega
  repeat' (first|with_reducible exact hi1|with_reducible exact hi0|apply And.intro|exact trivial|exact rfl|exact lz fun _=>rfl)
  ·exact s1
  ·exact s2
  ·exact s3
  refine Exists.intro (W,bQ [(names.f i).lang,Lib.itoa (names.f i).script,kI (names.f i).text]) (Exists.intro [20,40] ?_)
  refine And.intro (And.intro hWl (Nat.le_of_ble_eq_true rfl)) ?_
  repeat' (first|apply And.intro|exact trivial|exact rfl|exact lz fun _=>rfl)
  refine fun (y:List B) (hy:y=W++(bQ [(names.f i).lang,Lib.itoa (names.f i).script,kI (names.f i).text]).list)=>?_
  have hy:y=w2 ⟨k,day,a,b,off,id,oth,txt,ids,names,num,pt,path,list⟩++nmW names (i+1):=by
   rw [hy,hW]; exact List.append_assoc _ _ _
  repeat' (first|with_reducible exact b1|with_reducible exact b2|apply And.intro|exact trivial|exact rfl|exact lz fun _=>rfl)
  refine Exists.intro (i+1,y) (And.intro (And.intro hil hy) ?_)
  repeat' (first|apply And.intro|exact trivial|exact rfl|exact lz fun _=>rfl)
  show names.n - (i+1) < names.n - i
  omega
 refine fun (hc:decide ((i:Int) < (names.n:Int))=false)=>?_
 have hin:i=names.n:=by have:¬ (i:Int) < (names.n:Int):=of_decide_eq_false hc; omega
 rw [hin] at hW
 have hW:W=w3 ⟨k,day,a,b,off,id,oth,txt,ids,names,num,pt,path,list⟩:=hW
 clear hWl
 repeat' (first|apply And.intro|exact trivial|exact rfl|exact lz fun _=>rfl)
 refine ⟨⟨Nat×List B,fun x=>x.1<=list.n/\x.2=w3 ⟨k,day,a,b,off,id,oth,txt,ids,names,num,pt,path,list⟩++enW k list x.1,fun x=>[(129,.int .i64 (x.1:Int))],
  fun x=>[(20,.cells 22 (.cons (.lsl 60 1 x.2.length) .nil)),(60,.arr 9 1 x.2.length fun j=>stL (x.2.getD j [])),(40,.gone)],fun x=>list.n - x.1⟩,(0,W),?_,?_,?_⟩
 ·exact ⟨Nat.zero_le _,by rw [hW]; exact (List.append_nil _).symm⟩
 ·repeat' (first|apply And.intro|exact trivial|exact rfl|exact lz fun _=>rfl)
 rintro ⟨i,W⟩ ⟨(hi:i<=list.n),(hW:W=w3 ⟨k,day,a,b,off,id,oth,txt,ids,names,num,pt,path,list⟩++enW k list i)⟩
 have hWl:W.length<=1000000:=by
  have:=Li ff
  have:=Eb (k:=k) (s:=list) (i:=i)
  rw [hW,List.length_append]
  omega
 have hWl':W.length<=10000000:=by omega
 repeat' (first|apply And.intro|exact trivial|exact rfl)
 ·refine fun (hc:decide ((i:Int) < (list.n:Int))=true)=>?_
  have hi1:(i:Int) < (list.n:Int):=of_decide_eq_true hc
  have hi0:(0:Int)<=(i:Int):=by omega
  have hil:i < list.n:=by omega
  have b1:-9223372036854775808<=(i:Int)+1:=by omega
  have b2:(i:Int)+1<=9223372036854775807:=by omega
  have s1:okT (list.f i).num.l:=(h.list.2 i hil).2
  have s2:=As (ff.lst i hil)
  repeat' (first|with_reducible exact hi1|with_reducible exact hi0|apply And.intro|exact trivial|exact rfl|exact lz fun _=>rfl)
  ·exact s1
  refine Exists.intro (W,bQ [(list.f i).id,kV (list.f i).num]) (Exists.intro [20,60] ?_)
  refine And.intro (And.intro hWl' (Nat.le_of_ble_eq_true rfl)) ?_
  repeat' (first|apply And.intro|exact trivial|exact rfl|exact lz fun _=>rfl)
  ·refine fun (y:List B) (hy:y=W++(bQ [(list.f i).id,kV (list.f i).num]).list)=>?_
   have hyl:y.length<=10000000:=by rw [hy,List.length_append,gQ]; show W.length+2<=10000000; omega
   repeat' (first|apply And.intro|exact trivial|exact rfl|exact lz fun _=>rfl)
   refine Exists.intro ⟨List B,fun z=>z=w3 ⟨k,day,a,b,off,id,oth,txt,ids,names,num,pt,path,list⟩++enW k list (i+1),fun _=>[],fun z=>[(20,.cells 22 (.cons (.lsl 90 1 z.length) .nil)),(90,.arr 9 1 z.length fun j=>stL (z.getD j [])),(62,.gone)],fun _=>0⟩ ?_
   refine And.intro ?_ ?_
   ·repeat' (first|apply And.intro|exact trivial|exact rfl|exact lz fun _=>rfl)
    ·refine fun (h9:decide (k=9)=true)=>?_
     have e9:=of_decide_eq_true h9
     repeat' (first|apply And.intro|exact trivial|exact rfl|exact lz fun _=>rfl)
     ·exact s2.1.1
     ·exact s2.1.2
     ·exact s2.2.1
     ·exact s2.2.2
     refine Exists.intro (y,bQ [dD (list.f i).pt]) (Exists.intro [20,62] ?_)
     refine And.intro (And.intro hyl (Nat.le_of_ble_eq_true rfl)) ?_
     repeat' (first|apply And.intro|exact trivial|exact rfl|exact lz fun _=>rfl)
     refine fun (z:List B) (hz:z=y++(bQ [dD (list.f i).pt]).list)=>?_
     have hz:z=w3 ⟨k,day,a,b,off,id,oth,txt,ids,names,num,pt,path,list⟩++enW k list (i+1):=by
      rw [hz,hy,hW,List.append_assoc,List.append_assoc]; simp only [enW]; rw [if_pos e9]; rfl
     repeat' (first|apply And.intro|exact trivial|exact rfl|exact lz fun _=>rfl)
     refine Exists.intro z (And.intro hz ?_)
     repeat' (first|apply And.intro|exact trivial|exact rfl|exact lz fun _=>rfl)
    ·refine fun (h9:decide (k=9)=false)=>?_
     have hz:y=w3 ⟨k,day,a,b,off,id,oth,txt,ids,names,num,pt,path,list⟩++enW k list (i+1):=by
      rw [hy,hW,List.append_assoc]; simp only [enW]; rw [if_neg (of_decide_eq_false h9)]; rfl
     repeat' (first|apply And.intro|exact trivial|exact rfl|exact lz fun _=>rfl)
     refine Exists.intro y (And.intro hz ?_)
     repeat' (first|apply And.intro|exact trivial|exact rfl|exact lz fun _=>rfl)
   refine fun (z:List B) (hz:z=w3 ⟨k,day,a,b,off,id,oth,txt,ids,names,num,pt,path,list⟩++enW k list (i+1))=>?_
   repeat' (first|with_reducible exact b1|with_reducible exact b2|apply And.intro|exact trivial|exact rfl|exact lz fun _=>rfl)
   refine Exists.intro (i+1,z) (And.intro (And.intro hil hz) ?_)
   repeat' (first|apply And.intro|exact trivial|exact rfl|exact lz fun _=>rfl)
   show list.n - (i+1) < list.n - i
   omega
 refine fun (hc:decide ((i:Int) < (list.n:Int))=false)=>?_
 have hin:i=list.n:=by have:¬ (i:Int) < (list.n:Int):=of_decide_eq_false hc; omega
 rw [hin] at hW
 have hW:W=w4 ⟨k,day,a,b,off,id,oth,txt,ids,names,num,pt,path,list⟩:=hW
 clear hWl hWl'
 repeat' (first|apply And.intro|exact trivial|exact rfl|exact lz fun _=>rfl)
 refine ⟨⟨Nat×List B,fun x=>x.1<=path.n/\x.2=w4 ⟨k,day,a,b,off,id,oth,txt,ids,names,num,pt,path,list⟩++paW path x.1,fun x=>[(154,.int .i64 (x.1:Int))],
  fun x=>[(20,.cells 22 (.cons (.lsl 80 1 x.2.length) .nil)),(80,.arr 9 1 x.2.length fun j=>stL (x.2.getD j [])),(60,.gone)],fun x=>path.n - x.1⟩,(0,W),?_,?_,?_⟩
 ·exact ⟨Nat.zero_le _,by rw [hW]; exact (List.append_nil _).symm⟩
 ·repeat' (first|apply And.intro|exact trivial|exact rfl|exact lz fun _=>rfl)
 rintro ⟨i,W⟩ ⟨(hi:i<=path.n),(hW:W=w4 ⟨k,day,a,b,off,id,oth,txt,ids,names,num,pt,path,list⟩++paW path i)⟩
 have hWl:W.length<=10000000:=by
  have:=Lj ff
  rw [hW,List.length_append,mL]
  omega
 repeat' (first|apply And.intro|exact trivial|exact rfl)
 ·refine fun (hc:decide ((i:Int) < (path.n:Int))=true)=>?_
  have hi1:(i:Int) < (path.n:Int):=of_decide_eq_true hc
  have hi0:(0:Int)<=(i:Int):=by omega
  have hil:i < path.n:=by omega
  have b1:-9223372036854775808<=(i:Int)+1:=by omega
  have b2:(i:Int)+1<=9223372036854775807:=by omega
  have s1:=As (ff.pth i hil)
  repeat' (first|with_reducible exact hi1|with_reducible exact hi0|apply And.intro|exact trivial|exact rfl|exact lz fun _=>rfl)
  ·exact s1.1.1
  ·exact s1.1.2
  ·exact s1.2.1
  ·exact s1.2.2
  refine Exists.intro (W,bQ [dD (path.p i)]) (Exists.intro [20,80] ?_)
  refine And.intro (And.intro hWl (Nat.le_of_ble_eq_true rfl)) ?_
  repeat' (first|apply And.intro|exact trivial|exact rfl|exact lz fun _=>rfl)
  refine fun (y:List B) (hy:y=W++(bQ [dD (path.p i)]).list)=>?_
  have hy:y=w4 ⟨k,day,a,b,off,id,oth,txt,ids,names,num,pt,path,list⟩++paW path (i+1):=by
   rw [hy,hW]; exact List.append_assoc _ _ _
  repeat' (first|with_reducible exact b1|with_reducible exact b2|apply And.intro|exact trivial|exact rfl|exact lz fun _=>rfl)
  refine Exists.intro (i+1,y) (And.intro (And.intro hil hy) ?_)
  repeat' (first|apply And.intro|exact trivial|exact rfl|exact lz fun _=>rfl)
  show path.n - (i+1) < path.n - i
  omega
 refine fun (hc:decide ((i:Int) < (path.n:Int))=false)=>?_
 have hin:i=path.n:=by have:¬ (i:Int) < (path.n:Int):=of_decide_eq_false hc; omega
 rw [hin] at hW
 have hW:W=w5 ⟨k,day,a,b,off,id,oth,txt,ids,names,num,pt,path,list⟩:=hW
 repeat' (first|apply And.intro|exact trivial|exact rfl|exact lz fun _=>rfl)
 refine Exists.intro (W,ids) (Exists.intro [20,80] ?_)
 refine And.intro (And.intro hWl h.ids.1) ?_
 repeat' (first|apply And.intro|exact trivial|exact rfl|exact lz fun _=>rfl)
 refine fun (y:List B) (hy:y=W++ids.list)=>?_
 have hy:y=wl ⟨k,day,a,b,off,id,oth,txt,ids,names,num,pt,path,list⟩:=by rw [hy,hW]; rfl
 have hyl:y.length<=1000000:=by
  have:=Dy ff
  have:ids.n<=8:=ff.ids
  rw [hy]
  show (w5 ⟨k,day,a,b,off,id,oth,txt,ids,names,num,pt,path,list⟩++ids.list).length<=1000000
  rw [List.length_append,gQ]
  omega
 have ej:Lib.join ((List.range y.length).map fun i=>y.getD i []) [32]=cB ⟨k,day,a,b,off,id,oth,txt,ids,names,num,pt,path,list⟩:=by
  rw [tW,hy]
  exact (if_pos hf).symm
 have ejl:(Lib.join ((List.range y.length).map fun i=>y.getD i []) [32]).length<=140737488355328:=by
  rw [tW,hy]
  exact M7 h ff
 have e2:(0:Int)=(if aS ⟨k,day,a,b,off,id,oth,txt,ids,names,num,pt,path,list⟩=true then 0 else 1):=(if_pos hf).symm
 repeat' (first|exact ej|exact e2|apply And.intro|exact trivial|exact rfl|exact lz fun _=>rfl)
 ·exact hyl
 ·exact ejl
 ·exact Nat.le_of_eq (Nat.zero_add _)
 ·exact fun (j:Nat) (_:j < y.length)=>EL.aY (congrArg (fun j=>stL (y.getD j [])) (Nat.zero_add j)) (fD _ _ _ _)
theorem Iu:Is.Ok Tryz.prog 12:=by
 refine Eng.Spec.okR e12 q12 (fun _=>tab12) (fun _ _=>K4) ?_
 rintro (e:Ev) (h:okV e)
 by_cases hf:aS e=true
 ·refine ⟨trivial,?_⟩
  obtain ⟨k,day,a,b,off,id,oth,txt,ids,names,num,pt,path,list⟩:=e
  exact Qo h hf
 ·have hf:aS e=false:=by simpa using hf
  have e1:[]=cB e:=by unfold cB; rw [hf]; rfl
  have e2:(1:Int)=(if aS e=true then 0 else 1):=by rw [hf]; rfl
  refine ⟨trivial,?_⟩
  unfold tab12
  repeat' (first|exact h|apply And.intro|exact trivial|exact rfl|exact lz fun _=>rfl)
  ·refine fun _=>?_
   repeat' (first|exact e1|exact e2|apply And.intro|exact trivial|exact rfl)
  ·refine fun hc=>?_
   have hc:(!aS e)=false:=hc
   rw [hf] at hc
   cases hc
end F13g
