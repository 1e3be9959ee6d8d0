/- A part of the proof. -/
import Derived.Test.YtpiolkcdfgiefaaGreatDoorT28
import Derived.Test.YtpiolkcdfgiefaaGreatDoorT2
section
open Go Go.Eng Go.Proofs A0 T1 T2 T3 T4 T5 T6 T28
set_option maxRecDepth 100000
namespace T29
def g181:List Nat:=[0,2]
def c181:aF :=
 .seq (.region g181 [(zo 2 (.move cF))]) (.seq (.region g181 [(mv 3 0),(mv 4 0),(zo 5 (.bin (.neq) (.s 3) (.s 4))),(mv 2 5)]) .ret)
theorem e181:aO Tryz.prog 181 g181 [] [] []=some (c181,[.slot 2],6):=by kernel_rfl
def E8:Eng.Spec where
 X:=Int
 args:=fun n=>.cons (.int .u8 n) .nil
 pre:=fun _=>True
 res:=fun _=>.bool false
 inst:=fun
  | .cons (.int _ n) _=>some n
  | _=>none
theorem Tq:E8.Ok Tryz.prog 181:=by
 refine Eng.Spec.okR e181 .nil (fun _=>[]) (fun _ _=>aD.nil) ?_
 rintro (n:Int) _
 refine ⟨trivial,?_⟩
 repeat' (first|apply And.intro|exact trivial|exact rfl|exact zf|exact zh|refine zt ?_|fail)
 ·show (!decide (n=n))=false
  simp
def g167:List Nat:=[0,1,4]
def c167:aF :=
 .seq (.region g167 [(zo 4 (.move cF))]) (.seq (.region g167 [(mv 5 0),(zo 6 (.call (.c (.fn 181)) [.s 5])),(mv 7 6),(mg 8 7 true 1),(zg 9 7 true (.call (.c (.fn 181)) [.s 8])),(zg 10 7 true (.not (.s 9))),(zo 11 (.pick (.s 7) (.s 10) cF)),(mv 12 11),(mg 13 12 false 0),(mg 14 12 false 1),(zg 15 12 false (.bin (.lss) (.s 13) (.s 14))),(zo 16 (.pick (.s 12) cT (.s 15))),(mv 4 16)]) .ret)
theorem e167:aO Tryz.prog 167 g167 [] [] []=some (c167,[.slot 4],17):=by kernel_rfl
def Bu:Eng.Spec where
 X:=Int×Int
 args:=fun x=>.cons (.int .u8 x.1) (.cons (.int .u8 x.2) .nil)
 pre:=fun _=>True
 res:=fun x=>.bool (decide (x.1 < x.2))
 inst:=fun
  | .cons (.int _ n) (.cons (.int _ m) _)=>some (n,m)
  | _=>none
theorem zM:Bu.Ok Tryz.prog 167:=by
 refine Eng.Spec.okR e167 .nil (fun _=>[(181,.p E8)]) (fun _ _=>aD.p Tq aD.nil) ?_
 rintro ⟨a,b⟩ _
 refine ⟨trivial,?_⟩
 repeat' (first|apply And.intro|exact trivial|exact rfl|exact zf|exact zh|refine zt ?_|fail)
def g146:List Nat:=[4,8,14,0,2]
def c146:aF :=
 .seq (.region g146 [(zo 2 (.move (cj 0)))]) (.seq (.seq (.region g146 [(mv 3 0),(zo 4 (.bin (.geq) (.s 3) (.c (.int (.u64) 4294967296))))]) (.cond (.s 4) (.seq (.region g146 [(mv 5 0),(zo 6 (.bin (.shr) (.s 5) (.c (.int (.u64) 32)))),(mv 0 6)]) (.region g146 [(zo 2 (.move (cj 32)))])) .skip)) (.seq (.seq (.region g146 [(mv 7 0),(zo 8 (.bin (.geq) (.s 7) (.c (.int (.u64) 65536))))]) (.cond (.s 8) (.seq (.region g146 [(mv 9 0),(zo 10 (.bin (.shr) (.s 9) (.c (.int (.u64) 16)))),(mv 0 10)]) (.region g146 [(mv 11 2),(zo 12 (.bin (.add) (.s 11) (cj 16))),(mv 2 12)])) .skip)) (.seq (.seq (.region g146 [(mv 13 0),(zo 14 (.bin (.geq) (.s 13) (.c (.int (.u64) 256))))]) (.cond (.s 14) (.seq (.region g146 [(mv 15 0),(zo 16 (.bin (.shr) (.s 15) (.c (.int (.u64) 8)))),(mv 0 16)]) (.region g146 [(mv 17 2),(zo 18 (.bin (.add) (.s 17) (cj 8))),(mv 2 18)])) .skip)) (.seq (.region g146 [(mv 19 2),(mv 20 0),(zo 21 (.cnv (.u8) (.s 20))),(zo 22 (.idxStr (.c (.str [0,1,2,2,3,3,3,3,4,4,4,4,4,4,4,4,5,5,5,5,5,5,5,5,5,5,5,5,5,5,5,5,6,6,6,6,6,6,6,6,6,6,6,6,6,6,6,6,6,6,6,6,6,6,6,6,6,6,6,6,6,6,6,6,7,7,7,7,7,7,7,7,7,7,7,7,7,7,7,7,7,7,7,7,7,7,7,7,7,7,7,7,7,7,7,7,7,7,7,7,7,7,7,7,7,7,7,7,7,7,7,7,7,7,7,7,7,7,7,7,7,7,7,7,7,7,7,7,8,8,8,8,8,8,8,8,8,8,8,8,8,8,8,8,8,8,8,8,8,8,8,8,8,8,8,8,8,8,8,8,8,8,8,8,8,8,8,8,8,8,8,8,8,8,8,8,8,8,8,8,8,8,8,8,8,8,8,8,8,8,8,8,8,8,8,8,8,8,8,8,8,8,8,8,8,8,8,8,8,8,8,8,8,8,8,8,8,8,8,8,8,8,8,8,8,8,8,8,8,8,8,8,8,8,8,8,8,8,8,8,8,8,8,8,8,8,8,8,8,8,8,8,8,8,8,8])) (.s 21))),(zo 23 (.cnv .i64 (.s 22))),(zo 24 (.bin (.add) (.s 19) (.s 23))),(mv 2 24)]) .ret))))
theorem e146:aO Tryz.prog 146 g146 [] [] []=some (c146,[.slot 2],25):=by kernel_rfl
def Lv:Eng.Spec where
 X:=Nat
 args:=fun n=>.cons (.int .u64 n) .nil
 pre:=fun n=>n<=12
 res:=fun n=>.int .i64 ([0,1,2,2,3,3,3,3,4,4,4,4,4].getD n 0)
 inst:=fun
  | .cons (.int _ (n:Int)) _=>some n.toNat
  | _=>none
theorem Lw:Lv.Ok Tryz.prog 146:=by
 refine Eng.Spec.okR e146 .nil (fun _=>[]) (fun _ _=>aD.nil) ?_
 rintro (n:Nat) (hn:n<=12)
 have hc:n=0\/n=1\/n=2\/n=3\/n=4\/n=5\/n=6\/n=7\/n=8\/n=9\/n=10\/n=11\/n=12:=by omega
 rcases hc with rfl|rfl|rfl|rfl|rfl|rfl|rfl|rfl|rfl|rfl|rfl|rfl|rfl
 all_goals
  refine ⟨trivial,?_⟩
  repeat' (first|apply And.intro|exact trivial|decide|exact rfl|exact fun h=>absurd h (by decide)|refine fun (_:_=false)=>?_|fail)
def g144:List Nat:=[0,2]
def c144:aF :=
 .seq (.region g144 [(zo 2 (.move (cj 0)))]) (.seq (.cond cF (.seq (.region g144 [(mv 3 0),(zo 4 (.cnv (.u32) (.s 3))),(zo 5 (.call (.c (.fn 170)) [.s 4])),(mv 2 5)]) .ret) .skip) (.seq (.region g144 [(mv 6 0),(zo 7 (.call (.c (.fn 146)) [.s 6])),(mv 2 7)]) .ret))
theorem e144:aO Tryz.prog 144 g144 [] [] []=some (c144,[.slot 2],8):=by kernel_rfl
def Vm:Eng.Spec where
 X:=Nat
 args:=fun n=>.cons (.int .u64 n) .nil
 pre:=fun n=>n<=12
 res:=fun n=>.int .i64 ([0,1,2,2,3,3,3,3,4,4,4,4,4].getD n 0)
 inst:=fun
  | .cons (.int _ (n:Int)) _=>some n.toNat
  | _=>none
theorem Tn:Vm.Ok Tryz.prog 144:=by
 refine Eng.Spec.okR e144 .nil (fun _=>[(146,.p Lv)]) (fun _ _=>aD.p Lw aD.nil) ?_
 rintro (n:Nat) (hn:n<=12)
 refine ⟨trivial,?_⟩
 repeat' (first|exact hn|apply And.intro|exact trivial|exact rfl|exact zf|exact zh|refine zt ?_|fail)
def swp (L:List Int) (j:Nat):List Int:=(L.set j (L.getD (j - 1) 0)).set (j - 1) (L.getD j 0)
theorem Nn (a:Int) (L:List Int) (k:Nat):swp (a::L) (k+2)=a::swp L (k+1):=by
 simp [swp]
theorem No:∀ (k:Nat) (L:List Int),k+1 < L.length->(swp L (k+1)).Perm L:=by
 intro k
 induction k with
 | zero =>
  intro L h
  match L,h with
  | x::y::r,_=>exact List.Perm.swap _ _ _
 | succ k ih =>
  intro L h
  match L,h with
  | x::r,h =>
   rw [Nn]
   exact (ih r (by simpa using h)).cons x
theorem swp_get {L:List Int} {j p:Nat} (h1:1<=j) (h2:j < L.length):(swp L j).getD p 0=if p=j - 1 then L.getD j 0 else if p=j then L.getD (j - 1) 0 else L.getD p 0:=by
 simp only [swp,List.getD_eq_getElem?_getD,List.getElem?_set,List.length_set]
 by_cases e1:p=j - 1
 ·subst e1
  simp only [if_true,show j - 1 < L.length by omega]
  rfl
 ·by_cases e2:p=j
  ·subst e2
   simp only [if_neg (Ne.symm e1),if_neg e1,if_true,h2]
   rfl
  ·simp only [if_neg (Ne.symm e1),if_neg e1,if_neg (Ne.symm e2),if_neg e2]
def Ins (L:List Int) (i j:Nat):Prop:=∀ a b,a < b->b<=i->b≠j->L.getD a 0<=L.getD b 0
def Srd (L:List Int) (i:Nat):Prop:=∀ a b,a < b->b < i->L.getD a 0<=L.getD b 0
theorem Iq {L:List Int} {i:Nat} (h:Srd L i):Ins L i i:=fun a b h1 h2 h3=>h a b h1 (by omega)
theorem Lj {L:List Int} {i:Nat} (h:Ins L i 0):Srd L (i+1):=fun a b h1 h2=>h a b h1 (by omega) (by omega)
theorem O7 {L:List Int} {i j:Nat} (h:Ins L i j) (hj:1<=j) (hi:j<=i) (hc:¬ L.getD j 0 < L.getD (j - 1) 0):Srd L (i+1):=by
 intro a b h1 h2
 by_cases hb:b=j
 ·subst hb
  by_cases ha:a=b - 1
  ·subst ha; omega
  ·have:=h a (b - 1) (by omega) (by omega) (by omega)
   omega
 ·exact h a b h1 (by omega) hb
theorem Lk {L:List Int} {i j:Nat} (h:Ins L i j) (hj:1<=j) (hi:j<=i) (hl:i < L.length) (hc:L.getD j 0 < L.getD (j - 1) 0):Ins (swp L j) i (j - 1):=by
 intro a b h1 h2 h3
 have hjl:j < L.length:=by omega
 rw [swp_get hj hjl,swp_get hj hjl]
 rw [if_neg h3]
 by_cases hb:b=j
 ·subst hb
  rw [if_pos rfl]
  by_cases ha:a=b - 1
  ·rw [if_pos ha]; omega
  ·rw [if_neg ha,if_neg (by omega)]
   exact h a (b - 1) (by omega) (by omega) (by omega)
 ·rw [if_neg hb]
  by_cases ha:a=j - 1
  ·rw [if_pos ha]
   exact h j b (by omega) h2 hb
  ·rw [if_neg ha]
   by_cases ha2:a=j
   ·rw [if_pos ha2]
    exact h (j - 1) b (by omega) h2 hb
   ·rw [if_neg ha2]
    exact h a b h1 h2 hb
theorem one_le:1<=1000001:=by decide
theorem ext0 {T:Tb} {g:Option (Nat×Bool)} {fr:List (Nat×SV)} {r:List (Nat×aC)} {tyq sz n nx:Nat} {enc enc':Nat->SV} {K:SV->St->Prop} {o:SOp} (he:∀ j,enc j=enc' j) (h:Eng.evE T g ⟨fr,(0,.arr tyq sz n enc')::r,nx⟩ K o):Eng.evE T g ⟨fr,(0,.arr tyq sz n enc)::r,nx⟩ K o:=by
 rw [show enc=enc' from funext he]; exact h
theorem Ka {α:Type} (a b:Nat) (x y:α):(bif Nat.beq a b then x else y)=if a=b then x else y:=by
 by_cases h:a=b
 ·subst h; simp
 ·have:Nat.beq a b=false:=by
   cases hb:Nat.beq a b with
   | false=>rfl
   | true=>exact absurd (Nat.eq_of_beq_eq_true hb) h
  simp [this,h]
theorem swp1 {M:List Int} {j:Nat} (hj:1<=j) (hl:j < M.length) (p:Nat) :
  (bif Nat.beq p (0+(j:Int).toNat) then SV.cons (.int .u8 (M.getD (0+((j:Int) - 1).toNat) 0)) .nil else lc bE 0 M p)=lc bE 0 (M.set j (M.getD (j - 1) 0)) p:=by
 rw [Ka,Nat.zero_add,Nat.zero_add,Int.toNat_natCast,show ((j:Int) - 1).toNat=j - 1 by omega]
 unfold lc
 by_cases h:p=j
 ·subst h
  rw [if_pos rfl]
  simp only [List.getD_eq_getElem?_getD,List.getElem?_set,if_true,hl]
  rfl
 ·rw [if_neg h]
  simp only [List.getD_eq_getElem?_getD,List.getElem?_set,if_neg (Ne.symm h)]
theorem swp2 {K:Keep} {hp:List (Nat×aC)} {m:Nat} {M:List Int} {j:Nat} (hj:1<=j) (hl:j < M.length) (p:Nat) :
  iC K (sub K hp (m+3)) (bif Nat.beq p (0+((j:Int) - 1).toNat) then SV.cons (.int .u8 (M.getD (0+(j:Int).toNat) 0)) .nil else lc bE 0 (M.set j (M.getD (j - 1) 0)) p) (lc bE 0 (swp M j) p):=by
 have e:(bif Nat.beq p (0+((j:Int) - 1).toNat) then SV.cons (.int .u8 (M.getD (0+(j:Int).toNat) 0)) .nil else lc bE 0 (M.set j (M.getD (j - 1) 0)) p)=lc bE 0 (swp M j) p:=by
  rw [Ka,Nat.zero_add,Nat.zero_add,Int.toNat_natCast,show ((j:Int) - 1).toNat=j - 1 by omega]
  unfold lc
  rw [swp_get hj hl]
  by_cases h:p=j - 1
  ·rw [if_pos h,if_pos h]; rfl
  ·rw [if_neg h,if_neg h]
   by_cases h2:p=j
   ·subst h2
    rw [if_pos rfl]
    simp only [List.getD_eq_getElem?_getD,List.getElem?_set,if_true,hl]
    rfl
   ·rw [if_neg h2]
    simp only [List.getD_eq_getElem?_getD,List.getElem?_set,if_neg (Ne.symm h2)]
 rw [e]
 exact Or.inl (aW _ _ _ _)
def g161:List Nat:=[2,12,1,30,0,7,6]
def c161:aF :=
 .seq (.region g161 [(mv 8 1),(zo 9 (.bin (.add) (.s 8) (cj 1))),(mv 6 9)]) (.block 0 (.loop 0 [10,11,12,15,16,17,18,19,20,21,22,23,24,25,26,27,28,29,30,33,34,35,36,37,38,39,40,41,42,43,44,45,46,47,48,31,32,7,13,14,6] (.seq (.seq (.region g161 [(mv 10 6),(mv 11 2),(zo 12 (.bin (.lss) (.s 10) (.s 11)))]) (.cond (.s 12) .skip (.exit 0))) (.seq (.block 1 (.seq (.region g161 [(mv 15 6),(mv 7 15)]) (.block 2 (.loop 1 [16,17,18,19,20,21,22,23,24,25,26,27,28,29,30,33,34,35,36,37,38,39,40,41,42,43,44,45,46,47,48,31,32,7] (.seq (.seq (.drawn g161 (.pure 0 (mv 16 7) (.pure 1 (mv 17 1) (.pure 2 (zo 18 (.bin (.gtr) (.s 16) (.s 17))) (.pure 3 (mv 19 18) (.pure 4 (mg 20 19 true 0) (.pure 5 (mg 21 19 true 7) (.pure 6 (zg 22 19 true (.idxSl 1 (.s 20) (.s 21))) (.pure 7 (lg 23 19 true 22) (.pure 8 (mg 24 19 true 0) (.pure 9 (mg 25 19 true 7) (.pure 10 (zg 26 19 true (.bin (.sub) (.s 25) (cj 1))) (.pure 11 (zg 27 19 true (.idxSl 1 (.s 24) (.s 26))) (.pure 12 (lg 28 19 true 27) (.pure 13 (zg 29 19 true (.call (.c (.fn 167)) [.s 23,.s 28])) (.pure 14 (zo 30 (.pick (.s 19) (.s 29) cF)) .done)))))))))))))))) (.cond (.s 30) .skip (.exit 2))) (.seq (.block 3 (.drawn g161 (.pure 0 (mv 33 0) (.pure 1 (mv 34 7) (.pure 2 (mv 35 0) (.pure 3 (mv 36 7) (.pure 4 (zo 37 (.bin (.sub) (.s 36) (cj 1))) (.pure 5 (mv 38 0) (.pure 6 (mv 39 7) (.pure 7 (zo 40 (.bin (.sub) (.s 39) (cj 1))) (.pure 8 (zo 41 (.idxSl 1 (.s 38) (.s 40))) (.pure 9 (ld 42 41) (.pure 10 (mv 43 0) (.pure 11 (mv 44 7) (.pure 12 (zo 45 (.idxSl 1 (.s 43) (.s 44))) (.pure 13 (ld 46 45) (.pure 14 (zo 47 (.idxSl 1 (.s 33) (.s 34))) (.eff 15 ⟨none,none,.store 1 (.s 47) (.s 42),[]⟩ [] (.pure 16 (zo 48 (.idxSl 1 (.s 35) (.s 37))) (.eff 17 ⟨none,none,.store 1 (.s 48) (.s 46),[]⟩ [] .done .none)) .none)))))))))))))))))) (.region g161 [(mv 31 7),(zo 32 (.bin (.sub) (.s 31) (cj 1))),(mv 7 32)]))))))) (.region g161 [(mv 13 6),(zo 14 (.bin (.add) (.s 13) (cj 1))),(mv 6 14)])))))
theorem e161:aO Tryz.prog 161 g161 [] [] []=some (c161,[],49):=by kernel_rfl
def iZ:aK where
 X:=List Int
 Y:=List Int
 args:=fun L=>.cons (.lsl 0 1 L.length) (.cons (.int .i64 0) (.cons (.int .i64 L.length) .nil))
 pre:=fun L=>L.length<=1000000
 h0:=fun L=>[(0,.arr 5 1 L.length (lc bE 0 L))]
 nx0:=1
 post:=fun L y=>y.Perm L/\Srd y y.length
 res:=fun _ _=>.tup .nil
 h1:=fun _ y=>[(0,.arr 5 1 y.length (lc bE 0 y))]
 nx1:=1
theorem Ej:iZ.Ok Tryz.prog 161:=by
 refine Eng.aK.okR e161 .nil (fun _=>[(167,.p Bu)]) (fun _ _=>aD.p zM aD.nil) ?_
 rintro (L0:List Int) (hn:L0.length<=1000000)
 refine ⟨trivial,?_⟩
 repeat' (first|apply And.intro|exact trivial|exact rfl|exact zf|exact zh|refine zt ?_|fail)
 ·decide
 ·decide
 refine ⟨⟨Nat×List Int,fun x=>1<=x.1/\x.1<=1000001/\x.2.Perm L0/\Srd x.2 x.1,fun x=>[(6,.int .i64 (x.1:Int))],fun x=>[(0,.arr 5 1 L0.length (lc bE 0 x.2))],fun x=>L0.length - x.1⟩,(1,L0),⟨Nat.le_refl 1,one_le,List.Perm.refl _,fun a b h1 h2=>by omega⟩,?_,?_⟩
 ·repeat' (first|apply And.intro|exact trivial|exact rfl|exact cG (fun a=>aW _ _ _ a)|exact bG (fun a=>aW _ _ _ a)|fail)
 rintro ⟨i,L⟩ ⟨(h1:1<=i),(h2:i<=1000001),(hp:L.Perm L0),(hs:Srd L i)⟩
 have hl:L.length=L0.length:=hp.length_eq
 repeat' (first|apply And.intro|exact trivial|exact rfl|exact zf|exact zh|refine zt ?_|fail)
 ·refine fun (hlt:decide ((i:Int) < (L0.length:Int))=true)=>?_
  replace hlt:i < L0.length:=by have:=of_decide_eq_true hlt; omega
  repeat' (first|apply And.intro|exact trivial|exact rfl|exact zf|exact zh|refine zt ?_|fail)
  refine ⟨⟨Nat×List Int,fun x=>x.1<=i/\x.2.Perm L0/\Ins x.2 i x.1,fun x=>[(7,.int .i64 (x.1:Int))],fun x=>[(0,.arr 5 1 L0.length (lc bE 0 x.2))],fun x=>x.1⟩,(i,L),⟨Nat.le_refl i,hp,Iq hs⟩,?_,?_⟩
  ·repeat' (first|apply And.intro|exact trivial|exact rfl|exact cG (fun a=>aW _ _ _ a)|exact bG (fun a=>aW _ _ _ a)|fail)
  rintro ⟨j,M⟩ ⟨(g1:j<=i),(gp:M.Perm L0),(gs:Ins M i j)⟩
  have gl:M.length=L0.length:=gp.length_eq
  repeat' (first|apply And.intro|exact trivial|exact rfl|exact zf|exact zh|refine zt ?_|fail)
  all_goals try (
   intro (hg:decide ((0:Int) < (j:Int))=true)
   replace hg:=of_decide_eq_true hg
   repeat' (refine And.intro ?_ ?_)
   all_goals first
    | (show (0:Int)<=(j:Int); omega)
    | (show (j:Int) < (L0.length:Int); omega)
    | (show (0:Int)<=(j:Int) - 1; omega)
    | (show (j:Int) - 1 < (L0.length:Int); omega)
    | (show (-9223372036854775808:Int)<=(j:Int) - 1; omega)
    | (show (j:Int) - 1<=(9223372036854775807:Int); omega)
    | (show 0+(j:Int).toNat < L0.length; omega)
    | (show 0+((j:Int) - 1).toNat < L0.length; omega)
    | exact trivial
    | exact rfl)
  ·refine fun hc=>?_
   replace hc:(decide ((0:Int) < (j:Int)) && decide (M.getD (0+(j:Int).toNat) 0 < M.getD (0+((j:Int) - 1).toNat) 0))=true:=(bA _ _ _ _).symm.trans hc
   rw [Bool.and_eq_true,decide_eq_true_eq,decide_eq_true_eq,Nat.zero_add,Nat.zero_add,Int.toNat_natCast,show ((j:Int) - 1).toNat=j - 1 by omega] at hc
   obtain ⟨hj,hlt2⟩:=hc
   replace hj:1<=j:=by omega
   repeat' (first|apply And.intro|exact trivial|exact rfl|exact zf|exact zh|refine zt ?_|fail)
   all_goals try first
    | (show (0:Int)<=(j:Int); omega)
    | (show (j:Int) < (L0.length:Int); omega)
    | (show (0:Int)<=(j:Int) - 1; omega)
    | (show (j:Int) - 1 < (L0.length:Int); omega)
    | (show (-9223372036854775808:Int)<=(j:Int) - 1; omega)
    | (show (j:Int) - 1<=(9223372036854775807:Int); omega)
    | (show 0+(j:Int).toNat < L0.length; omega)
    | (show 0+((j:Int) - 1).toNat < L0.length; omega)
   refine ext0 (enc':=fun p=>lc bE 0 (M.set j (M.getD (j - 1) 0)) p) (swp1 hj (show j < M.length by omega)) ?_
   repeat' (first|apply And.intro|exact trivial|exact rfl|exact zf|exact zh|refine zt ?_|fail)
   all_goals try first
    | (show (0:Int)<=(j:Int); omega)
    | (show (j:Int) < (L0.length:Int); omega)
    | (show (0:Int)<=(j:Int) - 1; omega)
    | (show (j:Int) - 1 < (L0.length:Int); omega)
    | (show (-9223372036854775808:Int)<=(j:Int) - 1; omega)
    | (show (j:Int) - 1<=(9223372036854775807:Int); omega)
    | (show 0+(j:Int).toNat < L0.length; omega)
    | (show 0+((j:Int) - 1).toNat < L0.length; omega)
   refine Exists.intro (j - 1,swp M j) (And.intro ⟨show j - 1<=i by omega,((show swp M j=swp M (j - 1+1) by rw [show j - 1+1=j by omega]) ▸ No (j - 1) M (by omega)).trans gp,Lk gs hj g1 (by omega) hlt2⟩ (And.intro ?_ (show j - 1 < j by omega)))
   repeat' (first|apply And.intro|exact trivial|exact rfl|exact zf|exact zh|refine zt ?_|exact fun (p:Nat) (_:p < L0.length)=>swp2 hj (show j < M.length by omega) p|(show (j:Int) - 1=((j - 1:Nat):Int); omega)|fail)
  ·refine fun hc=>?_
   replace hc:(decide ((0:Int) < (j:Int)) && decide (M.getD (0+(j:Int).toNat) 0 < M.getD (0+((j:Int) - 1).toNat) 0))=false:=(bA _ _ _ _).symm.trans hc
   have hS:Srd M (i+1):=by
    rcases Nat.eq_zero_or_pos j with h0|h0
    ·subst h0; exact Lj gs
    ·refine O7 gs h0 g1 fun hlt2=>?_
     rw [Nat.zero_add,Nat.zero_add,Int.toNat_natCast,show ((j:Int) - 1).toNat=j - 1 by omega,decide_eq_true (show (0:Int) < (j:Int) by omega),decide_eq_true hlt2] at hc
     cases hc
   repeat' (first|apply And.intro|exact trivial|exact rfl|exact zf|exact zh|refine zt ?_|fail)
   ·show (-9223372036854775808:Int)<=(i:Int)+1
    omega
   ·show (i:Int)+1<=9223372036854775807
    omega
   refine Exists.intro (i+1,M) (And.intro ⟨show 1<=i+1 by omega,show i+1<=1000001 by omega,gp,hS⟩ (And.intro ?_ (show L0.length - (i+1) < L0.length - i by omega)))
   repeat' (first|apply And.intro|exact trivial|exact rfl|exact zf|exact zh|refine zt ?_|exact cG (fun a=>aW _ _ _ a)|exact bG (fun a=>aW _ _ _ a)|fail)
 ·refine fun (hlt:decide ((i:Int) < (L0.length:Int))=false)=>?_
  replace hlt:L0.length<=i:=by have:=of_decide_eq_false hlt; omega
  repeat' (first|apply And.intro|exact trivial|exact rfl|exact zf|exact zh|refine zt ?_|fail)
  refine Exists.intro L (And.intro ⟨hp,fun a b ha hb=>hs a b ha (by omega)⟩ ?_)
  repeat' (first|apply And.intro|exact trivial|exact rfl|exact zf|exact zh|refine zt ?_|exact cG (fun a=>aW _ _ _ a)|exact bG (fun a=>aW _ _ _ a)|exact hl.symm|exact hl|fail)
def g143:List Nat:=[23,29,35,50,12,68,72,87,13,11,15,9,10,113,16,1,17,18,8,0,3,14,2]
def c143:aF :=
 .seq (.region g143 [(zo 8 (.move cT))]) (.seq (.region g143 [(zo 9 (.move cT))]) (.block 0 (.loop 0 [19,20,21,10,22,23,24,25,26,27,28,29,30,31,32,33,34,35,36,37,38,39,40,41,3,43,44,45,46,42,47,48,49,50,51,52,53,54,55,56,57,58,59,60,11,12,61,62,63,64,65,66,67,68,69,70,71,72,73,74,75,76,77,78,79,80,81,82,83,84,85,86,87,88,89,90,91,92,13,93,95,96,97,98,99,94,100,101,14,15,102,9,103,104,105,106,107,108,16,17,109,110,18,111,112,113,114,115,116,117,118,119,120,121,122,123,1,124,125,126,8,127,128,129,130,131,132,133,2] (.block 1 (.seq (.region g143 [(mv 19 2),(mv 20 1),(zo 21 (.bin (.sub) (.s 19) (.s 20))),(mv 10 21)]) (.seq (.seq (.region g143 [(mv 22 10),(zo 23 (.bin (.leq) (.s 22) (cj 12)))]) (.cond (.s 23) (.seq (.region g143 [(mv 24 0),(mv 25 1),(mv 26 2),(zo 27 (.call (.c (.fn 161)) [.s 24,.s 25,.s 26]))]) .ret) .skip)) (.seq (.seq (.region g143 [(mv 28 3),(zo 29 (.bin (.eql) (.s 28) (cj 0)))]) (.cond (.s 29) (.seq (.region g143 [(mv 30 0),(mv 31 1),(mv 32 2),(zo 33 (.call (.c (.fn 162)) [.s 30,.s 31,.s 32]))]) .ret) .skip)) (.seq (.seq (.region g143 [(mv 34 8),(zo 35 (.not (.s 34)))]) (.cond (.s 35) (.seq (.region g143 [(mv 36 0),(mv 37 1),(mv 38 2),(zo 39 (.call (.c (.fn 163)) [.s 36,.s 37,.s 38]))]) (.region g143 [(mv 40 3),(zo 41 (.bin (.sub) (.s 40) (cj 1))),(mv 3 41)])) .skip)) (.seq (.region g143 [(mv 43 0),(mv 44 1),(mv 45 2),(zo 46 (.call (.c (.fn 164)) [.s 43,.s 44,.s 45])),(mv 42 46),(zo 47 (.extract 0 (.s 42))),(zo 48 (.extract 1 (.s 42))),(mv 11 47),(mv 12 48)]) (.seq (.seq (.region g143 [(mv 49 12),(zo 50 (.bin (.eql) (.s 49) (cj 2)))]) (.cond (.s 50) (.seq (.region g143 [(mv 51 0),(mv 52 1),(mv 53 2),(zo 54 (.call (.c (.fn 165)) [.s 51,.s 52,.s 53]))]) (.seq (.region g143 [(mv 55 2),(zo 56 (.bin (.sub) (.s 55) (cj 1))),(mv 57 11),(mv 58 1),(zo 59 (.bin (.sub) (.s 57) (.s 58))),(zo 60 (.bin (.sub) (.s 56) (.s 59))),(mv 11 60)]) (.region g143 [(zo 12 (.move (cj 1)))]))) .skip)) (.seq (.seq (.region g143 [(mv 61 8),(mv 62 61),(mg 63 62 true 9),(zo 64 (.pick (.s 62) (.s 63) cF)),(mv 65 64),(mg 66 65 true 12),(zg 67 65 true (.bin (.eql) (.s 66) (cj 1))),(zo 68 (.pick (.s 65) (.s 67) cF))]) (.cond (.s 68) (.seq (.region g143 [(mv 69 0),(mv 70 1),(mv 71 2),(zo 72 (.call (.c (.fn 166)) [.s 69,.s 70,.s 71]))]) (.cond (.s 72) .ret .skip)) .skip)) (.seq (.seq (.drawn g143 (.pure 0 (mv 73 1) (.pure 1 (zo 74 (.bin (.gtr) (.s 73) (cj 0))) (.pure 2 (mv 75 74) (.pure 3 (mg 76 75 true 0) (.pure 4 (mg 77 75 true 1) (.pure 5 (zg 78 75 true (.bin (.sub) (.s 77) (cj 1))) (.pure 6 (zg 79 75 true (.idxSl 1 (.s 76) (.s 78))) (.pure 7 (lg 80 75 true 79) (.pure 8 (mg 81 75 true 0) (.pure 9 (mg 82 75 true 11) (.pure 10 (zg 83 75 true (.idxSl 1 (.s 81) (.s 82))) (.pure 11 (lg 84 75 true 83) (.pure 12 (zg 85 75 true (.call (.c (.fn 167)) [.s 80,.s 84])) (.pure 13 (zg 86 75 true (.not (.s 85))) (.pure 14 (zo 87 (.pick (.s 75) (.s 86) cF)) .done)))))))))))))))) (.cond (.s 87) (.seq (.region g143 [(mv 88 0),(mv 89 1),(mv 90 2),(mv 91 11),(zo 92 (.call (.c (.fn 168)) [.s 88,.s 89,.s 90,.s 91])),(mv 13 92)]) (.seq (.region g143 [(mv 93 13),(mv 1 93)]) (.exit 1))) .skip)) (.seq (.region g143 [(mv 95 0),(mv 96 1),(mv 97 2),(mv 98 11),(zo 99 (.call (.c (.fn 169)) [.s 95,.s 96,.s 97,.s 98])),(mv 94 99),(zo 100 (.extract 0 (.s 94))),(zo 101 (.extract 1 (.s 94))),(mv 14 100),(mv 15 101)]) (.seq (.region g143 [(mv 102 15),(mv 9 102)]) (.seq (.region g143 [(mv 103 14),(mv 104 1),(zo 105 (.bin (.sub) (.s 103) (.s 104))),(mv 106 2),(mv 107 14),(zo 108 (.bin (.sub) (.s 106) (.s 107))),(mv 16 105),(mv 17 108)]) (.seq (.region g143 [(mv 109 10),(zo 110 (.bin (.quo) (.s 109) (cj 8))),(mv 18 110)]) (.seq (.region g143 [(mv 111 16),(mv 112 17),(zo 113 (.bin (.lss) (.s 111) (.s 112)))]) (.cond (.s 113) (.seq (.region g143 [(mv 114 16),(mv 115 18),(zo 116 (.bin (.geq) (.s 114) (.s 115))),(mv 8 116)]) (.seq (.region g143 [(mv 117 0),(mv 118 1),(mv 119 14),(mv 120 3),(zo 121 (.call (.c (.fn 143)) [.s 117,.s 118,.s 119,.s 120]))]) (.region g143 [(mv 122 14),(zo 123 (.bin (.add) (.s 122) (cj 1))),(mv 1 123)]))) (.seq (.region g143 [(mv 124 17),(mv 125 18),(zo 126 (.bin (.geq) (.s 124) (.s 125))),(mv 8 126)]) (.seq (.region g143 [(mv 127 0),(mv 128 14),(zo 129 (.bin (.add) (.s 128) (cj 1))),(mv 130 2),(mv 131 3),(zo 132 (.call (.c (.fn 143)) [.s 127,.s 129,.s 130,.s 131]))]) (.region g143 [(mv 133 14),(mv 2 133)])))))))))))))))))))))
theorem e143:aO Tryz.prog 143 g143 [] [] []=some (c143,[],134):=by kernel_rfl
def Vt:aK where
 X:=List Int×Int
 Y:=List Int
 args:=fun x=>.cons (.lsl 0 1 x.1.length) (.cons (.int .i64 0) (.cons (.int .i64 x.1.length) (.cons (.int .i64 x.2) .nil)))
 pre:=fun x=>x.1.length<=12
 h0:=fun x=>[(0,.arr 5 1 x.1.length (lc bE 0 x.1))]
 nx0:=1
 post:=fun x y=>y.Perm x.1/\Srd y y.length
 res:=fun _ _=>.tup .nil
 h1:=fun _ y=>[(0,.arr 5 1 y.length (lc bE 0 y))]
 nx1:=1
theorem Tx:Vt.Ok Tryz.prog 143:=by
 refine Eng.aK.okR e143 .nil (fun _=>[(161,.m iZ)]) (fun _ _=>aD.m Ej aD.nil) ?_
 rintro ⟨L,z⟩ (hn:L.length<=12)
 refine ⟨trivial,?_⟩
 repeat' (first|apply And.intro|exact trivial|exact rfl|exact zf|exact zh|refine zt ?_|fail)
 refine ⟨⟨Unit,fun _=>True,fun _=>[(1,.int .i64 0),(2,.int .i64 (L.length:Int))],fun _=>[],fun _=>0⟩,(),trivial,?_,?_⟩
 ·repeat' (first|apply And.intro|exact trivial|exact rfl|exact cG (fun a=>aW _ _ _ a)|exact bG (fun a=>aW _ _ _ a)|fail)
 refine fun (_:Unit) (_:True)=>?_
 repeat' (first|apply And.intro|exact trivial|exact rfl|exact zf|exact zh|refine zt ?_|fail)
 ·show (-9223372036854775808:Int)<=(L.length:Int) - 0
  omega
 ·show (L.length:Int) - 0<=9223372036854775807
  omega
 ·refine fun _=>?_
  repeat' (first|apply And.intro|exact trivial|exact rfl|exact zf|exact zh|refine zt ?_|fail)
  refine Exists.intro L (Exists.intro [0] ?_)
  repeat' (first|apply And.intro|exact trivial|exact rfl|exact zf|exact zh|refine zt ?_|exact cG (fun a=>aW _ _ _ a)|exact bG (fun a=>aW _ _ _ a)|exact (show L.length<=1000000 by omega)|fail)
  refine fun (y:List Int) (hy:y.Perm L/\Srd y y.length)=>?_
  repeat' (first|apply And.intro|exact trivial|exact rfl|exact zf|exact zh|refine zt ?_|fail)
  refine Exists.intro y (And.intro hy ?_)
  repeat' (first|apply And.intro|exact trivial|exact rfl|exact zf|exact zh|refine zt ?_|exact cG (fun a=>aW _ _ _ a)|exact bG (fun a=>aW _ _ _ a)|fail)
 ·exact fun (h:decide ((L.length:Int) - 0<=12)=false)=>absurd (of_decide_eq_false h) (by omega)
def g123:List Nat:=[0,2]
def c123:aF :=
 .seq (.region g123 [(mv 3 0),(zo 4 (.lenSl (.s 3))),(mv 2 4)]) (.region g123 [(mv 5 0),(mv 6 2),(mv 7 2),(zo 8 (.cnv (.u64) (.s 7))),(zo 9 (.call (.c (.fn 144)) [.s 8])),(zo 10 (.call (.c (.fn 143)) [.s 5,cj 0,.s 6,.s 9]))])
theorem e123:aO Tryz.prog 123 g123 [] [] []=some (c123,[],11):=by kernel_rfl
def Rl:aK where
 X:=List Int
 Y:=List Int
 args:=fun x=>.cons (.lsl 0 1 x.length) .nil
 pre:=fun x=>x.length<=12
 h0:=fun x=>[(0,.arr 5 1 x.length (lc bE 0 x))]
 nx0:=1
 post:=fun x y=>y.Perm x/\Srd y y.length
 res:=fun _ _=>.tup .nil
 h1:=fun _ y=>[(0,.arr 5 1 y.length (lc bE 0 y))]
 nx1:=1
theorem P8:Rl.Ok Tryz.prog 123:=by
 refine Eng.aK.okR e123 .nil (fun _=>[(144,.p Vm),(143,.m Vt)]) (fun _ _=>aD.p Tn (aD.m Tx aD.nil)) ?_
 rintro (L:List Int) (hn:L.length<=12)
 refine ⟨trivial,?_⟩
 repeat' (first|exact hn|apply And.intro|exact trivial|exact rfl|exact zf|exact zh|refine zt ?_|fail)
 ·show (0:Int)<=(L.length:Int)
  omega
 ·show (L.length:Int)<=18446744073709551615
  omega
 refine Exists.intro (L,([0,1,2,2,3,3,3,3,4,4,4,4,4]:List Int).getD L.length 0) (Exists.intro [0] ?_)
 repeat' (first|exact hn|apply And.intro|exact trivial|exact rfl|exact zf|exact zh|refine zt ?_|exact cG (fun a=>aW _ _ _ a)|exact bG (fun a=>aW _ _ _ a)|fail)
 refine fun (y:List Int) (hy:y.Perm L/\Srd y y.length)=>?_
 repeat' (first|apply And.intro|exact trivial|exact rfl|exact zf|exact zh|refine zt ?_|fail)
 refine Exists.intro y (And.intro hy ?_)
 repeat' (first|apply And.intro|exact trivial|exact rfl|exact zf|exact zh|refine zt ?_|exact cG (fun a=>aW _ _ _ a)|exact bG (fun a=>aW _ _ _ a)|fail)
def g99:List Nat:=[0,3,2]
def c99:aF :=
 .seq (.region g99 [(zo 2 (.move (.c (.nilsl))))]) (.seq (.region g99 [(mv 4 0),(zo 5 (.call (.c (.fn 122)) [.s 4])),(mv 3 5)]) (.seq (.region g99 [(mv 6 3),(zo 7 (.call (.c (.fn 123)) [.s 6]))]) (.seq (.region g99 [(mv 8 3),(mv 2 8)]) .ret)))
theorem e99:aO Tryz.prog 99 g99 [] [] []=some (c99,[.slot 2],9):=by kernel_rfl
def Ho:aK where
 X:=KX
 Y:=List Int
 args:=fun x=>.cons (clo x.m) .nil
 pre:=fun x=>KOk x/\x.l.length<=12
 h0:=fun x=>[(0,.fam fun q=>noO 0 (x.N q))]
 nx0:=1
 post:=fun x y=>y.Perm (gW x.l)/\Srd y y.length
 res:=fun _ y=>.lsl 1 1 y.length
 h1:=fun x y=>[(0,.fam fun q=>noO 0 (x.N q)),(1,.arr 5 1 y.length (lc bE 0 y))]
 nx1:=2
theorem Jj:Ho.Ok Tryz.prog 99:=by
 refine Eng.aK.okR e99 .nil (fun _=>[(122,.m Qq),(123,.m Rl)]) (fun _ _=>aD.m Om (aD.m P8 aD.nil)) ?_
 rintro ⟨N,m,l,q⟩ ⟨(h:KOk ⟨N,m,l,q⟩),(hl:l.length<=12)⟩
 refine ⟨trivial,?_⟩
 repeat' (first|apply And.intro|exact trivial|exact rfl|exact zm N rfl|exact zr N rfl rfl|exact zf|exact zh|refine zt ?_|fail)
 refine Exists.intro ⟨N,m,l,q⟩ (Exists.intro [0] ?_)
 repeat' (first|exact h|apply And.intro|exact trivial|exact rfl|exact zm N rfl|exact zr N rfl rfl|exact zf|exact zh|refine zt ?_|fail)
 refine fun (y:List Int) (hy:y.Perm (gW l))=>?_
 have hyl:y.length<=12:=by
  rw [hy.length_eq]
  unfold gW
  rw [List.length_map]
  exact hl
 repeat' (first|apply And.intro|exact trivial|exact rfl|exact zm N rfl|exact zr N rfl rfl|exact zf|exact zh|refine zt ?_|fail)
 refine Exists.intro y (Exists.intro [1] ?_)
 repeat' (first|exact hyl|apply And.intro|exact trivial|exact rfl|exact zm N rfl|exact zr N rfl rfl|exact zf|exact zh|refine zt ?_|exact cG (fun a=>aW _ _ _ a)|exact bG (fun a=>aW _ _ _ a)|fail)
 refine fun (z:List Int) (hz:z.Perm y/\Srd z z.length)=>?_
 have hzy:=hz.1.length_eq
 repeat' (first|apply And.intro|exact trivial|exact rfl|exact zm N rfl|exact zr N rfl rfl|exact zf|exact zh|refine zt ?_|fail)
 refine Exists.intro z (And.intro ⟨hz.1.trans hy,hz.2⟩ ?_)
 repeat' (first|apply And.intro|exact trivial|exact rfl|exact zm N rfl|exact zr N rfl rfl|exact cG (fun a=>aW _ _ _ a)|exact bG (fun a=>aW _ _ _ a)|exact hzy.symm|fail)
end T29
end
section
open Go Go.Eng Go.Proofs A0 T1 T2 T3 T4 T5 T6 T13 T28 T29
set_option maxRecDepth 100000
namespace T30
def bI (b:UInt8):Int:=(b.toNat:Int)
def bsI (l:List UInt8):List Int:=l.map bI
theorem Gi (l:List UInt8):(bsI l).length=l.length:=List.length_map ..
theorem Cv {a:Int} {r:List Int} (h:Srd (a::r) (a::r).length):(∀ x∈r,a<=x)/\Srd r r.length:=by
 refine ⟨fun x hx=>?_,fun i j h1 h2=>?_⟩
 ·obtain ⟨k,hk,rfl⟩:=List.getElem_of_mem hx
  have:=h 0 (k+1) (by omega) (by simp; omega)
  simp only [List.getD_eq_getElem?_getD,List.getElem?_cons_succ,List.getElem?_cons_zero,List.getElem?_eq_getElem hk] at this
  exact this
 ·have:=h (i+1) (j+1) (by omega) (by simp; omega)
  simpa [List.getD_eq_getElem?_getD] using this
theorem Nc:∀ {x y:List Int},Srd x x.length->Srd y y.length->x.Perm y->x=y:=by
 intro x
 induction x with
 | nil=>intro y _ _ h; exact (List.nil_perm.1 h).symm
 | cons a r ih =>
  intro y hx hy hp
  cases y with
  | nil=>exact absurd hp (by simp)
  | cons b s =>
   obtain ⟨h1,h2⟩:=Cv hx
   obtain ⟨k1,k2⟩:=Cv hy
   have e:a=b:=by
    have ha:a∈b::s:=hp.subset List.mem_cons_self
    have hb:b∈a::r:=hp.symm.subset List.mem_cons_self
    rcases List.mem_cons.1 ha with ha|ha
    ·exact ha
    ·rcases List.mem_cons.1 hb with hb|hb
     ·exact hb.symm
     ·have:=h1 b hb
      have:=k1 a ha
      omega
   subst e
   rw [ih h2 k2 (hp.cons_inv)]
theorem Tz {bs:List UInt8} (h:Sb bs):Srd (bsI bs) (bsI bs).length:=by
 intro i j h1 h2
 rw [Gi] at h2
 have hi:i < bs.length:=by omega
 have:=List.pairwise_iff_getElem.1 h i j hi h2 h1
 unfold bsI
 rw [List.getD_eq_getElem?_getD,List.getD_eq_getElem?_getD,List.getElem?_map,List.getElem?_map,List.getElem?_eq_getElem hi,List.getElem?_eq_getElem h2]
 show bI bs[i]<=bI bs[j]
 unfold bI
 have:bs[i].toNat < bs[j].toNat:=this
 omega
theorem Pf {l:IL} {bs:List UInt8} (h:(l.map (·.1)).Perm (bs.map dC)):(gW l).Perm (bsI bs):=by
 have:=h.map Th
 rw [List.map_map,List.map_map] at this
 exact this
theorem Ls {l:IL} {bs:List UInt8} (h:(l.map (·.1)).Perm (bs.map dC)):∀ y∈l,y.1.kind=.i .u8:=by
 intro y hy
 have:=h.subset (List.mem_map_of_mem hy)
 obtain ⟨b,_,e⟩:=List.mem_map.1 this
 rw [<- e]
 rfl
theorem Tm {l:IL} {bs:List UInt8} (h:(l.map (·.1)).Perm (bs.map dC)):l.length=bs.length:=by
 have:=h.length_eq
 simpa using this
structure BX where
 N:Nat->NO
 v:Nat
 a:Nat
 n:Nat
 m:Nat
 sz:Int
 mrk:B
 l:IL
 q:Nat
 bs:List UInt8
structure BOk (x:BX):Prop where
 nd:x.N x.v=.node x.a x.n x.m x.sz x.mrk
 mp:x.N x.m=.map x.l x.q
 tk:Tk x.l x.q
 pm:(x.l.map (·.1)).Perm (x.bs.map dC)
 sb:Sb x.bs
 ln:x.bs.length<=12
def g73:List Nat:=[0,2]
def c73:aF :=
 .seq (.region g73 [(zo 2 (.move (.c (.nilsl))))]) (.seq (.region g73 [(mv 3 0),(zo 4 (.nilCheck (.s 3))),(fa 5 1 4),(ld 6 5),(zo 7 (.call (.c (.fn 100)) [.s 6])),(zo 8 (.call (.c (.fn 99)) [.s 7])),(mv 2 8)]) .ret)
theorem e73:aO Tryz.prog 73 g73 [] [] []=some (c73,[.slot 2],9):=by kernel_rfl
def R5:aK where
 X:=BX
 Y:=Unit
 args:=fun x=>.cons (.fown 0 x.v 0) .nil
 pre:=BOk
 h0:=fun x=>[(0,.fam fun q=>noO 0 (x.N q))]
 nx0:=1
 post:=fun _ _=>True
 res:=fun x _=>.lsl 1 1 x.bs.length
 h1:=fun x _=>[(0,.fam fun q=>noO 0 (x.N q)),(1,.arr 5 1 x.bs.length (lc bE 0 (bsI x.bs)))]
 nx1:=2
theorem Kh:R5.Ok Tryz.prog 73:=by
 refine Eng.aK.okR e73 .nil (fun _=>[(100,.m Mg),(99,.m Ho)]) (fun _ _=>aD.m Mh (aD.m Jj aD.nil)) ?_
 rintro ⟨N,v,a,n,m,sz,mk,l,q,bs⟩ ⟨(hnd:N v=.node a n m sz mk),(hmp:N m=.map l q),(htk:Tk l q),hpm,(hsb:Sb bs),(hln:bs.length<=12)⟩
 replace hpm:(l.map (·.1)).Perm (bs.map dC):=hpm
 have hll:=Tm hpm
 have hk:KOk ⟨N,m,l,q⟩:=⟨hmp,htk,Ls hpm,show l.length<=20000 by omega⟩
 have hl12:l.length<=12:=by omega
 refine ⟨trivial,?_⟩
 repeat' (first|apply And.intro|exact trivial|exact rfl|exact zm N rfl|exact zr N rfl rfl|exact zf|exact zh|refine zt ?_|fail)
 refine Exists.intro (noO 0 (.node a n m sz mk)) (And.intro (congrArg (noO 0) hnd) ?_)
 repeat' (first|apply And.intro|exact trivial|exact rfl|exact zm N rfl|exact zr N rfl rfl|exact zf|exact zh|refine zt ?_|fail)
 refine Exists.intro ⟨N,m,l,q⟩ (Exists.intro [0] ?_)
 repeat' (first|apply And.intro|exact trivial|exact rfl|exact zm N rfl|exact zr N rfl rfl|exact zf|exact zh|refine zt ?_|fail)
 refine fun (_:Unit) (_:True)=>?_
 repeat' (first|apply And.intro|exact trivial|exact rfl|exact zm N rfl|exact zr N rfl rfl|exact zf|exact zh|refine zt ?_|fail)
 refine Exists.intro ⟨N,m,l,q⟩ (Exists.intro [0] ?_)
 repeat' (first|exact hk|exact hl12|apply And.intro|exact trivial|exact rfl|exact zm N rfl|exact zr N rfl rfl|exact zf|exact zh|refine zt ?_|fail)
 refine fun (y:List Int) (hy:y.Perm (gW l)/\Srd y y.length)=>?_
 have he:y=bsI bs:=Nc hy.2 (Tz hsb) (hy.1.trans (Pf hpm))
 have hyl:y.length=bs.length:=by rw [he,Gi]
 repeat' (first|apply And.intro|exact trivial|exact rfl|exact zm N rfl|exact zr N rfl rfl|exact zf|exact zh|refine zt ?_|fail)
 refine Exists.intro () (And.intro trivial ?_)
 repeat' (first|apply And.intro|exact trivial|exact rfl|exact zm N rfl|exact zr N rfl rfl|exact cG (fun a=>aW _ _ _ a)|exact bG (fun a=>aW _ _ _ a)|exact hyl|exact hyl.symm|exact (fun j _=>by rw [he]; exact Or.inl (aW _ _ _ _))|fail)
end T30
end
section
namespace Go.Eng
open Go Go.RowKit
variable {P:Program}
def Keep.bare:Keep:=⟨[],true,false,false⟩
def De (items:List SV) (G:Nat->(Nat->Option Obj)->Prop):Handler:=fun id _ _ _ args hp nx K =>
 id=2/\∃ i st item,G i st/\get? hp 1=some (.fam (nN st))/\items[i]?=some item/\sub .bare hp 200 args item /\
  ∀ st',G (i+1) st'->jV hp 1 (.fam (nN st')) fun hp=>K true hp nx
def GS (T:Nat->Prop) (w:World) (l:Nat) (r0:Loop) (st0:Nat->Option Obj) (J:Nat->(Nat->Prop)->World->Prop) (i:Nat) (st:Nat->Option Obj):Prop :=
 (∀ b,dom st0 b->dom st b)/\(∀ b,dom st b->dom st0 b\/w.heap.size<=b) /\
  ∀ W,(∀ q o,st q=some o->W.heap[q]?=some o)->Frm (fun b=>T b\/dom st b) w W->W.heap[l]?=some (.loop r0)->J i (dom st) W
theorem J6 {C:Ctx} {T:Nat->Prop} {w:World} {μ:Nat->Option (Nat×Nat)} {l:Nat} {r0:Loop} {items:List SV} {st0:Nat->Option Obj} {J:Nat->(Nat->Prop)->World->Prop}
  (hY:tM P T w μ l r0 items st0 J) (hg:pA C) (hd:0 < C.dep) (hH:∀ o,C.H 0 0 o->o=.loop r0) (hp2:C.pin 2=some (l,0)) (hw:C.w0=w) (hT:C.T=T) (hpF:∀ q p,μ (fid 0 q)=some p->C.pin (fid 0 q)=some p) :
  fL P C 0 (De items (GS T w l r0 st0 J)):=by
 intro C2 hx μ2 hp nx W id b c args vs K hh _hle _hkd hgt hm hr _hil he
 obtain ⟨rfl,i,st,item,⟨g1,g2,g3⟩,h1,hit,hsub,hK⟩:=he
 have hm2:μ2 2=some (l,0):=hh.pin 2 _ (hx.pin 2 _ hp2)
 rw [hm2] at hm
 cases hm
 obtain ⟨o,ho,hHo⟩:=hh.recAt hgt hm2
 obtain rfl:=hH o ((hx.H 0 0 o hd).1 hHo)
 -- what is in other code's memory
 have old:∀ q o,st q=some o->∃ c,μ2 (fid 1 q)=some (q,c)/\W.heap[q]?=some o/\En o=false:=by
  intro q o hq
  have hgm:hget hp (fid 1 q)=some (.obj o):=by rw [lE h1 (aV 1 q) (cU q fb1),bZ q fb1,hq]; rfl
  obtain ⟨b,c,x,e1,e2,e3,e4⟩:=hh.obj.obj _ _ hgm
  have e1':μ2 (fid 1 q)=some (b,c):=e1
  have:=hh.pos _ _ _ e1' (aV 1 q) hgm
  rw [bZ q fb1] at this
  simp only at this
  subst this
  subst e3
  exact ⟨c,e1',e2,dL.2 e4⟩
 have tracked:∀ q,dom st q->∃ o c,hget hp (fid 1 q)=some (.obj o)/\μ2 (fid 1 q)=some (q,c):=by
  rintro q ⟨o,hq⟩
  obtain ⟨c,e,_,_⟩:=old q o hq
  exact ⟨o,c,by rw [lE h1 (aV 1 q) (cU q fb1),bZ q fb1,hq]; rfl,e⟩
 have lA:∀ q,dom st q->q < W.heap.size/\Plain W q:=by
  rintro q ⟨o,hq⟩
  obtain ⟨c,_,e2,e3⟩:=old q o hq
  exact ⟨(Array.getElem?_eq_some_iff.1 e2).1,fun y hy=>by rw [e2] at hy; cases hy; exact e3⟩
 have hfrm:Frm T w W:=by
  have:=hx.w0.trans' hh.frm hx.T
  rw [hw,hT] at this
  exact this
 have hfrm':Frm (fun b=>T b\/dom st b) w W:=hfrm.weak fun _ h=>.inl h
 have hJ:=g3 W (fun q o hq=>(old q o hq).choose_spec.2.1) hfrm' ho
 have hgv:GV W:=hg.at (by rw [hw,hT]; exact hfrm)
 have hFr:(aA C2 μ2 hp W).Freed .bare hp (eN (fun _=>False) W) :=
  ⟨fun h=>by simp [loose,Keep.bare] at h,fun _ _ _ h=>by simp [ren,Keep.bare,get?] at h,fun _ _ _ _ h=>by simp [ren,Keep.bare,get?] at h,rfl,fun id o b c _ hg hm h=>by simp [kept,Keep.bare] at h⟩
 have hitem:R (eN (fun _=>False) W) item vs:=fQ hFr hh.obj 200 _ _ _ hsub hr
 have hfam0:∀ q p,μ (fid 0 q)=some p->p.1 < W.heap.size/\Plain W p.1:=by
  intro q p e
  have e2:=hh.pin _ _ (hx.pin _ _ (hpF q p e))
  obtain ⟨o,ho⟩:=hh.fam _ _ e2 (aV 0 q)
  obtain ⟨pb,pc⟩:=p
  refine ⟨hh.lt ho e2,hh.obj.plain ho e2 ?_⟩
  rintro l p rfl
  have:=(lD ho).1
  have:=aV 0 q
  omega
 obtain ⟨f,tmps,assign,body,hy,hR⟩:=hY.round i (dom st) W item vs hit hJ g1 lA g2 hfrm' ho hgv hitem hfam0
 refine ⟨f,tmps,assign,body,hy,hR.mono ?_⟩
 rintro e W' ⟨rfl,D',hJ',d1,d2,d3,hfr,hl'⟩
 obtain ⟨st',hst'⟩:∃ st':Nat->Option Obj,∀ q,(D' q->st' q=W'.heap[q]?)/\(¬ D' q->st' q=none):=by
  classical
  refine ⟨fun q=>if D' q then W'.heap[q]? else none,fun q=>⟨fun h=>by simp [h],fun h=>by simp [h]⟩⟩
 have hdom:dom st'=D':=by
  funext q
  refine propext ⟨?_,fun h=>?_⟩
  ·rintro ⟨o,hq⟩
   refine Classical.byContradiction fun hn=>?_
   rw [(hst' q).2 hn] at hq
   cases hq
  ·exact ⟨W'.heap[q]'(d3 q h).1,by rw [(hst' q).1 h]; exact Array.getElem?_eq_getElem _⟩
 have st'D:∀ q o,st' q=some o->D' q/\W'.heap[q]?=some o:=by
  intro q o hq
  have hd:D' q:=by rw [<- hdom]; exact ⟨o,hq⟩
  exact ⟨hd,by rw [<- (hst' q).1 hd]; exact hq⟩
 have hG:GS T w l r0 st0 J (i+1) st':=by
  refine ⟨fun b hb=>by rw [hdom]; exact d1 b (g1 b hb),fun b hb=>?_,fun W2 hc hf2 hl2=>?_⟩
  ·rw [hdom] at hb
   rcases d2 b hb with h|h
   ·exact g2 b h
   ·exact .inr (Nat.le_trans hfrm.size h)
  ·rw [hdom] at hf2 ⊢
   refine hY.stb (i+1) D' W' W2 hJ' (fun b hb=>d1 b (g1 b hb)) hf2 (fun b hb=>?_) hl2
   have hb':dom st' b:=by rw [hdom]; exact hb
   obtain ⟨o,ho⟩:=hb'
   rw [hc b o ho,(st'D b o ho).2]
 have hk:=hK st' hG
 rw [mB] at hk
 -- the numbers
 obtain ⟨μ',hμ'⟩:∃ μ':Nat->Option (Nat×Nat),∀ n,(∀ p,μ2 n=some p->μ' n=some p)/\(μ2 n=none->FB<=n->n % FB=1->dom st' (n / FB - 1)->μ' n=some (n / FB - 1,0)) /\
   (∀ p,μ' n=some p->μ2 n=some p\/(μ2 n=none/\FB<=n/\n % FB=1/\dom st' (n / FB - 1)/\p=(n / FB - 1,0))):=by
  classical
  refine ⟨fun n=>match μ2 n with|some p=>some p|none=>if FB<=n/\n % FB=1/\dom st' (n / FB - 1) then some (n / FB - 1,0) else none,fun n=>⟨fun p e=>?_,fun e h1 h2 h3=>?_,fun p e=>?_⟩⟩
  ·simp [e]
  ·simp [e,h1,h2,h3]
  ·cases hm:μ2 n with
   | some q=>simp only [hm] at e; exact .inl e
   | none =>
    simp only [hm] at e
    split at e
    ·rename_i hc
     exact .inr ⟨rfl,hc.1,hc.2.1,hc.2.2,(Option.some.inj e).symm⟩
    ·cases e
 have raw_old:∀ n p,μ2 n=some p->FB<=n->n % FB=1->∃ o,st (n / FB - 1)=some o/\p.1=n / FB - 1:=by
  intro n p e hn h2
  obtain ⟨o,ho⟩:=hh.fam _ _ e hn
  have ho':=ho
  rw [lE h1 hn h2] at ho
  cases hs:st (n / FB - 1) with
  | none=>rw [hs] at ho; cases ho
  | some o2 =>
   rw [hs] at ho
   cases ho
   exact ⟨o2,rfl,hh.pos _ _ _ e hn ho'⟩
 have cls:∀ n o b c,hget (cR hp 1 (.fam (nN st'))) n=some o->μ' n=some (b,c) ->
   ((FB<=n/\n % FB=1/\b=n / FB - 1/\∃ o',o=.obj o'/\st' b=some o')/\((∃ o',hget hp n=some o'/\μ2 n=some (b,c))\/(n=fid 1 b/\W.heap.size<=b))) \/
   (¬ (FB<=n/\n % FB=1)/\hget hp n=some o/\μ2 n=some (b,c)):=by
  intro n o b c hg hm
  rw [uN h1] at hg
  by_cases hc:FB<=n/\n % FB=1
  ·rw [if_pos hc] at hg
   simp only [Option.map_eq_some_iff] at hg
   obtain ⟨o',ho',rfl⟩:=hg
   rcases (hμ' n).2.2 _ hm with e|⟨e0,e1,e2,e3,e4⟩
   ·obtain ⟨o2,q1,q2⟩:=raw_old n _ e hc.1 hc.2
    simp only at q2
    refine .inl ⟨⟨hc.1,hc.2,q2,o',rfl,by rw [q2]; exact ho'⟩,.inl ⟨.obj o2,?_,e⟩⟩
    rw [lE h1 hc.1 hc.2,q1]; rfl
   ·cases e4
    refine .inl ⟨⟨hc.1,hc.2,rfl,o',rfl,ho'⟩,?_⟩
    have hD:D' (n / FB - 1):=by rw [<- hdom]; exact e3
    rcases d2 _ hD with h|h
    ·exfalso
     obtain ⟨o,c,_,e5⟩:=tracked _ h
     have:=gM hc.1
     rw [hc.2] at this
     rw [this,e0] at e5
     cases e5
    ·refine .inr ⟨?_,h⟩
     have:=gM hc.1
     rw [hc.2] at this
     exact this.symm
  ·rw [if_neg hc] at hg
   rcases (hμ' n).2.2 _ hm with e|⟨_,e1,e2,_,_⟩
   ·exact .inr ⟨hc,hg,e⟩
   ·exact absurd ⟨e1,e2⟩ hc
 have notD:∀ n o b c,¬ (FB<=n/\n % FB=1)->hget hp n=some o->μ2 n=some (b,c)->¬ dom st b:=by
  intro n o b c hc hg hm hd
  obtain ⟨o',c',q1,q2⟩:=tracked b hd
  have:=hh.inj _ _ _ _ _ _ _ hg q1 hm q2
  subst this
  exact hc ⟨aV 1 b,cU b fb1⟩
 have hkd:Kd W W':=by
  refine Kd.lG hfr.size fun b hb=>?_
  by_cases hd:dom st b
  ·exact .inr ⟨(lA b hd).2,(d3 b (d1 b hd)).2⟩
  ·exact .inl (hfr.block b hb hd)
 have hE:(aA C2 μ2 hp W).Le (aA C2 μ' (cR hp 1 (.fam (nN st'))) W'):=by
  have same:∀ b,(aA C2 μ2 hp W).U b->W'.heap[b]?=W.heap[b]?:=by
   intro b hb
   refine hfr.block b hb.1 fun hd=>?_
   obtain ⟨o,c,q1,q2⟩:=tracked b hd
   exact hb.2.2.1 _ _ _ q1 q2
  refine ⟨⟨⟨fun b hb=>?_,same⟩,fun n p e=>(hμ' n).1 p e⟩,hkd,fun _ _ _ e=>e⟩
  refine ⟨Nat.lt_of_lt_of_le hb.1 hfr.size,hb.2.1,fun n o c hg hm=>?_,fun y hy=>hb.2.2.2 y ((same b hb).symm.trans hy)⟩
  rcases cls n o b c hg hm with ⟨_,⟨o',q1,q2⟩|⟨_,q⟩⟩|⟨_,q1,q2⟩
  ·exact hb.2.2.1 _ _ _ q1 q2
  ·have:=hb.1; omega
  ·exact hb.2.2.1 _ _ _ q1 q2
 refine ⟨true,_,nx,μ',rfl,hk,hE,?_⟩
 refine ⟨⟨fun n o e=>?_,fun n o hg=>?_⟩,?_,?_,fun n o e=>?_,fun n p e hlt=>?_,fun n p e hge=>?_,fun n p e=>(hμ' n).1 p (hh.pin n p e),?_,?_⟩
 ·rw [get?_putH,get?_cons] at e
  split at e
  ·rename_i h; rw [<- h]; exact fb1
  ·exact hh.obj.keys _ _ e
 ·have hg':=hg
  rw [uN h1] at hg
  by_cases hc:FB<=n/\n % FB=1
  ·rw [if_pos hc] at hg
   simp only [Option.map_eq_some_iff] at hg
   obtain ⟨o',ho',rfl⟩:=hg
   obtain ⟨k1,k2⟩:=st'D _ _ ho'
   have k3:En o'=false:=(d3 _ k1).2 _ k2
   cases hm:μ2 n with
   | none=>exact ⟨_,_,o',(hμ' n).2.1 hm hc.1 hc.2 ⟨o',ho'⟩,k2,rfl,dL.1 k3⟩
   | some p =>
    obtain ⟨pb,pc⟩:=p
    obtain ⟨o2,q1,q2⟩:=raw_old n _ hm hc.1 hc.2
    simp only at q2
    exact ⟨pb,pc,o',(hμ' n).1 _ hm,by rw [q2]; exact k2,rfl,dL.1 k3⟩
  ·rw [if_neg hc] at hg
   obtain ⟨b,c,x,e1,e2,e3⟩:=hh.obj.obj n o hg
   have e1':μ2 n=some (b,c):=e1
   exact ⟨b,c,x,(hμ' n).1 _ e1',(hfr.block b (hh.lt hg e1') (notD n o b c hc hg e1')).trans e2,e3.mono hE⟩
 ·intro n n' o o' b c c' hg hg' hm hm'
  rcases cls n o b c hg hm with ⟨⟨a1,a2,a3,_⟩,h⟩|⟨a1,a2,a3⟩ <;> rcases cls n' o' b c' hg' hm' with ⟨⟨b1,b2,b3,_⟩,h'⟩|⟨b1,b2,b3⟩
  ·have e1:=gM a1
   have e2:=gM b1
   rw [a2,<- a3] at e1
   rw [b2,<- b3] at e2
   exact e1.symm.trans e2
  ·rcases h with ⟨o2,q1,q2⟩|⟨_,q⟩
   ·exact hh.inj _ _ _ _ _ _ _ q1 b2 q2 b3
   ·have:=hh.lt b2 b3; omega
  ·rcases h' with ⟨o2,q1,q2⟩|⟨_,q⟩
   ·exact hh.inj _ _ _ _ _ _ _ a2 q1 a3 q2
   ·have:=hh.lt a2 a3; omega
  ·exact hh.inj _ _ _ _ _ _ _ a2 b2 a3 b3
 ·intro n o b c hg hm
  rcases cls n o b c hg hm with ⟨_,⟨o2,q1,q2⟩|⟨_,q⟩⟩|⟨_,a2,a3⟩
  ·exact hh.mine _ _ _ _ q1 q2
  ·exact .inr (Nat.le_trans hh.frm.size q)
  ·exact hh.mine _ _ _ _ a2 a3
 ·rw [get?_putH,get?_cons] at e
  split at e
  ·rename_i h; rw [<- h]; exact hh.keys _ _ h1
  ·exact hh.keys _ _ e
 ·rcases (hμ' n).2.2 _ e with e|⟨_,e1,_,_,_⟩
  ·exact hh.nx _ _ e hlt
  ·omega
 ·rw [uN h1]
  by_cases hc:FB<=n/\n % FB=1
  ·rw [if_pos hc]
   have hD:D' (n / FB - 1):=by
    rcases (hμ' n).2.2 _ e with e|⟨_,_,_,e3,_⟩
    ·obtain ⟨o2,q1,_⟩:=raw_old n _ e hc.1 hc.2
     exact d1 _ ⟨o2,q1⟩
    ·rw [<- hdom]; exact e3
   rw [<- hdom] at hD
   obtain ⟨o,ho⟩:=hD
   exact ⟨.obj o,by rw [ho]; rfl⟩
  ·rw [if_neg hc]
   rcases (hμ' n).2.2 _ e with e|⟨_,e1,e2,_,_⟩
   ·exact hh.fam _ _ e hge
   ·exact absurd ⟨e1,e2⟩ hc
 ·refine hh.frm.trans' hfr fun b hb=>?_
  obtain ⟨o,c,q1,q2⟩:=tracked b hb
  exact hh.mine _ _ _ _ q1 q2
 ·intro n p q e hge hg
  obtain ⟨pb,pc⟩:=p
  rcases cls n _ pb pc hg e with ⟨⟨_,_,a3,_⟩,_⟩|⟨_,a2,a3⟩
  ·exact a3
  ·exact hh.pos _ _ _ a3 hge a2
noncomputable def We (tab:List (Nat×cZ)) (sc:aF) (res:List gS) (items:List SV) (args:SV) (F:Nat->aC) (Q:(Nat->(Nat->Option Obj)->Prop)->St->Prop):Prop :=
 ∀ (G:Nat->(Nat->Option Obj)->Prop) (st0:Nat->Option Obj),G 0 st0 ->
  Sr sc ⟨tab,[(0,De items G)],upto 3,0,1⟩ ⟨iO (.cons (.yield 2) args) 0,yHp F st0,3⟩ fun e st =>
   match e with
   | .exit _=>False
   | _=>yW st res fun _=>Q G st
def V5 (S:mV) (x:S.X) (G:Nat->(Nat->Option Obj)->Prop) (st:St):Prop :=
 ∃ y st',S.post x y/\G (S.items x).length st'/\fS (upto 3) 0 ⟨[],st.hp,st.nx⟩ ⟨[],yHp (S.F1 x y) st',3⟩
theorem mV.okR {f:Nat} {S:mV} {G joins hint:List Nat} {rg:List (Nat×Nat×aF×Nat)} {sc:aF} {res:List gS} {n:Nat} (hc:aO P f G joins hint rg=some (sc,res,n)) (hrg:kU P rg)
  (tab:S.X->List (Nat×cZ)) (htab:∀ x,S.pre x->aD P (tab x))
  (h:∀ x,S.pre x->iJ (.cons (.yield 2) (S.args x)) n/\We (tab x) sc res (S.items x) (S.args x) (S.F0 x) (V5 S x)):S.Ok P f:=by
 refine ⟨nV hc,?_⟩
 intro x w μ vs T U r0 l st0 J _hU hgc hh0 hm2 hpre hR hY
 have hraw:=hh0.raw (st:=st0) rfl
 have hG0:GS T w l r0 st0 J 0 st0:=by
  refine ⟨fun _ h=>h,fun _ h=>.inl h,fun W hcn hf hl=>hY.stb 0 (dom st0) w W hY.start (fun _ h=>h) hf (fun b hb=>?_) hl⟩
  obtain ⟨o,ho⟩:=hb
  rw [hcn b o ho,hraw b o ho]
 obtain ⟨hok,hev⟩:=h x hpre
 have hev:=hev _ st0 hG0
 rw [Gt] at hev
 let C:Ctx:={ vU w T U μ r0 with n:=n }
 have hC:aE C μ (yHp (S.F0 x) st0) 3 w:=(hh0.to (C':=C) rfl rfl rfl (fun _ _ _ e=>e) hh0.pin).1
 have hpin:mE C:=by
  intro id p e
  have e':μ id=some p:=e
  by_cases hlt:id < FB
  ·left; simp only [fbase,hlt,if_true]; exact qR.2 (hC.nx id p e' hlt)
  ·left
   simp only [fbase,hlt,if_false]
   obtain ⟨o,ho⟩:=hC.fam id p e' (Nat.not_lt.1 hlt)
   simp only [hget,hlt,if_false] at ho
   split at ho
   ·rename_i f' hf'; exact qR.2 (hC.keys _ _ hf')
   ·cases ho
 have hg:pA C:=⟨hgc.gok,hgc.gT⟩
 have htb:rE P C ⟨tab x,[(0,De (S.items x) (GS T w l r0 st0 J))],upto 3,0,1⟩:=by
  refine ⟨htab x hpre,fun lab hd e=>?_,rfl,rfl,rfl,hg⟩
  rw [get?_cons] at e
  split at e
  ·rename_i e0
   cases e
   subst e0
   exact J6 hY hg Nat.zero_lt_one (fun o ho=>ho.2.2) hm2 rfl rfl (fun q p e=>e)
  ·cases e
 have hR':R (aA C μ (yHp (S.F0 x) st0) w) (.cons (.yield 2) (S.args x)) (.func (.yield l) #[] #[]::vs):=by
  simp only [R]
  exact ⟨_,_,rfl,⟨l,0,hm2,rfl⟩,hR⟩
 refine wS hc hrg (C:=C) rfl hpin rfl rfl htb hC hR' hok (K:=fun _ st=>V5 S x (GS T w l r0 st0 J) st) hev ?_
 intro sv st μ1 w' v hk hh1 _ hkd
 obtain ⟨y,st',hpost,hG,hsub⟩:=hk
 let C2:Ctx:={ C with R0:=eN (fun _=>False) w' }
 have hrep:aY C2 μ1 ⟨[],st.hp,st.nx⟩ ⟨Array.replicate n undef,[]⟩ w':=by
  refine ⟨by simp; rfl,mQ.nil _ _,fun s=>gU _ _ _,(hh1.to (C':=C2) rfl rfl rfl (fun _ _ _ e=>e) hh1.pin).1,⟨fun _ h=>h.elim,fun _ h=>h.elim⟩,Kd.refl _⟩
 obtain ⟨⟨μ',hrep'⟩,_⟩:=iH (C:=C2) hpin hrep (fun s d w x e=>by cases e) hsub
 have hfin:=(hrep'.hep.to (C':=vU w T U μ r0) rfl rfl rfl (fun _ _ _ e=>e) hrep'.hep.pin).1
 refine ⟨y,st',μ',hpost,?_,hG.1,hfin,hkd⟩
 refine hG.2.2 w' (hfin.raw rfl) (hfin.frm.weak fun _ h=>.inl h) ?_
 obtain ⟨o,ho,hHo⟩:=hfin.recAt (id:=2) (l:=0) (p:=0) rfl (hfin.pin 2 _ hm2)
 rw [ho,hHo.2.2]
end Go.Eng
end
section
open Go Go.Eng Go.Proofs A0 T1 T2 T3 T4 T5 T6 T13 T14 T28 T29 T30
set_option maxRecDepth 100000
namespace T31
mutual
def bS:B->TT->List (B×B)
 | t,.node ids k=>ids.map (fun i=>(t,i))++nF t k
def nF:B->TK->List (B×B)
 | _,.nil=>[]
 | t,.cons b s r=>bS (t++[b]) s++nF t r
end
def bB:TK->List (UInt8×TT)
 | .nil=>[]
 | .cons b s r=>(b,s)::bB r
mutual
def htT:TT->Nat
 | .node _ k=>htK k+1
def htK:TK->Nat
 | .nil=>0
 | .cons _ t r=>max (htT t) (htK r)
end
mutual
def Bx:TT->Prop
 | .node _ k=>E3 k
def E3:TK->Prop
 | .nil=>True
 | .cons b t r=>b.toNat < 128/\Bx t/\E3 r
end
theorem uU (t:B):∀ k:TK,nF t k=(bB k).flatMap fun p=>bS (t++[p.1]) p.2
 | .nil=>rfl
 | .cons b s r=>by simp only [nF,bB,List.flatMap_cons,uU t r]
theorem iU:∀ k:TK,aP k=(bB k).map (·.1)
 | .nil=>rfl
 | .cons b s r=>by simp only [aP,bB,List.map_cons,iU r]
theorem qJ:∀ {k:TK} {b:UInt8} {s:TT},Sb (aP k)->(b,s)∈bB k->cC k b=some s
 | .nil,_,_,_,h=>by cases h
 | .cons x u r,b,s,hs,h=>by
  simp only [cC]
  simp only [aP] at hs
  have hs':=List.pairwise_cons.1 hs
  rcases List.mem_cons.1 h with e|e
  ·cases e; rw [if_pos rfl]
  ·have hb:b∈aP r:=by rw [iU]; exact List.mem_map.2 ⟨_,e,rfl⟩
   have:=hs'.1 b hb
   rw [if_neg (by rintro rfl; exact UInt8.lt_irrefl _ this)]
   exact qJ hs'.2 e
theorem oA:∀ {k:TK} {b:UInt8} {s:TT},(b,s)∈bB k->wfK k->E3 k->wfT s/\b.toNat < 128/\Bx s/\htT s<=htK k/\szT s<=szK k
 | .nil,_,_,h,_,_=>by cases h
 | .cons x u r,b,s,h,w,l=>by
  simp only [wfK] at w
  simp only [E3] at l
  simp only [htK,szK]
  rcases List.mem_cons.1 h with e|e
  ·cases e; exact ⟨w.1,l.1,l.2.1,Nat.le_max_left _ _,Nat.le_add_right _ _⟩
  ·obtain ⟨h1,h2,h3,h4,h5⟩:=oA e w.2.2 l.2.2
   exact ⟨h1,h2,h3,Nat.le_trans h4 (Nat.le_max_right _ _),Nat.le_trans h5 (Nat.le_add_left _ _)⟩
theorem nG:∀ {k:TK},wfK k->(bB k).length<=szK k
 | .nil,_=>Nat.le_refl _
 | .cons x u r,w=>by
  simp only [wfK] at w
  have:=nG w.2.2
  simp only [bB,List.length_cons,szK]
  omega
theorem Sq {E E':Env} (hμ:∀ q p,E.μ (fid 0 q)=some p->E'.μ (fid 0 q)=some p):∀ {l:List (aH×Nat×Nat)} {es:List MapEntry},dN E (fun v=>.fown 0 v 0) l es->dN E' (fun v=>.fown 0 v 0) l es:=by
 intro l
 induction l with
 | nil=>intro es h; exact h
 | cons x r ih =>
  intro es h
  obtain ⟨e,t,h1,h2,h3,h4,h5⟩:=h
  obtain ⟨b,c,k1,k2⟩:=h3
  exact ⟨e,t,h1,h2,⟨b,c,hμ _ _ k1,k2⟩,h4,ih h5⟩
theorem yZ (N:Nat->NO):lN (fun q=>noO 0 (N q)):=by
 intro E E' _ hμ q o ho c x h
 have eo:=solid?_self (bM?_solid ho)
 have ho':bM? (noO 0 (N q))=some o:=ho
 replace eo:o=noO 0 (N q):=eo
 cases e:N q with
 | none=>rw [e] at ho'; cases ho'
 | node a n m sz mk =>
  rw [e] at eo
  subst eo
  obtain ⟨cs,rfl,hr⟩:=h
  refine ⟨cs,rfl,?_⟩
  obtain ⟨x1,r1,rfl,h1,x2,r2,rfl,h2,h3⟩:=hr
  refine ⟨x1,_,rfl,?_,x2,_,rfl,?_,h3⟩
  ·rcases h1 with h1|⟨b,c',k1,k2⟩
   ·exact .inl h1
   ·exact .inr ⟨b,c',hμ _ _ k1,k2⟩
  ·obtain ⟨b,c',k1,k2⟩:=h2
   exact ⟨b,c',hμ _ _ k1,k2⟩
 | map l q' =>
  rw [e] at eo
  subst eo
  obtain ⟨h0,es,h1,h2⟩:=h
  exact ⟨h0,es,h1,Sq hμ h2⟩
 | arr l =>
  rw [e] at eo
  subst eo
  obtain ⟨cs,h1,h2,h3,h4⟩:=h
  refine ⟨cs,h1,h2,h3,fun i hi=>?_⟩
  obtain ⟨xs,a,b,d⟩:=h4 i hi
  exact ⟨xs,a,b,d⟩
def mJ (p:B×B):SV:=.cons (.agg (.cons (.str p.1) (.cons (.str p.2) .nil))) .nil
structure AX where
 N:Nat->NO
 T:TT
 v:Nat
 t:B
structure AOk (n:Nat) (x:AX):Prop where
 rep:∃ D F,dG D x.N x.T x.v F
 wf:wfT x.T
 sz:szT x.T<=12
 tk:∀ i l q,x.N i=.map l q->Tk l q
 low:Bx x.T
 ht:htT x.T<=n
 ln:x.t.length+htT x.T<=1000000
def caps (v:Nat) (t:B):SV:=.cons (.cptr (.cons (.fown 0 v 0) .nil)) (.cons (.cptr (.cons (.str t) .nil)) .nil)
def Hy (n:Nat):mV where
 X:=AX
 Y:=Unit
 args:=fun x=>caps x.v x.t
 pre:=AOk n
 F0:=fun x q=>noO 0 (x.N q)
 items:=fun x=>(bS x.t x.T).map mJ
 post:=fun _ _=>True
 F1:=fun x _ q=>noO 0 (x.N q)
theorem Ei:∀ T:TT,0 < htT T
 | .node _ k=>by simp only [htT]; omega
end T31
end
