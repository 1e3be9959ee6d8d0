/- A part of the proof. -/
import Derived.Test.YtijddkljgihcnaaGreatDoorG1
open Go Go.Eng Go.Proofs G1
set_option maxRecDepth 100000
namespace G2
theorem uZ {b:Bool} (h:(!b)=true):b=false:=by cases b <;> first|rfl|cases h
theorem qT {b:Bool} (h:(!b)=false):b=true:=by cases b <;> first|rfl|cases h
def eqP (p q:Pt):Bool:=decide (p.1=q.1) && (decide (p.2=q.2) && true)
def onS (p a b:Pt):Bool:=eqP p a || eqP p b || (decide (sgn (ar a b p)=0) && decide (dot (vec p a) (vec p b) < 0))
def fL (p a b:Pt):Bool:=onB p && onB a && onB b && onS p a b
def Between:Eng.Spec where
 X:=Pt×Pt×Pt
 args:=fun x=>.cons (ptE x.1) (.cons (ptE x.2.1) (.cons (ptE x.2.2) .nil))
 pre:=fun _=>True
 res:=fun x=>.bool (fL x.1 x.2.1 x.2.2)
 inst:=three
def g257:List Nat:=[0,1,2,13,21,7,4,3,5,6]
def c257:aH :=
 .seq (.region g257 [(zo 3 (.box 53 (.s 0))),(zo 4 (.box 53 (.s 1))),(zo 5 (.box 53 (.s 2))),(zo 6 (.move cF))]) (.seq (.seq (.region g257 [(zo 8 (.load 2 true (.s 3))),(zo 9 (.load 2 true (.s 4))),(zo 10 (.load 2 true (.s 5))),(zo 11 (.buildSl 53 2 3 zPt [(0,2,.s 8),(2,2,.s 9),(4,2,.s 10)])),(zo 12 (.call (.c (.fn 254)) [.s 11])),(zo 13 (.not (.s 12)))]) (.cond (.s 13) (.seq (.region g257 [(zo 6 (.move cF))]) .ret) .skip)) (.seq (.seq (.region g257 [(zo 14 (.load 2 true (.s 3))),(zo 15 (.load 2 true (.s 4))),(zo 16 (.eqS false [(0,1),(1,1)] (.s 14) (.s 15))),(mv 17 16),(zg 18 17 false (.load 2 true (.s 3))),(zg 19 17 false (.load 2 true (.s 5))),(zg 20 17 false (.eqS false [(0,1),(1,1)] (.s 18) (.s 19))),(zo 21 (.pick (.s 17) cT (.s 20)))]) (.cond (.s 21) (.seq (.region g257 [(zo 6 (.move cT))]) .ret) .skip)) (.seq (.region g257 [(zo 22 (.load 2 true (.s 4))),(zo 23 (.load 2 true (.s 5))),(zo 24 (.call (.c (.fn 255)) [.s 22,.s 23])),(zo 7 (.alloc 267 (.cons (.int .i64 0) (.cons (.int .i64 0) (.cons (.int .i64 0) (.cons (.int .i64 0) (.cons (.int .i64 0) (.cons (.int .i64 0) .nil)))))))),⟨none,none,.store 6 (.s 7) (.s 24),[]⟩]) (.seq (.drawn g257 (.pure 0 (zo 25 (.load 6 true (.s 7))) (.pure 1 (zo 26 (.load 2 true (.s 3))) (.pure 2 (zo 27 (.call (.c (.fn 256)) [.s 25,.s 26])) (.pure 3 (zo 28 (.bin (.eql) (.s 27) (cj 0))) (.pure 4 (mv 29 28) (.pure 5 (zg 30 29 true (.load 2 true (.s 3))) (.pure 6 (zg 31 29 true (.load 2 true (.s 4))) (.pure 7 (zg 32 29 true (.call (.c (.fn 264)) [.s 30,.s 31])) (.pure 8 (zg 33 29 true (.load 2 true (.s 3))) (.pure 9 (zg 34 29 true (.load 2 true (.s 5))) (.pure 10 (zg 35 29 true (.call (.c (.fn 264)) [.s 33,.s 34])) (.pure 11 (zg 36 29 true (.call (.c (.fn 266)) [.s 32,.s 35])) (.pure 12 (zg 37 29 true (.bin (.lss) (.s 36) (cj 0))) (.pure 13 (zo 38 (.pick (.s 29) (.s 37) cF)) (.pure 14 (mv 6 38) .done)))))))))))))))) .ret))))
theorem e257:aI Tryz.prog 257 g257 [] [] []=some (c257,[.slot 6],39):=by kernel_rfl
theorem Ax:Between.Ok Tryz.prog 257:=by
 refine Eng.Spec.cY e257 .nil (fun _=>[(254,.p on_),(255,.p open_),(256,.p side),(264,.p from_),(266,.p along)]) (fun _ _=>aA.p Jk (aA.p wT (aA.p xI (aA.p wB (aA.p G9 aA.nil))))) ?_
 rintro ⟨p,a,b⟩ _
 refine ⟨trivial,?_⟩
 repeat' (first|apply And.intro|exact trivial|exact rfl)
 ·show (3:Int)<=_
  omega
 ·refine fun (h:(!gG ⟨3,sl1 (.cons (ptL p) (.cons (ptL a) (.cons (ptL b) .nil)))⟩)=true)=>?_
  rw [wS] at h
  have e:false=fL p a b:=by
   unfold fL
   have h':(onB p && onB a && onB b)=false:=uZ h
   rw [h']
   rfl
  repeat' (first|exact e|apply And.intro|exact trivial|exact rfl)
 refine fun (h:(!gG ⟨3,sl1 (.cons (ptL p) (.cons (ptL a) (.cons (ptL b) .nil)))⟩)=false)=>?_
 rw [wS] at h
 have h':(onB p && onB a && onB b)=true:=qT h
 simp only [Bool.and_eq_true] at h'
 have h1:=h'.1.1
 have h2:=h'.1.2
 have h3:=h'.2
 have ev:fL p a b=onS p a b:=by unfold fL; rw [h1,h2,h3]; rfl
 repeat' (first|exact h1|exact h2|exact h3|apply And.intro|exact trivial|exact rfl)
 ·refine fun (h:aE (eqP p a) _ _ _ (eqP p b)=true)=>?_
  rw [aD] at h
  have e:true=fL p a b:=by rw [ev]; unfold onS; rw [h]; rfl
  repeat' (first|exact e|apply And.intro|exact trivial|exact rfl)
 refine fun (h:aE (eqP p a) _ _ _ (eqP p b)=false)=>?_
 rw [aD] at h
 have b1:=vM h1 h2
 have b2:=vM h1 h3
 have e:∀ i j,aE (decide (sgn (ar a b p)=0)) (.s i) cF (decide (dot (vec p a) (vec p b) < 0)) j=fL p a b:=fun i j=>by
  cases j <;> rw [ev] <;> unfold onS <;> rw [h] <;> rfl
 repeat' (first|exact h1|exact h2|exact h3|exact b1|exact b2|exact e _ _|apply And.intro|exact trivial|exact rfl|(refine fun (_:bD _ _ _ _)=>?_))
def prt (a b p q:Pt):Bool:=decide (sgn (ar a b p) * sgn (ar a b q) < 0)
def parted:Eng.Spec where
 X:=(Pt×Pt)×Pt×Pt
 args:=fun x=>.cons (.fn 1048832 (.cons (.agg (Sa x.1.1 x.1.2)) .nil)) (.cons (ptE x.2.1) (.cons (ptE x.2.2) .nil))
 pre:=fun x=>(onB x.1.1=true/\onB x.1.2=true)/\onB x.2.1=true/\onB x.2.2=true
 res:=fun x=>.bool (prt x.1.1 x.1.2 x.2.1 x.2.2)
 inst:=fun
  | .cons (.fn _ (.cons s .nil)) (.cons a (.cons b .nil))=>match V0 s,ptD a,ptD b with
   | some p,some q,some r=>some (p,q,r)
   | _,_,_=>none
  | _=>none
def g258:List Nat:=[1,2,4,0,5,6]
def c258:aH :=
 .seq (.region g258 [(zo 4 (.box 53 (.s 1))),(zo 5 (.box 53 (.s 2))),(zo 6 (.move cF))]) (.seq (.drawn g258 (.pure 0 (mv 7 0) (.pure 1 (zo 8 (.load 2 true (.s 4))) (.pure 2 (zo 9 (.call (.s 7) [.s 8])) (.pure 3 (mv 10 0) (.pure 4 (zo 11 (.load 2 true (.s 5))) (.pure 5 (zo 12 (.call (.s 10) [.s 11])) (.pure 6 (zo 13 (.bin (.mul) (.s 9) (.s 12))) (.pure 7 (zo 14 (.bin (.lss) (.s 13) (cj 0))) (.pure 8 (mv 6 14) .done)))))))))) .ret)
theorem e258:aI Tryz.prog 258 g258 [] [] []=some (c258,[.slot 6],15):=by kernel_rfl
theorem J5 (n:Int):-1<=sgn n/\sgn n<=1:=by
 unfold sgn
 split
 ·omega
 ·split <;> omega
theorem Ft:parted.Ok Tryz.prog 258:=by
 refine Eng.Spec.cY e258 .nil (fun _=>[(256,.p side)]) (fun _ _=>aA.p xI aA.nil) ?_
 rintro ⟨⟨a,b⟩,p,q⟩ ⟨⟨h1,h2⟩,h3,h4⟩
 replace h1:onB a=true:=h1
 replace h2:onB b=true:=h2
 replace h3:onB p=true:=h3
 replace h4:onB q=true:=h4
 have k1:=J5 (ar a b p)
 have k2:=J5 (ar a b q)
 have k:=nE k1.1 k1.2 k2.1 k2.2
 have r1:-9223372036854775808<=sgn (ar a b p) * sgn (ar a b q):=by omega
 have r2:sgn (ar a b p) * sgn (ar a b q)<=9223372036854775807:=by omega
 refine ⟨trivial,?_⟩
 repeat' (first|exact h1|exact h2|exact h3|exact h4|exact r1|exact r2|apply And.intro|exact trivial|exact rfl)
def g240:List Nat:=[0,1,2,3,17,25,9,6,7,10,4,5,48,8]
def c240:aH :=
 .seq (.region g240 [(zo 4 (.box 53 (.s 0))),(zo 5 (.box 53 (.s 1))),(zo 6 (.box 53 (.s 2))),(zo 7 (.box 53 (.s 3))),(zo 8 (.move (cj 0)))]) (.seq (.seq (.drawn g240 (.pure 0 (zo 11 (.load 2 true (.s 4))) (.pure 1 (zo 12 (.load 2 true (.s 5))) (.pure 2 (zo 13 (.call (.c (.fn 255)) [.s 11,.s 12])) (.pure 3 (zo 14 (.load 2 true (.s 6))) (.pure 4 (zo 15 (.load 2 true (.s 7))) (.pure 5 (zo 16 (.call (.c (.fn 255)) [.s 14,.s 15])) (.eff 6 (zo 9 (.alloc 267 (.cons (.int .i64 0) (.cons (.int .i64 0) (.cons (.int .i64 0) (.cons (.int .i64 0) (.cons (.int .i64 0) (.cons (.int .i64 0) .nil)))))))) [(zo 16 (.call (.c (.fn 255)) [.s 14,.s 15])),(zo 15 (.load 2 true (.s 7))),(zo 14 (.load 2 true (.s 6))),(zo 13 (.call (.c (.fn 255)) [.s 11,.s 12])),(zo 12 (.load 2 true (.s 5))),(zo 11 (.load 2 true (.s 4)))] (.eff 7 (zo 10 (.alloc 267 (.cons (.int .i64 0) (.cons (.int .i64 0) (.cons (.int .i64 0) (.cons (.int .i64 0) (.cons (.int .i64 0) (.cons (.int .i64 0) .nil)))))))) [(zo 16 (.call (.c (.fn 255)) [.s 14,.s 15])),(zo 15 (.load 2 true (.s 7))),(zo 14 (.load 2 true (.s 6))),(zo 13 (.call (.c (.fn 255)) [.s 11,.s 12])),(zo 12 (.load 2 true (.s 5))),(zo 11 (.load 2 true (.s 4)))] (.eff 8 ⟨none,none,.store 6 (.s 9) (.s 13),[]⟩ [] (.eff 9 ⟨none,none,.store 6 (.s 10) (.s 16),[]⟩ [] .done .none) .none) .none) (.eff 7 (zo 10 (.alloc 267 (.cons (.int .i64 0) (.cons (.int .i64 0) (.cons (.int .i64 0) (.cons (.int .i64 0) (.cons (.int .i64 0) (.cons (.int .i64 0) .nil)))))))) [(zo 16 (.call (.c (.fn 255)) [.s 14,.s 15])),(zo 15 (.load 2 true (.s 7))),(zo 14 (.load 2 true (.s 6))),(zo 13 (.call (.c (.fn 255)) [.s 11,.s 12])),(zo 12 (.load 2 true (.s 5))),(zo 11 (.load 2 true (.s 4)))] (.eff 6 (zo 9 (.alloc 267 (.cons (.int .i64 0) (.cons (.int .i64 0) (.cons (.int .i64 0) (.cons (.int .i64 0) (.cons (.int .i64 0) (.cons (.int .i64 0) .nil)))))))) [(zo 16 (.call (.c (.fn 255)) [.s 14,.s 15])),(zo 15 (.load 2 true (.s 7))),(zo 14 (.load 2 true (.s 6))),(zo 13 (.call (.c (.fn 255)) [.s 11,.s 12])),(zo 12 (.load 2 true (.s 5))),(zo 11 (.load 2 true (.s 4)))] (.eff 8 ⟨none,none,.store 6 (.s 9) (.s 13),[]⟩ [] (.eff 9 ⟨none,none,.store 6 (.s 10) (.s 16),[]⟩ [] .done .none) .none) .none) .none))))))))) (.block 0 (.seq (.region g240 [(zo 18 (.load 2 true (.s 4))),(zo 19 (.load 2 true (.s 5))),(zo 20 (.load 2 true (.s 6))),(zo 21 (.load 2 true (.s 7))),(zo 22 (.buildSl 53 2 4 zPt [(0,2,.s 18),(2,2,.s 19),(4,2,.s 20),(6,2,.s 21)])),(zo 23 (.call (.c (.fn 254)) [.s 22])),(zo 24 (.not (.s 23))),(mv 17 24)]) (.cond (.s 17) (.seq (.region g240 [(zo 8 (.move (cj 0)))]) .ret) (.seq (.region g240 [(zo 26 (.load 2 true (.s 4))),(zo 27 (.load 2 true (.s 6))),(zo 28 (.load 2 true (.s 7))),(zo 29 (.call (.c (.fn 257)) [.s 26,.s 27,.s 28])),(mv 30 29),(zg 31 30 false (.load 2 true (.s 5))),(zg 32 30 false (.load 2 true (.s 6))),(zg 33 30 false (.load 2 true (.s 7))),(zg 34 30 false (.call (.c (.fn 257)) [.s 31,.s 32,.s 33])),(zo 35 (.pick (.s 30) cT (.s 34))),(mv 36 35),(zg 37 36 false (.load 2 true (.s 6))),(zg 38 36 false (.load 2 true (.s 4))),(zg 39 36 false (.load 2 true (.s 5))),(zg 40 36 false (.call (.c (.fn 257)) [.s 37,.s 38,.s 39])),(zo 41 (.pick (.s 36) cT (.s 40))),(mv 42 41),(zg 43 42 false (.load 2 true (.s 7))),(zg 44 42 false (.load 2 true (.s 4))),(zg 45 42 false (.load 2 true (.s 5))),(zg 46 42 false (.call (.c (.fn 257)) [.s 43,.s 44,.s 45])),(zo 47 (.pick (.s 42) cT (.s 46))),(mv 25 47)]) (.cond (.s 25) (.seq (.region g240 [(zo 8 (.move (cj 1)))]) .ret) (.seq (.region g240 [(zo 49 (.load 6 true (.s 9))),(zo 50 (.mkfn 1048832 [.s 49])),(zo 51 (.load 2 true (.s 6))),(zo 52 (.load 2 true (.s 7))),(zo 53 (.call (.c (.fn 258)) [.s 50,.s 51,.s 52])),(mv 54 53),(zg 55 54 true (.load 6 true (.s 10))),(zg 56 54 true (.mkfn 1048832 [.s 55])),(zg 57 54 true (.load 2 true (.s 4))),(zg 58 54 true (.load 2 true (.s 5))),(zg 59 54 true (.call (.c (.fn 258)) [.s 56,.s 57,.s 58])),(zo 60 (.pick (.s 54) (.s 59) cF)),(mv 48 60)]) (.cond (.s 48) (.seq (.region g240 [(zo 8 (.move (cj 2)))]) .ret) .skip)))))))) (.seq (.region g240 [(zo 8 (.move (cj 0)))]) .ret))
theorem e240:aI Tryz.prog 240 g240 [] [] []=some (c240,[.slot 8],61):=by kernel_rfl
def tch (a b c d:Pt):Bool:=fL a c d || fL b c d || fL c a b || fL d a b
def crV (a b c d:Pt):Int:=if tch a b c d=true then 1 else if (prt a b c d && prt c d a b)=true then 2 else 0
def four:SV->Option (Pt×Pt×Pt×Pt)
 | .cons a (.cons b (.cons c (.cons d .nil)))=>match ptD a,ptD b,ptD c,ptD d with
  | some p,some q,some r,some s=>some (p,q,r,s)
  | _,_,_,_=>none
 | _=>none
def Cross:Eng.Spec where
 X:=Pt×Pt×Pt×Pt
 args:=fun x=>.cons (ptE x.1) (.cons (ptE x.2.1) (.cons (ptE x.2.2.1) (.cons (ptE x.2.2.2) .nil)))
 pre:=fun x=>onB x.1=true/\onB x.2.1=true/\onB x.2.2.1=true/\onB x.2.2.2=true
 res:=fun x=>.int .i64 (crV x.1 x.2.1 x.2.2.1 x.2.2.2)
 inst:=four
set_option maxHeartbeats 1000000 in
theorem Gp:Cross.Ok Tryz.prog 240:=by
 refine Eng.Spec.cY e240 .nil (fun _=>[(254,.p on_),(255,.p open_),(257,.p Between),(258,.p parted)]) (fun _ _=>aA.p Jk (aA.p wT (aA.p Ax (aA.p Ft aA.nil)))) ?_
 rintro ⟨a,b,c,d⟩ ⟨h1,h2,h3,h4⟩
 replace h1:onB a=true:=h1
 replace h2:onB b=true:=h2
 replace h3:onB c=true:=h3
 replace h4:onB d=true:=h4
 have hall:(!gG ⟨4,sl1 (.cons (ptL a) (.cons (ptL b) (.cons (ptL c) (.cons (ptL d) .nil))))⟩)=false:=by rw [Ru,h1,h2,h3,h4]; rfl
 refine ⟨trivial,?_⟩
 repeat' (first|exact h1|exact h2|exact h3|exact h4|apply And.intro|exact trivial|exact rfl)
 ·show (4:Int)<=_
  omega
 ·refine fun (h:(!gG ⟨4,sl1 (.cons (ptL a) (.cons (ptL b) (.cons (ptL c) (.cons (ptL d) .nil))))⟩)=true)=>?_
  exact Jb hall h
 ·refine fun (_:(!gG ⟨4,sl1 (.cons (ptL a) (.cons (ptL b) (.cons (ptL c) (.cons (ptL d) .nil))))⟩)=false)=>?_
  repeat' (first|exact h1|exact h2|exact h3|exact h4|apply And.intro|exact trivial|exact rfl|(refine fun (_:bD _ _ _ _)=>?_))
  ·refine fun (h:aE (aE (aE (fL a c d) _ _ _ (fL b c d)) _ _ _ (fL c a b)) _ _ _ (fL d a b)=true)=>?_
   rw [aD,aD,aD] at h
   have e:1=crV a b c d:=by unfold crV tch; rw [if_pos h]
   repeat' (first|exact e|apply And.intro|exact trivial|exact rfl)
  refine fun (h:aE (aE (aE (fL a c d) _ _ _ (fL b c d)) _ _ _ (fL c a b)) _ _ _ (fL d a b)=false)=>?_
  rw [aD,aD,aD] at h
  repeat' (first|exact h1|exact h2|exact h3|exact h4|apply And.intro|exact trivial|exact rfl|(refine fun (_:bD _ _ _ _)=>?_))
  ·refine fun (h':aE (prt a b c d) _ _ (prt c d a b) _=true)=>?_
   rw [aF] at h'
   have e:2=crV a b c d:=by unfold crV tch; rw [if_neg (by rw [h]; decide),if_pos h']
   repeat' (first|exact e|apply And.intro|exact trivial|exact rfl)
  refine fun (h':aE (prt a b c d) _ _ (prt c d a b) _=false)=>?_
  rw [aF] at h'
  have e:0=crV a b c d:=by unfold crV tch; rw [if_neg (by rw [h]; decide),if_neg (by rw [h']; decide)]
  repeat' (first|exact e|apply And.intro|exact trivial|exact rfl)
 ·show (4:Int)<=_
  omega
 ·refine fun (h:(!gG ⟨4,sl1 (.cons (ptL a) (.cons (ptL b) (.cons (ptL c) (.cons (ptL d) .nil))))⟩)=true)=>?_
  exact Jb hall h
 ·refine fun (_:(!gG ⟨4,sl1 (.cons (ptL a) (.cons (ptL b) (.cons (ptL c) (.cons (ptL d) .nil))))⟩)=false)=>?_
  repeat' (first|exact h1|exact h2|exact h3|exact h4|apply And.intro|exact trivial|exact rfl|(refine fun (_:bD _ _ _ _)=>?_))
  ·refine fun (h:aE (aE (aE (fL a c d) _ _ _ (fL b c d)) _ _ _ (fL c a b)) _ _ _ (fL d a b)=true)=>?_
   rw [aD,aD,aD] at h
   have e:1=crV a b c d:=by unfold crV tch; rw [if_pos h]
   repeat' (first|exact e|apply And.intro|exact trivial|exact rfl)
  refine fun (h:aE (aE (aE (fL a c d) _ _ _ (fL b c d)) _ _ _ (fL c a b)) _ _ _ (fL d a b)=false)=>?_
  rw [aD,aD,aD] at h
  repeat' (first|exact h1|exact h2|exact h3|exact h4|apply And.intro|exact trivial|exact rfl|(refine fun (_:bD _ _ _ _)=>?_))
  ·refine fun (h':aE (prt a b c d) _ _ (prt c d a b) _=true)=>?_
   rw [aF] at h'
   have e:2=crV a b c d:=by unfold crV tch; rw [if_neg (by rw [h]; decide),if_pos h']
   repeat' (first|exact e|apply And.intro|exact trivial|exact rfl)
  refine fun (h':aE (prt a b c d) _ _ (prt c d a b) _=false)=>?_
  rw [aF] at h'
  have e:0=crV a b c d:=by unfold crV tch; rw [if_neg (by rw [h]; decide),if_neg (by rw [h']; decide)]
  repeat' (first|exact e|apply And.intro|exact trivial|exact rfl)
end G2
