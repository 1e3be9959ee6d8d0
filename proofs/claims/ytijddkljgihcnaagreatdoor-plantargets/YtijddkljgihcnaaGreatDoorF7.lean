/- A part of the proof. -/
import Derived.Test.YtijddkljgihcnaaGreatDoorF6
open Go Go.Eng Go.Proofs G1 G2 G3 G4 G6 G7 EV0 N1 F1 F2 F3 F4 F5 F6
set_option maxRecDepth 100000
namespace F7
def ev1:SV->Option Ev
 | .cons a _=>evD a
 | _=>none
def wJ:List B->SV
 | []=>.nil
 | x::r=>.cons (stL x) (wJ r)
def gM (l:List B):Sq B:=⟨(wJ l).len,fun i=>bH (aJ (aJ (wJ l) i) 0)⟩
theorem zI:∀ l:List B,(wJ l).len=l.length:=by
 intro l
 induction l with
 | nil=>rfl
 | cons a l ih=>simp only [wJ,SV.len,ih,List.length_cons]
theorem Mt:∀ (l:List B) (i:Nat),i < l.length->bH (aJ (aJ (wJ l) i) 0)=l.getD i []:=by
 intro l
 induction l with
 | nil=>intro i h; simp at h
 | cons a l ih =>
  intro i h
  cases i with
  | zero=>rfl
  | succ i=>exact ih i (by simpa using h)
theorem pN {l:List B} (hl:l.length<=1000) (h:∀ x∈l,okT x):okS (gM l) okT:=by
 refine ⟨?_,fun i hi=>?_⟩
 ·show (wJ l).len<=1000000
  rw [zI]; omega
 ·replace hi:i < (wJ l).len:=hi
  rw [zI] at hi
  show okT (bH (aJ (aJ (wJ l) i) 0))
  rw [Mt l i hi,List.getD_eq_getElem?_getD,List.getElem?_eq_getElem hi]
  exact h _ (List.getElem_mem hi)
def nd0 (e:Ev):Bool:=L10.dL e.id
def nd1 (e:Ev):Bool:=(nd0 e && bI e.a 1 3) && qF e.path
def nd2 (e:Ev):Bool:=nd0 e && Fg e.path
def nd3 (e:Ev):Bool:=nd0 e && Fm e.names
def nd4 (e:Ev):Bool:=mA (gM [e.id,e.oth])
def nd5 (e:Ev):Bool:=nd0 e && qF e.path
def nd6 (e:Ev):Bool:=(mA (gM [e.id,e.oth,e.txt]) && kA e.num) && onB e.pt
def nd7 (e:Ev):Bool:=mA (gM [e.id,e.oth]) && Lv e.txt 24
def nd13 (e:Ev):Bool:=Pk e.a e.b
def nd15 (e:Ev):Bool:=(nd0 e && bI e.off 0 63) && K3 e.txt
def g136:List Nat:=[0,1,2]
def c136:aH :=
 .seq (.region g136 [(zo 1 (.box 93 (.s 0))),(zo 2 (.move cF))]) (.seq (.region g136 [(fa 3 5 1),(ld 4 3),(zo 5 (.call (.c (.fn 137)) [.s 4])),(mv 2 5)]) .ret)
theorem e136:aI Tryz.prog 136 g136 [] [] []=some (c136,[.slot 2],6):=by kernel_rfl
def n0S:Eng.Spec where
 X:=Ev
 args:=fun e=>.cons (evE e) .nil
 pre:=okV
 res:=fun e=>.bool (nd0 e)
 inst:=ev1
theorem sX:n0S.Ok Tryz.prog 136:=by
 refine Eng.Spec.okR e136 .nil (fun _=>[(137,.p L10.qR)]) (fun _ _=>aA.p L10.wP aA.nil) ?_
 rintro (e:Ev) (h:okV e)
 have h1:=h.id
 have h2:=h.oth
 have h3:=h.txt
 have h4:=h.path
 have h5:=h.names
 have h6:(e.path.n:Int)<=9223372036854775806:=by omega
 refine ⟨trivial,?_⟩
 repeat' (first|exact h5|apply And.intro|exact trivial|exact rfl|refine gd ?_|exact lz fun _=>rfl|exact h1|exact h4|exact h3)
def g138:List Nat:=[0,1,2]
def c138:aH :=
 .seq (.region g138 [(zo 1 (.box 93 (.s 0))),(zo 2 (.move cF))]) (.seq (.region g138 [(fa 3 2 1),(ld 4 3),(fa 5 3 1),(ld 6 5),(zo 7 (.call (.c (.fn 139)) [.s 4,.s 6])),(mv 2 7)]) .ret)
theorem e138:aI Tryz.prog 138 g138 [] [] []=some (c138,[.slot 2],8):=by kernel_rfl
def U1:Eng.Spec where
 X:=Ev
 args:=fun e=>.cons (evE e) .nil
 pre:=okV
 res:=fun e=>.bool (nd13 e)
 inst:=ev1
theorem Rc:U1.Ok Tryz.prog 138:=by
 refine Eng.Spec.okR e138 .nil (fun _=>[(139,.p Tu)]) (fun _ _=>aA.p Pl aA.nil) ?_
 rintro (e:Ev) (h:okV e)
 have h1:=h.id
 have h2:=h.oth
 have h3:=h.txt
 have h4:=h.path
 have h5:=h.names
 have h6:(e.path.n:Int)<=9223372036854775806:=by omega
 refine ⟨trivial,?_⟩
 repeat' (first|exact h5|apply And.intro|exact trivial|exact rfl|refine gd ?_|exact lz fun _=>rfl|exact h1|exact h4|exact h3)
def g140:List Nat:=[0,1,2,3]
def c140:aH :=
 .seq (.region g140 [(zo 2 (.box 93 (.s 0))),(zo 3 (.move cF))]) (.seq (.region g140 [(ld 4 1),(zo 5 (.load 18 true (.s 2))),(zo 6 (.call (.s 4) [.s 5])),(mv 7 6),(fg 8 7 true 2 2),(lg 9 7 true 8),(zg 10 7 true (.call (.c (.fn 96)) [.s 9,cj 1,cj 3])),(zo 11 (.pick (.s 7) (.s 10) cF)),(mv 12 11),(fg 13 12 true 16 2),(lg 14 12 true 13),(zg 15 12 true (.call (.c (.fn 141)) [.s 14])),(zo 16 (.pick (.s 12) (.s 15) cF)),(mv 3 16)]) .ret)
theorem e140:aI Tryz.prog 140 g140 [] [] []=some (c140,[.slot 3],17):=by kernel_rfl
def n1S:Eng.Spec where
 X:=Ev
 args:=fun e=>.cons (evE e) (.cons (.cptr (.cons (.fn 136 .nil) .nil)) .nil)
 pre:=okV
 res:=fun e=>.bool (nd1 e)
 inst:=ev1
theorem U3:n1S.Ok Tryz.prog 140:=by
 refine Eng.Spec.okR e140 .nil (fun _=>[(136,.p n0S),(96,.p xT),(141,.p Valid)]) (fun _ _=>aA.p sX (aA.p lM (aA.p nN aA.nil))) ?_
 rintro (e:Ev) (h:okV e)
 have h1:=h.id
 have h2:=h.oth
 have h3:=h.txt
 have h4:=h.path
 have h5:=h.names
 have h6:(e.path.n:Int)<=9223372036854775806:=by omega
 refine ⟨trivial,?_⟩
 repeat' (first|exact h|exact h6|exact h5|apply And.intro|exact trivial|exact rfl|refine gd ?_|exact lz fun _=>rfl|exact h1|exact h4|exact h3)
def g142:List Nat:=[0,1,2,3]
def c142:aH :=
 .seq (.region g142 [(zo 2 (.box 93 (.s 0))),(zo 3 (.move cF))]) (.seq (.region g142 [(ld 4 1),(zo 5 (.load 18 true (.s 2))),(zo 6 (.call (.s 4) [.s 5])),(mv 7 6),(fg 8 7 true 16 2),(lg 9 7 true 8),(zg 10 7 true (.call (.c (.fn 143)) [.s 9])),(zo 11 (.pick (.s 7) (.s 10) cF)),(mv 3 11)]) .ret)
theorem e142:aI Tryz.prog 142 g142 [] [] []=some (c142,[.slot 3],12):=by kernel_rfl
def n2S:Eng.Spec where
 X:=Ev
 args:=fun e=>.cons (evE e) (.cons (.cptr (.cons (.fn 136 .nil) .nil)) .nil)
 pre:=okV
 res:=fun e=>.bool (nd2 e)
 inst:=ev1
theorem U4:n2S.Ok Tryz.prog 142:=by
 refine Eng.Spec.okR e142 .nil (fun _=>[(136,.p n0S),(143,.p Ut)]) (fun _ _=>aA.p sX (aA.p Q1 aA.nil)) ?_
 rintro (e:Ev) (h:okV e)
 have h1:=h.id
 have h2:=h.oth
 have h3:=h.txt
 have h4:=h.path
 have h5:=h.names
 have h6:(e.path.n:Int)<=9223372036854775806:=by omega
 refine ⟨trivial,?_⟩
 repeat' (first|exact h|exact h6|exact h5|apply And.intro|exact trivial|exact rfl|refine gd ?_|exact lz fun _=>rfl|exact h1|exact h4|exact h3)
def g144:List Nat:=[0,1,2,3]
def c144:aH :=
 .seq (.region g144 [(zo 2 (.box 93 (.s 0))),(zo 3 (.move cF))]) (.seq (.region g144 [(ld 4 1),(zo 5 (.load 18 true (.s 2))),(zo 6 (.call (.s 4) [.s 5])),(mv 7 6),(fg 8 7 true 9 2),(lg 9 7 true 8),(zg 10 7 true (.call (.c (.fn 145)) [.s 9])),(zo 11 (.pick (.s 7) (.s 10) cF)),(mv 3 11)]) .ret)
theorem e144:aI Tryz.prog 144 g144 [] [] []=some (c144,[.slot 3],12):=by kernel_rfl
def n3S:Eng.Spec where
 X:=Ev
 args:=fun e=>.cons (evE e) (.cons (.cptr (.cons (.fn 136 .nil) .nil)) .nil)
 pre:=okV
 res:=fun e=>.bool (nd3 e)
 inst:=ev1
theorem U5:n3S.Ok Tryz.prog 144:=by
 refine Eng.Spec.okR e144 .nil (fun _=>[(136,.p n0S),(145,.p Vc)]) (fun _ _=>aA.p sX (aA.p Rf aA.nil)) ?_
 rintro (e:Ev) (h:okV e)
 have h1:=h.id
 have h2:=h.oth
 have h3:=h.txt
 have h4:=h.path
 have h5:=h.names
 have h6:(e.path.n:Int)<=9223372036854775806:=by omega
 refine ⟨trivial,?_⟩
 repeat' (first|exact h|exact h6|exact h5|apply And.intro|exact trivial|exact rfl|refine gd ?_|exact lz fun _=>rfl|exact h1|exact h4|exact h3)
def g146:List Nat:=[0,1,2]
def c146:aH :=
 .seq (.region g146 [(zo 1 (.box 93 (.s 0))),(zo 2 (.move cF))]) (.seq (.region g146 [(fa 3 5 1),(ld 4 3),(fa 5 6 1),(ld 6 5),(zo 7 (.buildSl 9 1 2 (.cons (.str []) .nil) [(0,1,.s 4),(1,1,.s 6)])),(zo 8 (.call (.c (.fn 147)) [.s 7])),(mv 2 8)]) .ret)
theorem e146:aI Tryz.prog 146 g146 [] [] []=some (c146,[.slot 2],9):=by kernel_rfl
def n4S:Eng.Spec where
 X:=Ev
 args:=fun e=>.cons (evE e) .nil
 pre:=okV
 res:=fun e=>.bool (nd4 e)
 inst:=ev1
theorem U6:n4S.Ok Tryz.prog 146:=by
 refine Eng.Spec.okR e146 .nil (fun _=>[(147,.p Bw)]) (fun _ _=>aA.p pL aA.nil) ?_
 rintro (e:Ev) (h:okV e)
 have h1:=h.id
 have h2:=h.oth
 have h3:=h.txt
 have h4:=h.path
 have h5:=h.names
 have h6:(e.path.n:Int)<=9223372036854775806:=by omega
 refine ⟨trivial,?_⟩
 repeat' (first|exact pN (l:=[e.id,e.oth]) (by simp) (by simp [h1,h2])|exact pN (l:=[e.id,e.oth,e.txt]) (by simp) (by simp [h1,h2,h3])|exact h5|apply And.intro|exact trivial|exact rfl|refine gd ?_|exact lz fun _=>rfl|exact h1|exact h4|exact h3)
def g148:List Nat:=[0,1,2,3]
def c148:aH :=
 .seq (.region g148 [(zo 2 (.box 93 (.s 0))),(zo 3 (.move cF))]) (.seq (.region g148 [(ld 4 1),(zo 5 (.load 18 true (.s 2))),(zo 6 (.call (.s 4) [.s 5])),(mv 7 6),(fg 8 7 true 16 2),(lg 9 7 true 8),(zg 10 7 true (.call (.c (.fn 141)) [.s 9])),(zo 11 (.pick (.s 7) (.s 10) cF)),(mv 3 11)]) .ret)
theorem e148:aI Tryz.prog 148 g148 [] [] []=some (c148,[.slot 3],12):=by kernel_rfl
def n5S:Eng.Spec where
 X:=Ev
 args:=fun e=>.cons (evE e) (.cons (.cptr (.cons (.fn 136 .nil) .nil)) .nil)
 pre:=okV
 res:=fun e=>.bool (nd5 e)
 inst:=ev1
theorem U7:n5S.Ok Tryz.prog 148:=by
 refine Eng.Spec.okR e148 .nil (fun _=>[(136,.p n0S),(141,.p Valid)]) (fun _ _=>aA.p sX (aA.p nN aA.nil)) ?_
 rintro (e:Ev) (h:okV e)
 have h1:=h.id
 have h2:=h.oth
 have h3:=h.txt
 have h4:=h.path
 have h5:=h.names
 have h6:(e.path.n:Int)<=9223372036854775806:=by omega
 refine ⟨trivial,?_⟩
 repeat' (first|exact h|exact h6|exact h5|apply And.intro|exact trivial|exact rfl|refine gd ?_|exact lz fun _=>rfl|exact h1|exact h4|exact h3)
def g149:List Nat:=[0,1,2]
def c149:aH :=
 .seq (.region g149 [(zo 1 (.box 93 (.s 0))),(zo 2 (.move cF))]) (.seq (.region g149 [(fa 3 5 1),(ld 4 3),(fa 5 6 1),(ld 6 5),(fa 7 7 1),(ld 8 7),(zo 9 (.buildSl 9 1 3 (.cons (.str []) .nil) [(0,1,.s 4),(1,1,.s 6),(2,1,.s 8)])),(zo 10 (.call (.c (.fn 147)) [.s 9])),(mv 11 10),(fg 12 11 true 10 1),(zg 13 11 true (.load 4 true (.s 12))),(zg 14 11 true (.call (.c (.fn 150)) [.s 13])),(zo 15 (.pick (.s 11) (.s 14) cF)),(mv 16 15),(fg 17 16 true 14 1),(zg 18 16 true (.load 2 true (.s 17))),(zg 19 16 true (.call (.c (.fn 151)) [.s 18])),(zo 20 (.pick (.s 16) (.s 19) cF)),(mv 2 20)]) .ret)
theorem e149:aI Tryz.prog 149 g149 [] [] []=some (c149,[.slot 2],21):=by kernel_rfl
def n6S:Eng.Spec where
 X:=Ev
 args:=fun e=>.cons (evE e) .nil
 pre:=okV
 res:=fun e=>.bool (nd6 e)
 inst:=ev1
theorem U8:n6S.Ok Tryz.prog 149:=by
 refine Eng.Spec.okR e149 .nil (fun _=>[(147,.p Bw),(150,.p K5),(151,.p On)]) (fun _ _=>aA.p pL (aA.p xR (aA.p rR aA.nil))) ?_
 rintro (e:Ev) (h:okV e)
 have h1:=h.id
 have h2:=h.oth
 have h3:=h.txt
 have h4:=h.path
 have h5:=h.names
 have h6:(e.path.n:Int)<=9223372036854775806:=by omega
 refine ⟨trivial,?_⟩
 repeat' (first|exact pN (l:=[e.id,e.oth]) (by simp) (by simp [h1,h2])|exact pN (l:=[e.id,e.oth,e.txt]) (by simp) (by simp [h1,h2,h3])|exact h5|apply And.intro|exact trivial|exact rfl|refine gd ?_|exact lz fun _=>rfl|exact h1|exact h4|exact h3)
def g152:List Nat:=[0,1,2]
def c152:aH :=
 .seq (.region g152 [(zo 1 (.box 93 (.s 0))),(zo 2 (.move cF))]) (.seq (.region g152 [(fa 3 5 1),(ld 4 3),(fa 5 6 1),(ld 6 5),(zo 7 (.buildSl 9 1 2 (.cons (.str []) .nil) [(0,1,.s 4),(1,1,.s 6)])),(zo 8 (.call (.c (.fn 147)) [.s 7])),(mv 9 8),(fg 10 9 true 7 1),(lg 11 9 true 10),(zg 12 9 true (.call (.c (.fn 153)) [.s 11,cj 24])),(zo 13 (.pick (.s 9) (.s 12) cF)),(mv 2 13)]) .ret)
theorem e152:aI Tryz.prog 152 g152 [] [] []=some (c152,[.slot 2],14):=by kernel_rfl
def n7S:Eng.Spec where
 X:=Ev
 args:=fun e=>.cons (evE e) .nil
 pre:=okV
 res:=fun e=>.bool (nd7 e)
 inst:=ev1
theorem U9:n7S.Ok Tryz.prog 152:=by
 refine Eng.Spec.okR e152 .nil (fun _=>[(147,.p Bw),(153,.p P5)]) (fun _ _=>aA.p pL (aA.p Hr aA.nil)) ?_
 rintro (e:Ev) (h:okV e)
 have h1:=h.id
 have h2:=h.oth
 have h3:=h.txt
 have h4:=h.path
 have h5:=h.names
 have h6:(e.path.n:Int)<=9223372036854775806:=by omega
 refine ⟨trivial,?_⟩
 repeat' (first|exact pN (l:=[e.id,e.oth]) (by simp) (by simp [h1,h2])|exact pN (l:=[e.id,e.oth,e.txt]) (by simp) (by simp [h1,h2,h3])|exact h5|apply And.intro|exact trivial|exact rfl|refine gd ?_|exact lz fun _=>rfl|exact h1|exact h4|exact h3)
def g159:List Nat:=[0,1,2,3]
def c159:aH :=
 .seq (.region g159 [(zo 2 (.box 93 (.s 0))),(zo 3 (.move cF))]) (.seq (.region g159 [(ld 4 1),(zo 5 (.load 18 true (.s 2))),(zo 6 (.call (.s 4) [.s 5])),(mv 7 6),(fg 8 7 true 4 2),(lg 9 7 true 8),(zg 10 7 true (.call (.c (.fn 96)) [.s 9,cj 0,cj 63])),(zo 11 (.pick (.s 7) (.s 10) cF)),(mv 12 11),(fg 13 12 true 7 2),(lg 14 12 true 13),(zg 15 12 true (.call (.c (.fn 160)) [.s 14])),(zo 16 (.pick (.s 12) (.s 15) cF)),(mv 3 16)]) .ret)
theorem e159:aI Tryz.prog 159 g159 [] [] []=some (c159,[.slot 3],17):=by kernel_rfl
def U2:Eng.Spec where
 X:=Ev
 args:=fun e=>.cons (evE e) (.cons (.cptr (.cons (.fn 136 .nil) .nil)) .nil)
 pre:=okV
 res:=fun e=>.bool (nd15 e)
 inst:=ev1
theorem Re:U2.Ok Tryz.prog 159:=by
 refine Eng.Spec.okR e159 .nil (fun _=>[(136,.p n0S),(96,.p xT),(160,.p Wu)]) (fun _ _=>aA.p sX (aA.p lM (aA.p Tg aA.nil))) ?_
 rintro (e:Ev) (h:okV e)
 have h1:=h.id
 have h2:=h.oth
 have h3:=h.txt
 have h4:=h.path
 have h5:=h.names
 have h6:(e.path.n:Int)<=9223372036854775806:=by omega
 refine ⟨trivial,?_⟩
 repeat' (first|exact h|exact h6|exact h5|apply And.intro|exact trivial|exact rfl|refine gd ?_|exact lz fun _=>rfl|exact h1|exact h4|exact h3)
end F7
