/- A part of the proof. -/
import Derived.Test.YtlfdokecdilkcaaGreatDoorF25
open Go Go.Eng Go.Proofs G1 G2 G3 G4 G6 G7 EV0 N1 N2 F1 F7 F9 F10 F11 F13 F13g F16 F17 F18 F18g F19
set_option maxRecDepth 100000
namespace F20
def To:Eng.bJ:=Tp.ren (Sq B) (fun t y=>y=wsq t) (fun _ y=>stE y) (fun _ _=>[])
theorem Mc:To.Ok Tryz.prog 37:=Eng.bJ.Dh Qa fun x _ _ _=>⟨wsq x,rfl,rfl,rfl⟩
def Wb:Eng.bJ:=Hq.ren (Sq B×B) (fun s y=>y=(adv s 1,hdW s)) (fun _ y=>.str y.2) (fun _ y=>[(0,.cells 69 (.cons (stE y.1) .nil))])
theorem Oq:Wb.Ok Tryz.prog 40:=Eng.bJ.Dh uI fun s y _ (hy:y=adv s 1)=>⟨(adv s 1,hdW s),rfl,rfl,by rw [hy]; rfl⟩
def ixM:Eng.bJ:=ixS.mof Int (fun x y=>y=ixV x.1 x.2) (fun _ y=>.int .i64 y)
theorem Rb:ixM.Ok Tryz.prog 39:=Eng.Spec.tJ Ug fun x _=>⟨ixV x.1 x.2,rfl,rfl⟩
def T5:Eng.bJ:=B6.ren Ev (fun x y=>y=aW x.1 x.2) (fun _ y=>evE y) (fun _ _=>[])
theorem Mr:T5.Ok Tryz.prog 41:=Eng.bJ.Dh Qw fun x _ _ _=>⟨aW x.1 x.2,rfl,rfl,rfl⟩
def Qn:Eng.bJ:=Is.mof (B×Int) (fun e y=>y=(cB e,if aS e=true then 0 else 1)) (fun _ y=>.tup (.cons (.str y.1) (.cons (.int .i64 y.2) .nil)))
theorem Ec:Qn.Ok Tryz.prog 12:=Eng.Spec.tJ Iu fun e _=>⟨(cB e,if aS e=true then 0 else 1),rfl,rfl⟩
theorem Mo {t:B} {E:Ev} {z:B×Int} {i:Nat} (hE:cdV t=E) (hz:z=(cB E,if aS E=true then 0 else 1)) (hc:aG (!decide (z.2=0)) (.c (.bool true)) (.s i) true (!decide (z.1=t))=true):dN t=false:=by
 subst hz
 rw [aI] at hc
 exact Qr hE hc
theorem Iy {t:B} {E:Ev} {z:B×Int} {i:Nat} (hE:cdV t=E) (hz:z=(cB E,if aS E=true then 0 else 1)) (hc:aG (!decide (z.2=0)) (.c (.bool true)) (.s i) true (!decide (z.1=t))=false):dN t=true:=by
 subst hz
 rw [aI] at hc
 exact Mp hE hc
def g14:List Nat:=[5,4,8,7,0,35,6,2,3]
def c14:aD :=
 .seq (.region g14 [(zo 2 (.alloc 31 zEv)),(zo 3 (.move (.c (.int .i64 0))))]) (.seq (.region g14 [(zo 9 (.move (.s 0))),(zo 10 (.call (.c (.fn 38)) [.s 9])),(zo 11 (.call (.c (.fn 37)) [.s 10])),(zo 12 (.build (.cons (.nilsl) .nil) [(0,1,.s 11)])),(zo 13 (.box 69 (.s 12))),(zo 4 (.move (.s 13)))]) (.seq (.region g14 [(zo 14 (.call (.c (.fn 26)) [])),(zo 5 (.alloc 55 (.cons (.str []) (.cons (.str []) (.cons (.str []) (.cons (.str []) (.cons (.str []) (.cons (.str []) (.cons (.str []) (.cons (.str []) (.cons (.str []) (.cons (.str []) (.cons (.str []) (.cons (.str []) (.cons (.str []) (.cons (.str []) (.cons (.str []) (.cons (.str []) .nil)))))))))))))))))),⟨none,none,.store 16 (.s 5) (.s 14),[]⟩]) (.seq (.join 0 [15,16,17,18,19,20,6] (.drawn g14 (.pure 1 (zo 16 (.move (.s 4))) (.eff 0 (zo 15 (.arrSl 16 1 1 (.s 5))) [] (.eff 2 (zo 17 (.call (.c (.fn 40)) [.s 16])) [] (.eff 3 (zo 18 (.call (.c (.fn 39)) [.s 15,.s 17])) [] (.pure 4 (zo 19 (.bin (.add) (.s 18) (.c (.int .i64 1)))) (.pure 5 (zo 20 (.build zEv [(0,1,.s 19)])) (.eff 6 (zo 6 (.alloc 31 zEv)) [] (.eff 7 ⟨none,none,.store 18 (.s 6) (.s 20),[]⟩ [] .done .none) .none))) (.eff 6 (zo 6 (.alloc 31 zEv)) [] (.eff 3 (zo 18 (.call (.c (.fn 39)) [.s 15,.s 17])) [] (.pure 4 (zo 19 (.bin (.add) (.s 18) (.c (.int .i64 1)))) (.pure 5 (zo 20 (.build zEv [(0,1,.s 19)])) (.eff 7 ⟨none,none,.store 18 (.s 6) (.s 20),[]⟩ [] .done .none))) .none) .none)) (.eff 6 (zo 6 (.alloc 31 zEv)) [] (.eff 2 (zo 17 (.call (.c (.fn 40)) [.s 16])) [] (.eff 3 (zo 18 (.call (.c (.fn 39)) [.s 15,.s 17])) [] (.pure 4 (zo 19 (.bin (.add) (.s 18) (.c (.int .i64 1)))) (.pure 5 (zo 20 (.build zEv [(0,1,.s 19)])) (.eff 7 ⟨none,none,.store 18 (.s 6) (.s 20),[]⟩ [] .done .none))) .none) .none) .none)) (.eff 2 (zo 17 (.call (.c (.fn 40)) [.s 16])) [] (.eff 0 (zo 15 (.arrSl 16 1 1 (.s 5))) [] (.eff 3 (zo 18 (.call (.c (.fn 39)) [.s 15,.s 17])) [] (.pure 4 (zo 19 (.bin (.add) (.s 18) (.c (.int .i64 1)))) (.pure 5 (zo 20 (.build zEv [(0,1,.s 19)])) (.eff 6 (zo 6 (.alloc 31 zEv)) [] (.eff 7 ⟨none,none,.store 18 (.s 6) (.s 20),[]⟩ [] .done .none) .none))) (.eff 6 (zo 6 (.alloc 31 zEv)) [] (.eff 3 (zo 18 (.call (.c (.fn 39)) [.s 15,.s 17])) [] (.pure 4 (zo 19 (.bin (.add) (.s 18) (.c (.int .i64 1)))) (.pure 5 (zo 20 (.build zEv [(0,1,.s 19)])) (.eff 7 ⟨none,none,.store 18 (.s 6) (.s 20),[]⟩ [] .done .none))) .none) .none)) (.eff 6 (zo 6 (.alloc 31 zEv)) [] (.eff 0 (zo 15 (.arrSl 16 1 1 (.s 5))) [] (.eff 3 (zo 18 (.call (.c (.fn 39)) [.s 15,.s 17])) [] (.pure 4 (zo 19 (.bin (.add) (.s 18) (.c (.int .i64 1)))) (.pure 5 (zo 20 (.build zEv [(0,1,.s 19)])) (.eff 7 ⟨none,none,.store 18 (.s 6) (.s 20),[]⟩ [] .done .none))) .none) .none) .none)) (.eff 6 (zo 6 (.alloc 31 zEv)) [] (.eff 0 (zo 15 (.arrSl 16 1 1 (.s 5))) [] (.eff 2 (zo 17 (.call (.c (.fn 40)) [.s 16])) [] (.eff 3 (zo 18 (.call (.c (.fn 39)) [.s 15,.s 17])) [] (.pure 4 (zo 19 (.bin (.add) (.s 18) (.c (.int .i64 1)))) (.pure 5 (zo 20 (.build zEv [(0,1,.s 19)])) (.eff 7 ⟨none,none,.store 18 (.s 6) (.s 20),[]⟩ [] .done .none))) .none) .none) (.eff 2 (zo 17 (.call (.c (.fn 40)) [.s 16])) [] (.eff 0 (zo 15 (.arrSl 16 1 1 (.s 5))) [] (.eff 3 (zo 18 (.call (.c (.fn 39)) [.s 15,.s 17])) [] (.pure 4 (zo 19 (.bin (.add) (.s 18) (.c (.int .i64 1)))) (.pure 5 (zo 20 (.build zEv [(0,1,.s 19)])) (.eff 7 ⟨none,none,.store 18 (.s 6) (.s 20),[]⟩ [] .done .none))) .none) .none) .none)) .none)))))) (.seq (.region g14 [(zo 21 (.move (.s 4))),(zo 22 (.load 18 true (.s 6))),(zo 23 (.call (.c (.fn 41)) [.s 21,.s 22])),⟨none,none,.store 18 (.s 6) (.s 23),[]⟩]) (.seq (.seq (.region g14 [(zo 25 (.load 18 true (.s 6))),(zo 26 (.call (.c (.fn 12)) [.s 25])),(zo 24 (.move (.s 26))),(zo 27 (.extract 0 (.s 24))),(zo 28 (.extract 1 (.s 24))),(zo 7 (.move (.s 27))),(zo 8 (.move (.s 28)))]) (.seq (.region g14 [(zo 29 (.move (.s 8))),(zo 30 (.bin (.neq) (.s 29) (.c (.int .i64 0)))),(zo 31 (.move (.s 30))),(zg 32 31 false (.move (.s 7))),(zg 33 31 false (.move (.s 0))),(zg 34 31 false (.bin (.neq) (.s 32) (.s 33))),(zo 35 (.pick (.s 31) (.c (.bool true)) (.s 34)))]) (.cond (.s 35) (.seq (.region g14 [(zo 36 (.build zEv [])),⟨none,none,.store 18 (.s 2) (.s 36),[]⟩,(zo 3 (.move (.c (.int .i64 5))))]) .ret) .skip))) (.seq (.region g14 [(zo 37 (.load 18 true (.s 6))),⟨none,none,.store 18 (.s 2) (.s 37),[]⟩,(zo 3 (.move (.c (.int .i64 0))))]) .ret))))))
def r14:List aR:=[.cell 2 18 true,.slot 3]
def k14:List (Nat×Nat×aD×Nat):=[]
theorem e14:aK Tryz.prog 14 g14 [1000003] [17,18] k14=some (c14,r14,38):=by kernel_rfl
theorem q14:aF Tryz.prog k14:=aF.nil
set_option maxHeartbeats 8000000 in
theorem Iz:Fv.Ok Tryz.prog 14:=by
 refine Eng.Spec.okR e14 q14 (fun _=>[(38,.m Vj),(37,.m To),(26,.p Te),(40,.m Wb),(39,.m ixM),(41,.m T5),(12,.m Qn)])
  (fun _ _=>aA.m Sd (aA.m Mc (aA.p Ln (aA.m Oq (aA.m Rb (aA.m Mr (aA.m Ec aA.nil))))))) ?_
 rintro (t:B) (h:okT t)
 have hw:=D1 h
 have kb0:(bQ wr1).n<=1000000:=Nat.le_of_ble_eq_true rfl
 refine ⟨trivial,?_⟩
 generalize hR:Fv.res t=R
 repeat' (first|apply And.intro|exact trivial|exact rfl)
 refine Exists.intro t (Exists.intro [] ?_)
 repeat' (first|apply And.intro|exact trivial|exact rfl)
 refine fun (_:Unit) (_:True)=>?_
 repeat' (first|apply And.intro|exact trivial|exact rfl)
 refine Exists.intro t (Exists.intro [1] ?_)
 repeat' (first|exact h|apply And.intro|exact trivial|exact rfl)
 refine fun (s:Sq B) (hs:s=wsq t)=>?_
 have hws:okS s okT:=hs ▸ hw
 repeat' (first|apply And.intro|exact trivial|exact rfl)
 refine Exists.intro ⟨Int×Sq B,fun x=>x=(kdV (hdW s),adv s 1),fun _=>[(6,.own 20 0)],fun x=>[(2,.cells 69 (.cons (stE x.2) .nil)),(20,.cells 31 (Wh x.1)),(3,.gone)],fun _=>0⟩ ?_
 refine And.intro ?_ ?_
 ·repeat' (first|apply And.intro|exact trivial|exact rfl)
  all_goals refine Exists.intro s (Exists.intro [2] ?_)
  all_goals repeat' (first|exact hws|apply And.intro|exact trivial|exact rfl|exact lz fun _=>rfl)
  all_goals refine fun (y:Sq B×B) (hy:y=(adv s 1,hdW s))=>?_
  all_goals repeat' (first|apply And.intro|exact trivial|exact rfl|exact lz fun _=>rfl)
  all_goals refine Exists.intro (bQ wr1,y.2) (Exists.intro [] ?_)
  all_goals repeat' (first|exact kb0|apply And.intro|exact trivial|exact rfl|exact lz fun _=>rfl)
  all_goals refine fun (k:Int) (hk:k=ixV (bQ wr1) y.2)=>?_
  all_goals have hk1:k+1=kdV (hdW s):=by { rw [hk,hy]; rfl }
  all_goals have hk2:=O9 (hdW s)
  all_goals rw [<- hk1] at hk2
  all_goals have b1:-9223372036854775808<=k+1:=Int.le_trans (by decide) hk2.1
  all_goals have b2:k+1<=9223372036854775807:=Int.le_trans hk2.2 (by decide)
  all_goals have hf:(k+1,y.1)=(kdV (hdW s),adv s 1):=by { rw [hk1,hy] }
  all_goals repeat' (first|exact b1|exact b2|apply And.intro|exact trivial|exact rfl|exact lz fun _=>rfl)
  all_goals refine Exists.intro (k+1,y.1) (And.intro hf ?_)
  all_goals repeat' (first|apply And.intro|exact trivial|exact rfl|exact lz fun _=>rfl)
 ·refine fun (x:Int×Sq B) (hx:x=(kdV (hdW s),adv s 1))=>?_
  obtain ⟨k,y⟩:=x
  have hk:k=kdV (hdW s):=congrArg (fun x=>x.1) hx
  have hy:y=adv s 1:=congrArg (fun x=>x.2) hx
  have kb:0<=k/\k<=15:=by rw [hk]; exact O9 _
  have yb:okS y okT:=by rw [hy]; exact bF hws
  have ec:cdV t=aW k y:=by rw [hk,hy,hs]; rfl
  repeat' (first|apply And.intro|exact trivial|exact rfl|exact lz fun _=>rfl)
  refine Exists.intro (k,y) (Exists.intro [2] ?_)
  repeat' (first|exact kb.1|exact kb.2|exact yb|apply And.intro|exact trivial|exact rfl|exact lz fun _=>rfl)
  refine fun (E:Ev) (hE:E=aW k y)=>?_
  have ek:cdV t=E:=ec.trans hE.symm
  have eok:okV E:=by rw [hE]; exact wV yb k
  repeat' (first|apply And.intro|exact trivial|exact rfl|exact lz fun _=>rfl)
  refine Exists.intro E (Exists.intro [] ?_)
  repeat' (first|exact eok|apply And.intro|exact trivial|exact rfl|exact lz fun _=>rfl)
  refine fun (z:B×Int) (hz:z=(cB E,if aS E=true then 0 else 1))=>?_
  repeat' (first|apply And.intro|exact trivial|exact rfl|exact lz fun _=>rfl)
  ·refine fun (hc0:aG (!decide (z.2=0)) (.c (.bool true)) (.s 34) true (!decide (z.1=t))=true)=>?_
   have hb:dN t=false:=Mo ek hz hc0
   have e1:fA t=ev00:=by unfold fA; rw [hb]; rfl
   have e3:Fv.res t=.tup (.cons (evE ev00) (.cons (.int .i64 5) .nil)):=by
    show SV.tup (.cons (evE (fA t)) (.cons (.int .i64 (if dN t=true then 0 else 5)) .nil))=_
    rw [e1,hb]; rfl
   obtain rfl:SV.tup (.cons (evE ev00) (.cons (.int .i64 5) .nil))=R:=e3.symm.trans hR
   repeat' (first|apply And.intro|exact trivial|exact rfl|exact lz fun _=>rfl)
  ·refine fun (hc0:aG (!decide (z.2=0)) (.c (.bool true)) (.s 34) true (!decide (z.1=t))=false)=>?_
   have hb:dN t=true:=Iy ek hz hc0
   have e1:fA t=E:=by unfold fA; rw [if_pos hb,ek]
   have e3:Fv.res t=.tup (.cons (evE E) (.cons (.int .i64 0) .nil)):=by
    show SV.tup (.cons (evE (fA t)) (.cons (.int .i64 (if dN t=true then 0 else 5)) .nil))=_
    rw [e1,hb]; rfl
   obtain rfl:SV.tup (.cons (evE E) (.cons (.int .i64 0) .nil))=R:=e3.symm.trans hR
   repeat' (first|apply And.intro|exact trivial|exact rfl|exact lz fun _=>rfl)
end F20
