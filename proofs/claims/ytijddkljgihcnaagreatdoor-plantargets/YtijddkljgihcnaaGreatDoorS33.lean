/- A part of the proof. -/
import Derived.Test.YtijddkljgihcnaaGreatDoorS32
import Derived.Test.YtijddkljgihcnaaGreatDoorS28
import Derived.Test.YtijddkljgihcnaaGreatDoorS8
open Go Go.Eng Go.Proofs F1 F2 F5 F6 F10 G7 G4 L3 L10 G1 G3 EV0 B1 B2 S1 S2 S3 S4 S5 S6 S7 S8 S10 S11 S12 S13 S14 S21 S28 S31 S32
set_option maxRecDepth 100000
namespace S33
def adr0:Adr:=⟨[],[],[],[],[],hn0,(0,0)⟩
def adT (s:Sta) (id:B):Adr×Int :=
 if prV s=true then if fdV s id < 0 then (adr0,10) else if (s.doors.f (fdV s id).toNat).ended=-1 then if (s.doors.f (fdV s id).toNat).veil=[] then (vJ s (s.doors.f (fdV s id).toNat),0) else (adr0,24) else (adr0,11) else (adr0,1)
def xZ:Eng.Spec where
 X:=Sta×B
 args:=fun x=>.cons (kM x.1) (.cons (.str x.2) .nil)
 pre:=fun x=>kJ x.1/\okT x.2
 res:=fun x=>.tup (.cons (.agg (adL (adT x.1 x.2).1)) (.cons (.int .i64 (adT x.1 x.2).2) .nil))
 inst:=EV0.two rF oK
attribute [local irreducible] prV fdV vJ
def g25:List Nat:=[0,9,1,14,18,27,2,6,4,5]
def c25:aH :=
 .seq (.region g25 [(zo 2 (.box 30 (.s 0))),(zo 4 (.alloc 57 (.cons (.str []) (.cons (.str []) (.cons (.str []) (.cons (.str []) (.cons (.str []) (.cons (.int .i64 0) (.cons (.str []) (.cons (.int .i64 0) (.cons (.int .i64 0) (.cons (.int .i64 0) (.cons (.int .i64 0) .nil))))))))))))),(zo 5 (.move (cj 0)))]) (.seq (.seq (.region g25 [(zo 7 (.load 7 true (.s 2))),(zo 8 (.call (.c (.fn 24)) [.s 7])),(zo 9 (.not (.s 8)))]) (.cond (.s 9) (.seq (.region g25 [(zo 10 (.build (.cons (.str []) (.cons (.str []) (.cons (.str []) (.cons (.str []) (.cons (.str []) (.cons (.int .i64 0) (.cons (.str []) (.cons (.int .i64 0) (.cons (.int .i64 0) (.cons (.int .i64 0) (.cons (.int .i64 0) .nil))))))))))) [])),⟨none,none,.store 11 (.s 4) (.s 10),[]⟩,(zo 5 (.move (cj 1)))]) .ret) .skip)) (.seq (.region g25 [(zo 11 (.load 7 true (.s 2))),(mv 12 1),(zo 13 (.call (.c (.fn 37)) [.s 11,.s 12])),(mv 6 13)]) (.seq (.block 0 (.seq (.region g25 [(mv 15 6),(zo 16 (.bin (.lss) (.s 15) (cj 0))),(mv 14 16)]) (.cond (.s 14) (.seq (.region g25 [(zo 17 (.build (.cons (.str []) (.cons (.str []) (.cons (.str []) (.cons (.str []) (.cons (.str []) (.cons (.int .i64 0) (.cons (.str []) (.cons (.int .i64 0) (.cons (.int .i64 0) (.cons (.int .i64 0) (.cons (.int .i64 0) .nil))))))))))) [])),⟨none,none,.store 11 (.s 4) (.s 17),[]⟩,(zo 5 (.move (cj 10)))]) .ret) (.seq (.region g25 [(fa 19 3 2),(ld 20 19),(mv 21 6),(zo 22 (.idxSl 16 (.s 20) (.s 21))),(fa 23 11 22),(ld 24 23),(zo 25 (.bin (.neq) (.s 24) (cj (-1)))),(mv 18 25)]) (.cond (.s 18) (.seq (.region g25 [(zo 26 (.build (.cons (.str []) (.cons (.str []) (.cons (.str []) (.cons (.str []) (.cons (.str []) (.cons (.int .i64 0) (.cons (.str []) (.cons (.int .i64 0) (.cons (.int .i64 0) (.cons (.int .i64 0) (.cons (.int .i64 0) .nil))))))))))) [])),⟨none,none,.store 11 (.s 4) (.s 26),[]⟩,(zo 5 (.move (cj 11)))]) .ret) (.seq (.region g25 [(fa 28 3 2),(ld 29 28),(mv 30 6),(zo 31 (.idxSl 16 (.s 29) (.s 30))),(fa 32 15 31),(ld 33 32),(zo 34 (.bin (.neq) (.s 33) (.c (.str [])))),(mv 27 34)]) (.cond (.s 27) (.seq (.region g25 [(zo 35 (.build (.cons (.str []) (.cons (.str []) (.cons (.str []) (.cons (.str []) (.cons (.str []) (.cons (.int .i64 0) (.cons (.str []) (.cons (.int .i64 0) (.cons (.int .i64 0) (.cons (.int .i64 0) (.cons (.int .i64 0) .nil))))))))))) [])),⟨none,none,.store 11 (.s 4) (.s 35),[]⟩,(zo 5 (.move (cj 24)))]) .ret) .skip))))))) (.seq (.drawn g25 (.pure 0 (zo 36 (.load 7 true (.s 2))) (.pure 1 (fa 37 3 2) (.pure 2 (ld 38 37) (.pure 3 (mv 39 6) (.pure 4 (zo 40 (.idxSl 16 (.s 38) (.s 39))) (.pure 5 (zo 41 (.load 16 true (.s 40))) (.pure 6 (zo 42 (.call (.c (.fn 52)) [.s 36,.s 41])) (.eff 7 ⟨none,none,.store 11 (.s 4) (.s 42),[]⟩ [] (.pure 8 (zo 5 (.move (cj 0))) .done) .none))))))))) .ret))))
theorem e25:aI Tryz.prog 25 g25 [] [] []=some (c25,[.cell 4 11 true,.slot 5],43):=by kernel_rfl
set_option maxHeartbeats 8000000 in
theorem Pe:xZ.Ok Tryz.prog 25:=by
 refine Eng.Spec.okR e25 .nil (fun _=>[(24,.p prS),(37,.p fdS),(52,.p Ts)]) (fun _ _=>aA.p Oy (aA.p Dz (aA.p Pc aA.nil))) ?_
 rintro ⟨s,id⟩ ⟨(hs:kJ s),(ht:okT id)⟩
 have hfl:=H6 s id
 refine ⟨trivial,?_⟩
 generalize hR:xZ.res (s,id)=R
 repeat' (first|exact hs|apply And.intro|exact trivial|exact rfl|exact lz fun _=>rfl|exact S1.zz rfl|refine gd ?_)
 ·refine fun (hc:(!prV s)=true)=>?_
  have hp:prV s=false:=by simpa using hc
  have e:xZ.res (s,id)=.tup (.cons (.agg (adL adr0)) (.cons (.int .i64 1) .nil)):=by
   show SV.tup (.cons (.agg (adL (adT s id).1)) (.cons (.int .i64 (adT s id).2) .nil))=_
   have:adT s id=(adr0,1):=by unfold adT; rw [if_neg (by rw [hp]; decide)]
   rw [this]
  obtain rfl:=e.symm.trans hR
  repeat' (first|apply And.intro|exact trivial|exact rfl|exact lz fun _=>rfl|exact S1.zz rfl|refine gd ?_)
 refine fun (hc:(!prV s)=false)=>?_
 have hp:prV s=true:=by simpa using hc
 repeat' (first|exact hs.doors|exact ht|apply And.intro|exact trivial|exact rfl|exact lz fun _=>rfl|exact S1.zz rfl|refine gd ?_)
 ·refine fun (hc:decide (fdV s id < 0)=true)=>?_
  have hd:fdV s id < 0:=of_decide_eq_true hc
  have e:xZ.res (s,id)=.tup (.cons (.agg (adL adr0)) (.cons (.int .i64 10) .nil)):=by
   show SV.tup (.cons (.agg (adL (adT s id).1)) (.cons (.int .i64 (adT s id).2) .nil))=_
   have:adT s id=(adr0,10):=by unfold adT; rw [if_pos hp,if_pos hd]
   rw [this]
  obtain rfl:=e.symm.trans hR
  repeat' (first|apply And.intro|exact trivial|exact rfl|exact lz fun _=>rfl|exact S1.zz rfl|refine gd ?_)
 refine fun (hc:decide (fdV s id < 0)=false)=>?_
 have hd:¬ fdV s id < 0:=of_decide_eq_false hc
 have hd0:0<=fdV s id:=by omega
 have hdt:(fdV s id).toNat < s.doors.n:=by omega
 repeat' (first|exact And.intro hd0 hfl|apply And.intro|exact trivial|exact rfl|exact lz fun _=>rfl|exact S1.zz rfl|refine gd ?_)
 ·refine fun (hc:(!decide ((s.doors.f (fdV s id).toNat).ended=-1))=true)=>?_
  have he:¬ (s.doors.f (fdV s id).toNat).ended=-1:=by simpa using hc
  have e:xZ.res (s,id)=.tup (.cons (.agg (adL adr0)) (.cons (.int .i64 11) .nil)):=by
   show SV.tup (.cons (.agg (adL (adT s id).1)) (.cons (.int .i64 (adT s id).2) .nil))=_
   have:adT s id=(adr0,11):=by unfold adT; rw [if_pos hp,if_neg hd,if_neg he]
   rw [this]
  obtain rfl:=e.symm.trans hR
  repeat' (first|apply And.intro|exact trivial|exact rfl|exact lz fun _=>rfl|exact S1.zz rfl|refine gd ?_)
 refine fun (hc:(!decide ((s.doors.f (fdV s id).toNat).ended=-1))=false)=>?_
 have he:(s.doors.f (fdV s id).toNat).ended=-1:=by simpa using hc
 repeat' (first|exact And.intro hd0 hfl|apply And.intro|exact trivial|exact rfl|exact lz fun _=>rfl|exact S1.zz rfl|refine gd ?_)
 ·refine fun (hc:(!decide ((s.doors.f (fdV s id).toNat).veil=[]))=true)=>?_
  have hv:¬ (s.doors.f (fdV s id).toNat).veil=[]:=by simpa using hc
  have e:xZ.res (s,id)=.tup (.cons (.agg (adL adr0)) (.cons (.int .i64 24) .nil)):=by
   show SV.tup (.cons (.agg (adL (adT s id).1)) (.cons (.int .i64 (adT s id).2) .nil))=_
   have:adT s id=(adr0,24):=by unfold adT; rw [if_pos hp,if_neg hd,if_pos he,if_neg hv]
   rw [this]
  obtain rfl:=e.symm.trans hR
  repeat' (first|apply And.intro|exact trivial|exact rfl|exact lz fun _=>rfl|exact S1.zz rfl|refine gd ?_)
 refine fun (hc:(!decide ((s.doors.f (fdV s id).toNat).veil=[]))=false)=>?_
 have hv:(s.doors.f (fdV s id).toNat).veil=[]:=by simpa using hc
 have e:xZ.res (s,id)=.tup (.cons (.agg (adL (vJ s (s.doors.f (fdV s id).toNat)))) (.cons (.int .i64 0) .nil)):=by
  show SV.tup (.cons (.agg (adL (adT s id).1)) (.cons (.int .i64 (adT s id).2) .nil))=_
  have:adT s id=(vJ s (s.doors.f (fdV s id).toNat),0):=by unfold adT; rw [if_pos hp,if_neg hd,if_pos he,if_pos hv]
  rw [this]
 obtain rfl:=e.symm.trans hR
 repeat' (first|exact And.intro hd0 hfl|exact hs.regions|apply And.intro|exact trivial|exact rfl|exact lz fun _=>rfl|exact S1.zz rfl|refine gd ?_)
def Pd:Eng.bZ:=xZ.mof (Adr×Int) (fun x y=>y=adT x.1 x.2) (fun _ y=>.tup (.cons (.agg (adL y.1)) (.cons (.int .i64 y.2) .nil)))
theorem Dl:Pd.Ok Tryz.prog 25:=Eng.Spec.wM Pe fun x _=>⟨adT x.1 x.2,rfl,rfl⟩
theorem Lg {s:Sta} {id:B} (h:(adT s id).2=24):prV s=true/\0<=fdV s id/\(s.doors.f (fdV s id).toNat).ended=-1/\(s.doors.f (fdV s id).toNat).veil≠[]:=by
 unfold adT at h
 split at h
 ·rename_i h1
  split at h
  ·exact absurd h (by decide)
  ·rename_i h2
   split at h
   ·rename_i h3
    split at h
    ·exact absurd (show (0:Int)=24 from h) (by decide)
    ·rename_i h4; exact ⟨h1,by omega,h3,h4⟩
   ·exact absurd h (by decide)
 ·exact absurd h (by decide)
noncomputable def xM (l:Sq Of) (c:B):Int×Int:=(if vdV l=true then if svI l c=-1 then 0 else svI l c else 0,if vdV l=true then if svI l c=-1 then 10 else 0 else 1)
noncomputable def Sn:Eng.bZ:=Ss.mof (Int×Int) (fun x y=>y=xM x.1 x.2) (fun _ y=>.tup (.cons (.int .i64 y.1) (.cons (.int .i64 y.2) .nil)))
theorem Ef:Sn.Ok Tryz.prog 16:=Eng.Spec.wM Kk fun x _=>⟨xM x.1 x.2,rfl,rfl⟩
noncomputable def tgT (l:Sq Of) (s:Sta) (id:B):Int×Int :=
 if vdV l=true then if (adT s id).2=0 then xM l (adT s id).1.code else if (adT s id).2=24 then if (l.n:Int)<=(s.doors.f (fdV s id).toNat).office then (0,9) else ((s.doors.f (fdV s id).toNat).office,0) else (0,(adT s id).2) else (0,1)
noncomputable def Nw:Eng.Spec where
 X:=Sq Of×Sta×B
 args:=fun x=>.cons (ofE x.1) (.cons (kM x.2.1) (.cons (.str x.2.2) .nil))
 pre:=fun x=>(x.1.n<=1000000/\(x.1.n<=64->okO x.1))/\kJ x.2.1/\okT x.2.2
 res:=fun x=>.tup (.cons (.int .i64 (tgT x.1 x.2.1 x.2.2).1) (.cons (.int .i64 (tgT x.1 x.2.1 x.2.2).2) .nil))
 inst:=fun
  | .cons a (.cons b (.cons (.str c) _))=>match ofD a,rF b with
   | some l,some s=>some (l,s,c)
   | _,_=>none
  | _=>none
attribute [local irreducible] vdV adT
def g18:List Nat:=[1,13,21,8,20,29,4,2,0,42,10,9,6,7]
def c18:aH :=
 .seq (.region g18 [(zo 4 (.box 30 (.s 1))),(zo 6 (.move (cj 0))),(zo 7 (.move (cj 0)))]) (.seq (.seq (.region g18 [(mv 11 0),(zo 12 (.call (.c (.fn 20)) [.s 11])),(zo 13 (.not (.s 12)))]) (.cond (.s 13) (.seq (.region g18 [(zo 6 (.move (cj 0))),(zo 7 (.move (cj 1)))]) .ret) .skip)) (.seq (.region g18 [(zo 15 (.load 7 true (.s 4))),(mv 16 2),(zo 17 (.call (.c (.fn 25)) [.s 15,.s 16])),(mv 14 17),(zo 18 (.extract 0 (.s 14))),(zo 19 (.extract 1 (.s 14))),(zo 8 (.alloc 57 (.cons (.str []) (.cons (.str []) (.cons (.str []) (.cons (.str []) (.cons (.str []) (.cons (.int .i64 0) (.cons (.str []) (.cons (.int .i64 0) (.cons (.int .i64 0) (.cons (.int .i64 0) (.cons (.int .i64 0) .nil))))))))))))),⟨none,none,.store 11 (.s 8) (.s 18),[]⟩,(mv 9 19)]) (.seq (.seq (.region g18 [(mv 20 9)]) (.block 0 (.seq (.region g18 [(zo 22 (.bin (.eql) (.s 20) (cj 0))),(mv 21 22)]) (.cond (.s 21) (.seq (.region g18 [(mv 23 0),(fa 24 2 8),(ld 25 24),(zo 26 (.call (.c (.fn 16)) [.s 23,.s 25])),(zo 27 (.extract 0 (.s 26))),(zo 28 (.extract 1 (.s 26))),(mv 6 27),(mv 7 28)]) .ret) (.seq (.region g18 [(zo 30 (.bin (.eql) (.s 20) (cj 24))),(mv 29 30)]) (.cond (.s 29) (.seq (.drawn g18 (.pure 0 (fa 31 3 4) (.pure 1 (ld 32 31) (.pure 2 (zo 33 (.load 7 true (.s 4))) (.pure 3 (mv 34 2) (.pure 4 (zo 35 (.call (.c (.fn 37)) [.s 33,.s 34])) (.pure 5 (zo 36 (.idxSl 16 (.s 32) (.s 35))) (.pure 6 (fa 37 14 36) (.pure 7 (ld 38 37) (.pure 8 (mv 10 38) .done)))))))))) (.seq (.seq (.region g18 [(mv 39 10),(mv 40 0),(zo 41 (.lenSl (.s 40))),(zo 42 (.bin (.geq) (.s 39) (.s 41)))]) (.cond (.s 42) (.seq (.region g18 [(zo 6 (.move (cj 0))),(zo 7 (.move (cj 9)))]) .ret) .skip)) (.seq (.region g18 [(mv 43 10),(mv 6 43),(zo 7 (.move (cj 0)))]) .ret))) .skip)))))) (.seq (.region g18 [(mv 44 9),(zo 6 (.move (cj 0))),(mv 7 44)]) .ret))))
theorem e18:aI Tryz.prog 18 g18 [] [] []=some (c18,[.slot 6,.slot 7],45):=by kernel_rfl
set_option maxHeartbeats 8000000 in
theorem Kr:Nw.Ok Tryz.prog 18:=by
 refine Eng.Spec.okR e18 .nil (fun _=>[(20,.p vdS),(25,.m Pd),(16,.m Sn),(37,.p fdS)]) (fun _ _=>aA.p As (aA.m Dl (aA.m Ef (aA.p Dz aA.nil)))) ?_
 rintro ⟨l,s,id⟩ ⟨⟨(hn:l.n<=1000000),hok⟩,(hs:kJ s),(ht:okT id)⟩
 have hfl:=H6 s id
 refine ⟨trivial,?_⟩
 generalize hR:Nw.res (l,s,id)=R
 have hR':∀ p:Int×Int,tgT l s id=p->SV.tup (.cons (.int .i64 p.1) (.cons (.int .i64 p.2) .nil))=R:=fun p hp=>by rw [<- hp]; exact hR
 repeat' (first|exact hn|exact hok|apply And.intro|exact trivial|exact rfl|exact lz fun _=>rfl|exact S1.zz rfl|refine gd ?_)
 ·refine fun (hc:(!vdV l)=true)=>?_
  have hv:vdV l=false:=by simpa using hc
  have e:tgT l s id=(0,1):=by unfold tgT; rw [if_neg (by rw [hv]; decide)]
  obtain rfl:=hR' _ e
  repeat' (first|apply And.intro|exact trivial|exact rfl|exact lz fun _=>rfl|exact S1.zz rfl|refine gd ?_)
 refine fun (hc:(!vdV l)=false)=>?_
 have hv:vdV l=true:=by simpa using hc
 repeat' (first|apply And.intro|exact trivial|exact rfl|exact lz fun _=>rfl|exact S1.zz rfl|refine gd ?_)
 refine Exists.intro (s,id) (Exists.intro [] ?_)
 repeat' (first|exact hs|exact ht|apply And.intro|exact trivial|exact rfl|exact lz fun _=>rfl|exact S1.zz rfl|refine gd ?_)
 refine fun (y:Adr×Int) (hy:y=adT s id)=>?_
 repeat' (first|apply And.intro|exact trivial|exact rfl|exact lz fun _=>rfl|exact S1.zz rfl|refine gd ?_)
 ·refine fun (hc:decide (y.2=0)=true)=>?_
  have h0:(adT s id).2=0:=by rw [<- hy]; exact of_decide_eq_true hc
  repeat' (first|apply And.intro|exact trivial|exact rfl|exact lz fun _=>rfl|exact S1.zz rfl|refine gd ?_)
  refine Exists.intro (l,y.1.code) (Exists.intro [] ?_)
  repeat' (first|exact hn|exact hok|apply And.intro|exact trivial|exact rfl|exact lz fun _=>rfl|exact S1.zz rfl|refine gd ?_)
  refine fun (z:Int×Int) (hz:z=xM l y.1.code)=>?_
  have e:tgT l s id=z:=by unfold tgT; rw [if_pos hv,if_pos h0,hz,hy]
  obtain rfl:=hR' _ e
  repeat' (first|apply And.intro|exact trivial|exact rfl|exact lz fun _=>rfl|exact S1.zz rfl|refine gd ?_)
 refine fun (hc:decide (y.2=0)=false)=>?_
 have h0:¬ (adT s id).2=0:=by rw [<- hy]; exact of_decide_eq_false hc
 repeat' (first|apply And.intro|exact trivial|exact rfl|exact lz fun _=>rfl|exact S1.zz rfl|refine gd ?_)
 ·refine fun (hc:decide (y.2=24)=true)=>?_
  have h24:(adT s id).2=24:=by rw [<- hy]; exact of_decide_eq_true hc
  have hd0:=(Lg h24).2.1
  repeat' (first|exact And.intro hd0 hfl|exact hs.doors|exact ht|apply And.intro|exact trivial|exact rfl|exact lz fun _=>rfl|exact S1.zz rfl|refine gd ?_)
  ·refine fun (hc:decide ((l.n:Int)<=(s.doors.f (fdV s id).toNat).office)=true)=>?_
   have e:tgT l s id=(0,9):=by unfold tgT; rw [if_pos hv,if_neg h0,if_pos h24,if_pos (of_decide_eq_true hc)]
   obtain rfl:=hR' _ e
   repeat' (first|apply And.intro|exact trivial|exact rfl|exact lz fun _=>rfl|exact S1.zz rfl|refine gd ?_)
  ·refine fun (hc:decide ((l.n:Int)<=(s.doors.f (fdV s id).toNat).office)=false)=>?_
   have e:tgT l s id=((s.doors.f (fdV s id).toNat).office,0):=by unfold tgT; rw [if_pos hv,if_neg h0,if_pos h24,if_neg (of_decide_eq_false hc)]
   obtain rfl:=hR' _ e
   repeat' (first|apply And.intro|exact trivial|exact rfl|exact lz fun _=>rfl|exact S1.zz rfl|refine gd ?_)
 refine fun (hc:decide (y.2=24)=false)=>?_
 have h24:¬ (adT s id).2=24:=by rw [<- hy]; exact of_decide_eq_false hc
 have e:tgT l s id=(0,y.2):=by unfold tgT; rw [if_pos hv,if_neg h0,if_neg h24,hy]
 obtain rfl:=hR' _ e
 repeat' (first|apply And.intro|exact trivial|exact rfl|exact lz fun _=>rfl|exact S1.zz rfl|refine gd ?_)
end S33
