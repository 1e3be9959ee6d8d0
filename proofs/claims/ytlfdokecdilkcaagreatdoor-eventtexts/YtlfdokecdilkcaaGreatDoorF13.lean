/- A part of the proof. -/
import Derived.Test.YtlfdokecdilkcaaGreatDoorF6
import Derived.Test.YtlfdokecdilkcaaGreatDoorF12
import Derived.Lib.Join
section
open Go Go.Eng Go.Proofs G1 G2 G3 G4 G6 G7 EV0 N1 N2 F1 F2 F3 F4 F5 F6
set_option maxRecDepth 100000
namespace F11
def g26:List Nat:=[0]
def c26:aD :=
 .seq (.region g26 [(zo 0 (.alloc 55 (.cons (.str []) (.cons (.str []) (.cons (.str []) (.cons (.str []) (.cons (.str []) (.cons (.str []) (.cons (.str []) (.cons (.str []) (.cons (.str []) (.cons (.str []) (.cons (.str []) (.cons (.str []) (.cons (.str []) (.cons (.str []) (.cons (.str []) (.cons (.str []) .nil))))))))))))))))))]) (.seq (.region g26 [(zo 1 (.build (.cons (.str []) (.cons (.str []) (.cons (.str []) (.cons (.str []) (.cons (.str []) (.cons (.str []) (.cons (.str []) (.cons (.str []) (.cons (.str []) (.cons (.str []) (.cons (.str []) (.cons (.str []) (.cons (.str []) (.cons (.str []) (.cons (.str []) (.cons (.str []) .nil)))))))))))))))) [(0,1,.c (.str [])),(1,1,.c (.str [97,114,101,97])),(2,1,.c (.str [115,116,114,101,101,116])),(3,1,.c (.str [110,97,109,101])),(4,1,.c (.str [101,120,99,104,97,110,103,101])),(5,1,.c (.str [98,117,105,108,100])),(6,1,.c (.str [100,111,111,114])),(7,1,.c (.str [117,110,105,116])),(8,1,.c (.str [114,101,110,117,109,98,101,114])),(9,1,.c (.str [115,112,108,105,116])),(10,1,.c (.str [106,111,105,110])),(11,1,.c (.str [100,101,109,111,108,105,115,104])),(12,1,.c (.str [99,108,111,115,101])),(13,1,.c (.str [109,101,114,103,101])),(14,1,.c (.str [114,117,108,105,110,103])),(15,1,.c (.str [115,104,101,108,116,101,114]))])),⟨none,none,.store 16 (.s 0) (.s 1),[]⟩]) .ret)
def r26:List aR:=[.cell 0 16 true]
def k26:List (Nat×Nat×aD×Nat):=[]
theorem e26:aK Tryz.prog 26 g26 [] [] k26=some (c26,r26,2):=by kernel_rfl
theorem q26:aF Tryz.prog k26:=aF.nil
def bR:List B:=[[],[97,114,101,97],[115,116,114,101,101,116],[110,97,109,101],[101,120,99,104,97,110,103,101],[98,117,105,108,100],[100,111,111,114],[117,110,105,116],[114,101,110,117,109,98,101,114],[115,112,108,105,116],[106,111,105,110],[100,101,109,111,108,105,115,104],[99,108,111,115,101],[109,101,114,103,101],[114,117,108,105,110,103],[115,104,101,108,116,101,114]]
def Pl:List B->SV
 | []=>.nil
 | x::r=>.cons (.str x) (Pl r)
def Te:Eng.Spec where
 X:=Unit
 args:=fun _=>.nil
 pre:=fun _=>True
 res:=fun _=>.agg (Pl bR)
 inst:=fun _=>some ()
theorem Ln:Te.Ok Tryz.prog 26:=by
 refine Eng.Spec.okR e26 q26 (fun _=>[]) (fun _ _=>aA.nil) ?_
 rintro ⟨⟩ _
 refine ⟨trivial,?_⟩
 repeat' (first|apply And.intro|exact trivial|exact rfl)
def g31:List Nat:=[0,2]
def c31:aD :=
 .seq (.region g31 [(zo 2 (.move (.c (.str []))))]) (.seq (.region g31 [(zo 3 (.move (.s 0))),(zo 4 (.bin (.add) (.c (.str [34])) (.s 3))),(zo 5 (.bin (.add) (.s 4) (.c (.str [34])))),(zo 2 (.move (.s 5)))]) .ret)
def r31:List aR:=[.slot 2]
def k31:List (Nat×Nat×aD×Nat):=[]
theorem e31:aK Tryz.prog 31 g31 [] [] k31=some (c31,r31,6):=by kernel_rfl
theorem q31:aF Tryz.prog k31:=aF.nil
def kI (s:B):B:=([34]++s)++[34]
def Si:Eng.Spec where
 X:=B
 args:=fun s=>.cons (.str s) .nil
 pre:=fun s=>s.length<=1000000000
 res:=fun s=>.str (kI s)
 inst:=EV0.one yK
theorem Kg:Si.Ok Tryz.prog 31:=by
 refine Eng.Spec.okR e31 q31 (fun _=>[]) (fun _ _=>aA.nil) ?_
 rintro (s:B) (h:s.length<=1000000000)
 have m1:([34]:B).length+s.length<=9223372036854775807:=by show 1+_<=_; omega
 have m2:(([34]:B)++s).length+([34]:B).length<=9223372036854775807:=by simp; omega
 refine ⟨trivial,?_⟩
 repeat' (first|apply And.intro|exact trivial|exact rfl)
 ·exact m1
 ·exact m2
def g30:List Nat:=[0,1,2]
def c30:aD :=
 .seq (.region g30 [(zo 1 (.box 27 (.s 0))),(zo 2 (.move (.c (.str []))))]) (.seq (.drawn g30 (.pure 0 (zo 3 (.fldA 0 (.s 1))) (.pure 1 (zo 4 (.load 1 false (.s 3))) (.pure 2 (zo 5 (.call (.c (.fn 27)) [.s 4])) (.pure 3 (zo 6 (.bin (.add) (.s 5) (.c (.str [44])))) (.pure 4 (zo 7 (.fldA 1 (.s 1))) (.pure 5 (zo 8 (.load 1 false (.s 7))) (.pure 6 (zo 9 (.call (.c (.fn 27)) [.s 8])) (.pure 7 (zo 10 (.bin (.add) (.s 6) (.s 9))) (.pure 8 (zo 2 (.move (.s 10))) .done)))))))))) .ret)
def r30:List aR:=[.slot 2]
def k30:List (Nat×Nat×aD×Nat):=[]
theorem e30:aK Tryz.prog 30 g30 [] [] k30=some (c30,r30,11):=by kernel_rfl
theorem q30:aF Tryz.prog k30:=aF.nil
def dD (p:Pt):B:=(Lib.itoa p.1++[44])++Lib.itoa p.2
def V0:Eng.Spec where
 X:=Pt
 args:=fun p=>.cons (ptE p) .nil
 pre:=fun p=>(-9223372036854775808<=p.1/\p.1<=9223372036854775807)/\(-9223372036854775808<=p.2/\p.2<=9223372036854775807)
 res:=fun p=>.str (dD p)
 inst:=EV0.one ptD
theorem Sx:V0.Ok Tryz.prog 30:=by
 refine Eng.Spec.okR e30 q30 (fun _=>[(27,.p tA)]) (fun _ _=>aA.p V2.itoa aA.nil) ?_
 rintro ⟨x,y⟩ ⟨⟨(h1:-9223372036854775808<=x),(h2:x<=9223372036854775807)⟩,(h3:-9223372036854775808<=y),(h4:y<=9223372036854775807)⟩
 have l0:=Lib.itoa_length_le x h1 h2
 have l1:=Lib.itoa_length_le y h3 h4
 have m1:(Lib.itoa x).length+([44]:B).length<=9223372036854775807:=by simp; omega
 have m2:(Lib.itoa x++[44]).length+(Lib.itoa y).length<=9223372036854775807:=by simp; omega
 refine ⟨trivial,?_⟩
 repeat' (first|apply And.intro|exact trivial|exact rfl)
 ·exact h1
 ·exact h2
 ·exact m1
 ·exact h3
 ·exact h4
 ·exact m2
def g29:List Nat:=[0,1,3,2]
def c29:aD :=
 .seq (.region g29 [(zo 1 (.box 25 (.s 0))),(zo 2 (.move (.c (.str []))))]) (.seq (.region g29 [(zo 6 (.load 4 true (.s 1))),(zo 7 (.call (.c (.fn 65)) [.s 6])),(zo 5 (.move (.s 7))),(zo 8 (.extract 0 (.s 5))),(zo 9 (.extract 1 (.s 5))),(zo 3 (.move (.s 8))),(zo 4 (.move (.s 9)))]) (.seq (.region g29 [(zo 10 (.move (.s 3))),(zo 11 (.call (.c (.fn 31)) [.s 10])),(zo 2 (.move (.s 11)))]) .ret))
def r29:List aR:=[.slot 2]
def k29:List (Nat×Nat×aD×Nat):=[]
theorem e29:aK Tryz.prog 29 g29 [] [] k29=some (c29,r29,12):=by kernel_rfl
theorem q29:aF Tryz.prog k29:=aF.nil
def kV (h:Hn):B:=kI (if cE h=true then dI h else [])
def Ud:Eng.Spec where
 X:=Hn
 args:=fun h=>.cons (.agg (hnL h)) .nil
 pre:=fun h=>okT h.l
 res:=fun h=>.str (kV h)
 inst:=EV0.one hnD
theorem E7 {h:Hn} (h0:okT h.l) (hv:cE h=true):(dI h).length<=1000100:=by
 have hb:=uF hv
 have l0:=Lib.itoa_length_le h.n hb.1.1.1 hb.1.1.2
 have l1:=Lib.itoa_length_le h.num hb.1.2.1.1 hb.1.2.1.2
 have l2:=Lib.itoa_length_le h.den hb.1.2.2.1 hb.1.2.2.2
 replace h0:h.l.length<=1000000:=h0
 unfold dI
 split
 ·simp; omega
 ·simp; omega
theorem Q7:Ud.Ok Tryz.prog 29:=by
 refine Eng.Spec.okR e29 q29 (fun _=>[(65,.p S3),(31,.p Si)]) (fun _ _=>aA.p Lb (aA.p Kg aA.nil)) ?_
 rintro (h:Hn) (h0:okT h.l)
 have hl:(if cE h=true then dI h else []).length<=1000000000:=by
  split
  ·have:=E7 h0 (by assumption); omega
  ·exact Nat.zero_le _
 refine ⟨trivial,?_⟩
 repeat' (first|exact h0|apply And.intro|exact trivial|exact rfl)
 exact hl
def g28:List Nat:=[0,1]
def c28:aD :=
 .region g28 [(zo 3 (.load 1 false (.s 1))),(zo 4 (.move (.s 0))),(zo 5 (.app 9 1 16 (.s 3) (.s 4))),⟨none,none,.store 1 (.s 1) (.s 5),[]⟩]
def r28:List aR:=[]
def k28:List (Nat×Nat×aD×Nat):=[]
theorem e28:aK Tryz.prog 28 g28 [] [] k28=some (c28,r28,6):=by kernel_rfl
theorem q28:aF Tryz.prog k28:=aF.nil
def Vl:Eng.bJ where
 X:=List B×Sq B
 Y:=List B
 args:=fun x=>.cons (stE x.2) (.cons (.own 0 0) .nil)
 pre:=fun x=>x.1.length<=10000000/\x.2.n<=1000000
 h0:=fun x=>[(0,.cells 22 (.cons (.lsl 1 1 x.1.length) .nil)),(1,.arr 9 1 x.1.length fun j=>stL (x.1.getD j []))]
 nx0:=2
 post:=fun x y=>y=x.1++x.2.list
 res:=fun _ _=>.tup .nil
 h1:=fun _ y=>[(0,.cells 22 (.cons (.lsl 2 1 y.length) .nil)),(2,.arr 9 1 y.length fun j=>stL (y.getD j []))]
 nx1:=3
theorem gQ {T:Type} (s:Sq T):s.list.length=s.n:=by unfold Sq.list; simp
theorem Ah {T:Type} (s:Sq T) (d:T) {i:Nat} (h:i < s.n):s.list.getD i d=s.f i:=by
 unfold Sq.list
 rw [List.getD_eq_getElem?_getD,List.getElem?_map,List.getElem?_range h]
 rfl
theorem Sf:Vl.Ok Tryz.prog 28:=by
 refine Eng.bJ.okR e28 q28 (fun _=>[]) (fun _ _=>aA.nil) ?_
 rintro ⟨ws,s⟩ ⟨(h1:ws.length<=10000000),(h3:s.n<=1000000)⟩
 have e:ws.length+s.n=(ws++s.list).length:=by rw [List.length_append,gQ]
 refine ⟨trivial,?_⟩
 repeat' (first|apply And.intro|exact trivial|exact rfl|exact fun (j:Nat) (_:j < _)=>(rfl:eQ (stL _)=true)|exact lz fun _=>rfl)
 ·show ws.length+s.n<=9223372036854775807
  omega
 ·show (ws.length+s.n) * 16<=140737488355328
  omega
 refine Exists.intro (ws++s.list) ?_
 repeat' (first|apply And.intro|exact trivial|exact rfl|exact e)
 ·exact fun (j:Nat) (hj:j < ws.length+s.n)=>EL.aY (EL.Eu (g:=stL) (d:=[]) (L:=ws) (M:=s.list) (N:=ws++s.list) (fun i hi=>congrArg stL (Ah s [] (by rw [gQ] at hi; exact hi)).symm) rfl rfl (by rw [gQ]; exact hj)) (fD ..)
end F11
end
section
open Go Go.Eng Go.Proofs G1 G2 G3 G4 G6 G7 EV0 N1 N2 F1 F2 F3 F4 F5 F6 F7 F8 F9 F10 F11 F12
set_option maxRecDepth 100000
namespace F13
def kp (e:Ev):List B :=
 if e.kind=1 then [Lib.itoa e.a] else if e.kind=4 then [e.oth] else if e.kind=6 then [e.oth,e.txt,kV e.num,dD e.pt] else if e.kind=7 then [e.oth,kI e.txt] else
 if e.kind=10 then [kV e.num,dD e.pt] else if e.kind=13\/e.kind=14 then [Lib.itoa e.a,Lib.itoa e.b] else if e.kind=15 then [Lib.itoa e.off,e.txt] else []
def nmW (s:Sq Nm):Nat->List B
 | 0=>[]
 | i+1=>nmW s i++[(s.f i).lang,Lib.itoa (s.f i).script,kI (s.f i).text]
def enW (k:Int) (s:Sq En):Nat->List B
 | 0=>[]
 | i+1=>enW k s i++([(s.f i).id,kV (s.f i).num]++(if k=9 then [dD (s.f i).pt] else []))
def paW (s:Pts):Nat->List B
 | 0=>[]
 | i+1=>paW s i++[dD (s.p i)]
def w0 (e:Ev):List B:=[bR.getD e.kind.toNat [],Lib.itoa e.day]
def w1 (e:Ev):List B:=w0 e++(if e.id=[] then [] else [e.id])
def w2 (e:Ev):List B:=w1 e++kp e
def w3 (e:Ev):List B:=w2 e++nmW e.names e.names.n
def w4 (e:Ev):List B:=w3 e++enW e.kind e.list e.list.n
def w5 (e:Ev):List B:=w4 e++paW e.path e.path.n
def wl (e:Ev):List B:=w5 e++e.ids.list
theorem Nf:∀ (l:List B) (j:Nat),j < l.length->bI (rG l) j=stL (l.getD j []):=by
 intro l
 induction l with
 | nil=>intro j h; simp at h
 | cons a l ih =>
  intro j h
  cases j with
  | zero=>rfl
  | succ j=>exact ih j (by simpa using h)
theorem E1 {s:Sq Nm}:∀ {i:Nat},(nmW s i).length=3 * i:=by
 intro i
 induction i with
 | zero=>rfl
 | succ i ih=>simp only [nmW,List.length_append,ih,List.length_cons,List.length_nil]; omega
theorem Eb {k:Int} {s:Sq En}:∀ {i:Nat},(enW k s i).length<=3 * i:=by
 intro i
 induction i with
 | zero=>exact Nat.le_refl _
 | succ i ih =>
  simp only [enW,List.length_append,List.length_cons,List.length_nil]
  split <;> simp only [List.length_cons,List.length_nil] <;> omega
theorem mL {s:Pts}:∀ {i:Nat},(paW s i).length=i:=by
 intro i
 induction i with
 | zero=>rfl
 | succ i ih=>simp only [paW,List.length_append,ih,List.length_cons,List.length_nil]
theorem Rd (e:Ev):(kp e).length<=4:=by
 unfold kp
 repeat' split
 all_goals simp
theorem Lg (e:Ev):(w1 e).length<=3:=by
 unfold w1 w0
 simp only [List.length_append,List.length_cons,List.length_nil]
 split
 ·simp
 ·simp
theorem Lh (e:Ev):(w2 e).length<=7:=by
 have:=Rd e
 have:=Lg e
 unfold w2
 rw [List.length_append]
 omega
theorem Li {e:Ev} (h:FF e):(w3 e).length<=31:=by
 have:=Lh e
 have:=h.names
 unfold w3
 rw [List.length_append,E1]
 omega
theorem Lj {e:Ev} (h:FF e):(w4 e).length<=151:=by
 have:=Li h
 have:=h.list
 have:=Eb (k:=e.kind) (s:=e.list) (i:=e.list.n)
 unfold w4
 rw [List.length_append]
 omega
theorem Dy {e:Ev} (h:FF e):(w5 e).length<=191:=by
 have:=Lj h
 have:=h.path
 unfold w5
 rw [List.length_append,mL]
 omega
theorem tW {T:Type} {d:T} (l:List T):((List.range l.length).map fun i=>l.getD i d)=l:=by
 apply List.ext_getElem?
 intro i
 rw [List.getElem?_map]
 by_cases h:i < l.length
 ·rw [List.getElem?_range h,List.getElem?_eq_getElem h]
  simp [List.getD_eq_getElem?_getD,h]
 ·rw [List.getElem?_eq_none (by simpa using h),List.getElem?_eq_none (by simpa using h)]
  rfl
theorem oT {M:Nat}:∀ {W:List B},(∀ w∈W,w.length<=M)->(Lib.join W [32]).length<=W.length * (M+1):=by
 intro W
 induction W with
 | nil=>intro _; simp [Lib.join_nil]
 | cons x r ih =>
  intro h
  have h1:=ih fun w hw=>h w (by simp [hw])
  have h2:=h x (by simp)
  rw [List.length_cons,Nat.add_mul,Nat.one_mul]
  cases r with
  | nil=>rw [Lib.join_one]; omega
  | cons y r =>
   have e:Lib.join (x::y::r) [32]=x++([32]++Lib.join (y::r) [32]):=by simp [Lib.join,List.intercalate]
   rw [e]
   simp only [List.length_append,List.length_cons,List.length_nil] at h1 ⊢
   omega
theorem Fa (n:Nat):(bR.getD n []).length<=8:=by
 rw [List.getD_eq_getElem?_getD]
 by_cases h:n < 16
 ·have:∀ n,n < 16->((bR[n]?).getD []).length<=8:=by decide
  exact this n h
 ·rw [List.getElem?_eq_none (by show 16<=n; omega)]
  exact Nat.zero_le _
theorem rP (s:B):(kI s).length=s.length+2:=by unfold kI; simp
theorem Em {x:Hn} (h:okH x):(kV x).length<=1000200:=by
 unfold kV
 rw [rP]
 split
 ·have:=E7 h (by assumption); omega
 ·simp
theorem yH {p:Pt} (h:onB p=true):(dD p).length<=1000200:=by
 have h1:=As h
 have l0:=Lib.itoa_length_le p.1 h1.1.1 h1.1.2
 have l1:=Lib.itoa_length_le p.2 h1.2.1 h1.2.2
 unfold dD
 simp
 omega
theorem oR {n:Int} (h0:0<=n) (h1:n<=100000):(Lib.itoa n).length<=1000200:=by
 have:=Lib.itoa_length_le n (by omega) (by omega)
 omega
theorem V9 {e:Ev} (h:okV e) (ff:FF e):∀ w∈wl e,w.length<=1000200:=by
 have ok:∀ s:B,okT s->s.length<=1000200:=fun s hs=>by have:s.length<=1000000:=hs; omega
 have qk:∀ s:B,okT s->(kI s).length<=1000200:=fun s hs=>by have:s.length<=1000000:=hs; rw [rP]; omega
 have hk:∀ w∈kp e,w.length<=1000200:=by
  have i1:=oR ff.a.1 (by have:=ff.a.2; omega)
  have i2:=oR ff.b.1 (by have:=ff.b.2; omega)
  have i3:=oR ff.off.1 (by have:=ff.off.2; omega)
  have i4:=Em h.num
  have i5:=yH ff.pt
  have i6:=ok _ h.oth
  have i7:=ok _ h.txt
  have i8:=qk _ h.txt
  unfold kp
  repeat' split
  all_goals simp_all
 have hn:∀ i,i<=e.names.n->∀ w∈nmW e.names i,w.length<=1000200:=by
  intro i
  induction i with
  | zero=>intro _ w hw; cases hw
  | succ i ih =>
   intro hi w hw
   simp only [nmW,List.mem_append] at hw
   have s:=ff.scr i (by omega)
   rcases hw with hw|hw
   ·exact ih (by omega) w hw
   ·have o:=h.names.2 i (by omega)
    have i1:=ok _ o.1
    have i2:=qk _ o.2
    have i3:=oR s.1 (by have:=s.2; omega)
    simp at hw
    rcases hw with rfl|rfl|rfl <;> assumption
 have hl:∀ i,i<=e.list.n->∀ w∈enW e.kind e.list i,w.length<=1000200:=by
  intro i
  induction i with
  | zero=>intro _ w hw; cases hw
  | succ i ih =>
   intro hi w hw
   simp only [enW,List.mem_append] at hw
   have s:=yH (ff.lst i (by omega))
   have o:=h.list.2 i (by omega)
   have i1:=ok _ o.1
   have i2:=Em o.2
   rcases hw with hw|hw|hw
   ·exact ih (by omega) w hw
   ·simp at hw
    rcases hw with rfl|rfl <;> assumption
   ·split at hw
    ·simp at hw; subst hw; exact s
    ·cases hw
 have hp:∀ i,i<=e.path.n->∀ w∈paW e.path i,w.length<=1000200:=by
  intro i
  induction i with
  | zero=>intro _ w hw; cases hw
  | succ i ih =>
   intro hi w hw
   simp only [paW,List.mem_append] at hw
   rcases hw with hw|hw
   ·exact ih (by omega) w hw
   ·simp at hw; subst hw; exact yH (ff.pth i (by omega))
 intro w hw
 unfold wl w5 w4 w3 w2 w1 w0 at hw
 simp only [List.mem_append] at hw
 rcases hw with (((((hw|hw)|hw)|hw)|hw)|hw)|hw
 ·simp at hw
  rcases hw with rfl|rfl
  ·have:=Fa e.kind.toNat
   rw [List.getD_eq_getElem?_getD] at this
   omega
  ·exact oR ff.day.1 ff.day.2
 ·split at hw
  ·cases hw
  ·simp at hw; subst hw; exact ok _ h.id
 ·exact hk w hw
 ·exact hn _ (Nat.le_refl _) w hw
 ·exact hl _ (Nat.le_refl _) w hw
 ·exact hp _ (Nat.le_refl _) w hw
 ·unfold Sq.list at hw
  obtain ⟨i,hi,rfl⟩:=List.mem_map.1 hw
  exact ok _ (h.ids.2 i (List.mem_range.1 hi))
theorem M7 {e:Ev} (h:okV e) (ff:FF e):(Lib.join (wl e) [32]).length<=140737488355328:=by
 have h1:=oT (V9 h ff)
 have h2:(wl e).length<=199:=by
  have:=Dy ff
  have:=ff.ids
  unfold wl
  rw [List.length_append,gQ]
  omega
 have h3:(wl e).length * (1000200+1)<=199 * (1000200+1):=Nat.mul_le_mul_right _ h2
 omega
def cB (e:Ev):B:=if aS e=true then Lib.join (wl e) [32] else []
def Is:Eng.Spec where
 X:=Ev
 args:=fun e=>.cons (evE e) .nil
 pre:=okV
 res:=fun e=>.tup (.cons (.str (cB e)) (.cons (.int .i64 (if aS e=true then 0 else 1)) .nil))
 inst:=ev1
def g12:List Nat:=[0,14,26,34,42,49,64,74,85,33,97,109,111,108,7,110,128,130,127,143,9,129,153,155,152,11,154,5,1,4,2,3]
def c12:aD :=
 .seq (.region g12 [(zo 1 (.box 31 (.s 0))),(zo 2 (.move (.c (.str [])))),(zo 3 (.move (.c (.int .i64 0))))]) (.seq (.seq (.region g12 [(zo 12 (.load 18 true (.s 1))),(zo 13 (.call (.c (.fn 16)) [.s 12])),(zo 14 (.not (.s 13)))]) (.cond (.s 14) (.seq (.region g12 [(zo 2 (.move (.c (.str [])))),(zo 3 (.move (.c (.int .i64 1))))]) .ret) .skip)) (.seq (.join 0 [15,16,17,18,19,20,21,22,4] (.drawn g12 (.pure 0 (zo 15 (.call (.c (.fn 26)) [])) (.pure 1 (zo 16 (.fldA 0 (.s 1))) (.pure 2 (zo 17 (.load 1 false (.s 16))) (.pure 3 (zo 18 (.idxVal 16 1 false (.s 15) (.s 17))) (.pure 4 (zo 19 (.fldA 1 (.s 1))) (.pure 5 (zo 20 (.load 1 false (.s 19))) (.pure 6 (zo 21 (.call (.c (.fn 27)) [.s 20])) (.eff 7 (zo 22 (.buildSl 9 1 2 (.cons (.str []) .nil) [(0,1,.s 18),(1,1,.s 21)])) [] (.eff 8 (zo 4 (.alloc 22 (.cons (.nilsl) .nil))) [(zo 21 (.call (.c (.fn 27)) [.s 20])),(zo 20 (.load 1 false (.s 19))),(zo 17 (.load 1 false (.s 16))),(zo 15 (.call (.c (.fn 26)) []))] (.eff 9 ⟨none,none,.store 1 (.s 4) (.s 22),[]⟩ [] .done .none) .none) (.eff 8 (zo 4 (.alloc 22 (.cons (.nilsl) .nil))) [(zo 21 (.call (.c (.fn 27)) [.s 20])),(zo 20 (.load 1 false (.s 19))),(zo 17 (.load 1 false (.s 16))),(zo 15 (.call (.c (.fn 26)) []))] (.eff 7 (zo 22 (.buildSl 9 1 2 (.cons (.str []) .nil) [(0,1,.s 18),(1,1,.s 21)])) [] (.eff 9 ⟨none,none,.store 1 (.s 4) (.s 22),[]⟩ [] .done .none) .none) .none))))))))))) (.seq (.region g12 [(zo 23 (.mkfn 28 [.s 4])),(zo 5 (.move (.s 23)))]) (.seq (.seq (.region g12 [(zo 24 (.fldA 5 (.s 1))),(zo 25 (.load 1 false (.s 24))),(zo 26 (.bin (.neq) (.s 25) (.c (.str []))))]) (.join 1 [27,28,29,30,31] (.cond (.s 26) (.region g12 [(zo 27 (.move (.s 5))),(zo 28 (.fldA 5 (.s 1))),(zo 29 (.load 1 false (.s 28))),(zo 30 (.buildSl 9 1 1 (.cons (.str []) .nil) [(0,1,.s 29)])),(zo 31 (.call (.s 27) [.s 30]))]) .skip))) (.seq (.seq (.region g12 [(zo 32 (.fldA 0 (.s 1))),(zo 33 (.load 1 false (.s 32)))]) (.block 0 (.seq (.region g12 [(zo 35 (.bin (.eql) (.s 33) (.c (.int .i64 1)))),(zo 34 (.move (.s 35)))]) (.join 2 [36,37,38,39,40,41,43,42,44,45,46,47,48,50,49,51,52,53,54,55,56,57,58,59,60,61,62,63,65,64,66,67,68,69,70,71,72,73,75,74,76,77,78,79,80,81,82,83,84,86,87,85,88,89,90,91,92,93,94,95,96,98,97,99,100,101,102,103,104,105,106] (.cond (.s 34) (.region g12 [(zo 36 (.move (.s 5))),(zo 37 (.fldA 2 (.s 1))),(zo 38 (.load 1 false (.s 37))),(zo 39 (.call (.c (.fn 27)) [.s 38])),(zo 40 (.buildSl 9 1 1 (.cons (.str []) .nil) [(0,1,.s 39)])),(zo 41 (.call (.s 36) [.s 40]))]) (.seq (.region g12 [(zo 43 (.bin (.eql) (.s 33) (.c (.int .i64 4)))),(zo 42 (.move (.s 43)))]) (.cond (.s 42) (.region g12 [(zo 44 (.move (.s 5))),(zo 45 (.fldA 6 (.s 1))),(zo 46 (.load 1 false (.s 45))),(zo 47 (.buildSl 9 1 1 (.cons (.str []) .nil) [(0,1,.s 46)])),(zo 48 (.call (.s 44) [.s 47]))]) (.seq (.region g12 [(zo 50 (.bin (.eql) (.s 33) (.c (.int .i64 6)))),(zo 49 (.move (.s 50)))]) (.cond (.s 49) (.drawn g12 (.pure 0 (zo 51 (.move (.s 5))) (.pure 1 (zo 52 (.fldA 6 (.s 1))) (.pure 2 (zo 53 (.load 1 false (.s 52))) (.pure 3 (zo 54 (.fldA 7 (.s 1))) (.pure 4 (zo 55 (.load 1 false (.s 54))) (.pure 5 (zo 56 (.fldA 10 (.s 1))) (.pure 6 (zo 57 (.load 4 true (.s 56))) (.pure 7 (zo 58 (.call (.c (.fn 29)) [.s 57])) (.pure 8 (zo 59 (.fldA 14 (.s 1))) (.pure 9 (zo 60 (.load 2 true (.s 59))) (.pure 10 (zo 61 (.call (.c (.fn 30)) [.s 60])) (.pure 11 (zo 62 (.buildSl 9 1 4 (.cons (.str []) .nil) [(0,1,.s 53),(1,1,.s 55),(2,1,.s 58),(3,1,.s 61)])) (.eff 12 (zo 63 (.call (.s 51) [.s 62])) [] .done .none)))))))))))))) (.seq (.region g12 [(zo 65 (.bin (.eql) (.s 33) (.c (.int .i64 7)))),(zo 64 (.move (.s 65)))]) (.cond (.s 64) (.drawn g12 (.pure 0 (zo 66 (.move (.s 5))) (.pure 1 (zo 67 (.fldA 6 (.s 1))) (.pure 2 (zo 68 (.load 1 false (.s 67))) (.pure 3 (zo 69 (.fldA 7 (.s 1))) (.pure 4 (zo 70 (.load 1 false (.s 69))) (.pure 5 (zo 71 (.call (.c (.fn 31)) [.s 70])) (.pure 6 (zo 72 (.buildSl 9 1 2 (.cons (.str []) .nil) [(0,1,.s 68),(1,1,.s 71)])) (.eff 7 (zo 73 (.call (.s 66) [.s 72])) [] .done .none))))))))) (.seq (.region g12 [(zo 75 (.bin (.eql) (.s 33) (.c (.int .i64 10)))),(zo 74 (.move (.s 75)))]) (.cond (.s 74) (.drawn g12 (.pure 0 (zo 76 (.move (.s 5))) (.pure 1 (zo 77 (.fldA 10 (.s 1))) (.pure 2 (zo 78 (.load 4 true (.s 77))) (.pure 3 (zo 79 (.call (.c (.fn 29)) [.s 78])) (.pure 4 (zo 80 (.fldA 14 (.s 1))) (.pure 5 (zo 81 (.load 2 true (.s 80))) (.pure 6 (zo 82 (.call (.c (.fn 30)) [.s 81])) (.pure 7 (zo 83 (.buildSl 9 1 2 (.cons (.str []) .nil) [(0,1,.s 79),(1,1,.s 82)])) (.eff 8 (zo 84 (.call (.s 76) [.s 83])) [] .done .none)))))))))) (.seq (.seq (.region g12 [(zo 86 (.bin (.eql) (.s 33) (.c (.int .i64 13)))),(zo 85 (.move (.s 86)))]) (.cond (.s 85) .skip (.region g12 [(zo 87 (.bin (.eql) (.s 33) (.c (.int .i64 14)))),(zo 85 (.move (.s 87)))]))) (.cond (.s 85) (.drawn g12 (.pure 0 (zo 88 (.move (.s 5))) (.pure 1 (zo 89 (.fldA 2 (.s 1))) (.pure 2 (zo 90 (.load 1 false (.s 89))) (.pure 3 (zo 91 (.call (.c (.fn 27)) [.s 90])) (.pure 4 (zo 92 (.fldA 3 (.s 1))) (.pure 5 (zo 93 (.load 1 false (.s 92))) (.pure 6 (zo 94 (.call (.c (.fn 27)) [.s 93])) (.pure 7 (zo 95 (.buildSl 9 1 2 (.cons (.str []) .nil) [(0,1,.s 91),(1,1,.s 94)])) (.eff 8 (zo 96 (.call (.s 88) [.s 95])) [] .done .none)))))))))) (.seq (.region g12 [(zo 98 (.bin (.eql) (.s 33) (.c (.int .i64 15)))),(zo 97 (.move (.s 98)))]) (.cond (.s 97) (.drawn g12 (.pure 0 (zo 99 (.move (.s 5))) (.pure 1 (zo 100 (.fldA 4 (.s 1))) (.pure 2 (zo 101 (.load 1 false (.s 100))) (.pure 3 (zo 102 (.call (.c (.fn 27)) [.s 101])) (.pure 4 (zo 103 (.fldA 7 (.s 1))) (.pure 5 (zo 104 (.load 1 false (.s 103))) (.pure 6 (zo 105 (.buildSl 9 1 2 (.cons (.str []) .nil) [(0,1,.s 102),(1,1,.s 104)])) (.eff 7 (zo 106 (.call (.s 99) [.s 105])) [] .done .none))))))))) .skip))))))))))))))))) (.seq (.seq (.region g12 [(zo 107 (.fldA 9 (.s 1))),(zo 108 (.load 1 false (.s 107))),(zo 109 (.lenSl (.s 108))),(zo 110 (.move (.c (.int .i64 0))))]) (.block 1 (.loop 3 [111,112,113,7,114,115,116,117,118,119,120,121,122,123,124,125,110] (.seq (.region g12 [(zo 111 (.bin (.lss) (.s 110) (.s 109)))]) (.seq (.cond (.s 111) .skip (.exit 1)) (.seq (.block 2 (.seq (.region g12 [(zo 112 (.idxSl 3 (.s 108) (.s 110))),(zo 113 (.load 3 true (.s 112))),(zo 7 (.alloc 45 (.cons (.str []) (.cons (.int .i64 0) (.cons (.str []) .nil))))),⟨none,none,.store 3 (.s 7) (.s 113),[]⟩]) (.drawn g12 (.pure 0 (zo 114 (.move (.s 5))) (.pure 1 (zo 115 (.fldA 0 (.s 7))) (.pure 2 (zo 116 (.load 1 false (.s 115))) (.pure 3 (zo 117 (.fldA 1 (.s 7))) (.pure 4 (zo 118 (.load 1 false (.s 117))) (.pure 5 (zo 119 (.call (.c (.fn 27)) [.s 118])) (.pure 6 (zo 120 (.fldA 2 (.s 7))) (.pure 7 (zo 121 (.load 1 false (.s 120))) (.pure 8 (zo 122 (.call (.c (.fn 31)) [.s 121])) (.pure 9 (zo 123 (.buildSl 9 1 3 (.cons (.str []) .nil) [(0,1,.s 116),(1,1,.s 119),(2,1,.s 122)])) (.eff 10 (zo 124 (.call (.s 114) [.s 123])) [] .done .none)))))))))))))) (.region g12 [(zo 125 (.bin (.add) (.s 110) (.c (.int .i64 1)))),(zo 110 (.move (.s 125)))]))))))) (.seq (.seq (.region g12 [(zo 126 (.fldA 17 (.s 1))),(zo 127 (.load 1 false (.s 126))),(zo 128 (.lenSl (.s 127))),(zo 129 (.move (.c (.int .i64 0))))]) (.block 3 (.loop 4 [130,131,132,9,133,134,135,136,137,138,139,140,141,142,143,144,145,146,147,148,149,150,129] (.seq (.region g12 [(zo 130 (.bin (.lss) (.s 129) (.s 128)))]) (.seq (.cond (.s 130) .skip (.exit 3)) (.seq (.block 4 (.seq (.region g12 [(zo 131 (.idxSl 7 (.s 127) (.s 129))),(zo 132 (.load 7 true (.s 131))),(zo 9 (.alloc 47 zEn)),⟨none,none,.store 7 (.s 9) (.s 132),[]⟩]) (.seq (.drawn g12 (.pure 0 (zo 133 (.move (.s 5))) (.pure 1 (zo 134 (.fldA 0 (.s 9))) (.pure 2 (zo 135 (.load 1 false (.s 134))) (.pure 3 (zo 136 (.fldA 1 (.s 9))) (.pure 4 (zo 137 (.load 4 true (.s 136))) (.pure 5 (zo 138 (.call (.c (.fn 29)) [.s 137])) (.pure 6 (zo 139 (.buildSl 9 1 2 (.cons (.str []) .nil) [(0,1,.s 135),(1,1,.s 138)])) (.eff 7 (zo 140 (.call (.s 133) [.s 139])) [] .done .none))))))))) (.seq (.region g12 [(zo 141 (.fldA 0 (.s 1))),(zo 142 (.load 1 false (.s 141))),(zo 143 (.bin (.eql) (.s 142) (.c (.int .i64 9))))]) (.join 5 [144,145,146,147,148,149] (.cond (.s 143) (.region g12 [(zo 144 (.move (.s 5))),(zo 145 (.fldA 5 (.s 9))),(zo 146 (.load 2 true (.s 145))),(zo 147 (.call (.c (.fn 30)) [.s 146])),(zo 148 (.buildSl 9 1 1 (.cons (.str []) .nil) [(0,1,.s 147)])),(zo 149 (.call (.s 144) [.s 148]))]) .skip)))))) (.region g12 [(zo 150 (.bin (.add) (.s 129) (.c (.int .i64 1)))),(zo 129 (.move (.s 150)))]))))))) (.seq (.seq (.region g12 [(zo 151 (.fldA 16 (.s 1))),(zo 152 (.load 1 false (.s 151))),(zo 153 (.lenSl (.s 152))),(zo 154 (.move (.c (.int .i64 0))))]) (.block 5 (.loop 6 [155,156,157,11,158,159,160,161,162,163,154] (.seq (.region g12 [(zo 155 (.bin (.lss) (.s 154) (.s 153)))]) (.seq (.cond (.s 155) .skip (.exit 5)) (.seq (.block 6 (.seq (.region g12 [(zo 156 (.idxSl 2 (.s 152) (.s 154))),(zo 157 (.load 2 true (.s 156))),(zo 11 (.alloc 27 zPt)),⟨none,none,.store 2 (.s 11) (.s 157),[]⟩]) (.region g12 [(zo 158 (.move (.s 5))),(zo 159 (.load 2 true (.s 11))),(zo 160 (.call (.c (.fn 30)) [.s 159])),(zo 161 (.buildSl 9 1 1 (.cons (.str []) .nil) [(0,1,.s 160)])),(zo 162 (.call (.s 158) [.s 161]))]))) (.region g12 [(zo 163 (.bin (.add) (.s 154) (.c (.int .i64 1)))),(zo 154 (.move (.s 163)))]))))))) (.seq (.region g12 [(zo 164 (.move (.s 5))),(zo 165 (.fldA 8 (.s 1))),(zo 166 (.load 1 false (.s 165))),(zo 167 (.call (.s 164) [.s 166]))]) (.seq (.region g12 [(zo 168 (.load 1 false (.s 4))),(zo 169 (.call (.c (.fn 32)) [.s 168,.c (.str [32])])),(zo 2 (.move (.s 169))),(zo 3 (.move (.c (.int .i64 0))))]) .ret))))))))))
def r12:List aR:=[.slot 2,.slot 3]
def k12:List (Nat×Nat×aD×Nat):=[]
theorem e12:aK Tryz.prog 12 g12 [1000003,1,2,12] [22,63,73,84,96,106,124,140] k12=some (c12,r12,170):=by kernel_rfl
theorem q12:aF Tryz.prog k12:=aF.nil
def tab12:List (Nat×cK):=[(16,.p I7),(26,.p Te),(27,.p tA),(28,.m Vl),(29,.p Ud),(30,.p V0),(31,.p Si),(32,.p vL)]
end F13
end
