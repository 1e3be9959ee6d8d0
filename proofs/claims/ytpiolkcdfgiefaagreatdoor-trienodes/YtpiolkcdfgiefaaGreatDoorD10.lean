/- A part of the proof. -/
import Derived.Test.YtpiolkcdfgiefaaGreatDoorT31
import Derived.Test.YtpiolkcdfgiefaaGreatDoorT28
section
open Go Go.Eng Go.Proofs A0 T1 T2 T3 T4 T5 T6 T13 T14 T28 T29 T30 T31
set_option maxRecDepth 100000
namespace T32
theorem bJ {k:Keep} {hp:List (Nat×aC)} (st:Nat->Option Obj) (i:Nat):dF k hp (nN st i) (nN st i):=by
 unfold nN
 cases st i with
 | none=>exact rfl
 | some o=>exact rfl
theorem aJ {k:Keep} {hp:List (Nat×aC)} (st:Nat->Option Obj) (i:Nat):dF k hp (aN st i) (aN st i):=by
 unfold aN
 cases st i with
 | none=>exact rfl
 | some o=>exact rfl
def g48:List Nat:=[0,1,2,3,4]
def c48:aF :=
 .seq (.region g48 [(zo 2 (.box 61 (.s 0))),(zo 3 (.box 9 (.s 1))),(zo 4 (.move (.c (.nilfn))))]) (.seq (.region g48 [(zo 5 (.mkfn 72 [.s 2,.s 3])),(mv 4 5)]) .ret)
theorem e48:aO Tryz.prog 48 g48 [] [] []=some (c48,[.slot 4],6):=by kernel_rfl
def Rv:aK where
 X:=(Nat->NO)×Nat×B
 Y:=Unit
 args:=fun x=>.cons (.fown 0 x.2.1 0) (.cons (.str x.2.2) .nil)
 pre:=fun _=>True
 h0:=fun x=>[(0,.fam fun q=>noO 0 (x.1 q))]
 nx0:=1
 post:=fun _ _=>True
 res:=fun x _=>.fn 72 (caps x.2.1 x.2.2)
 h1:=fun x _=>[(0,.fam fun q=>noO 0 (x.1 q))]
 nx1:=1
theorem J7:Rv.Ok Tryz.prog 48:=by
 refine Eng.aK.okR e48 .nil (fun _=>[]) (fun _ _=>aD.nil) ?_
 rintro ⟨N,v,t⟩ _
 refine ⟨trivial,?_⟩
 repeat' (first|apply And.intro|exact trivial|exact rfl|exact zm N rfl|exact zf|exact zh|refine zt ?_|fail)
 refine Exists.intro () ?_
 repeat' (first|apply And.intro|exact trivial|exact rfl|exact zm N rfl|exact zf|exact zh|refine zt ?_|fail)
def g72:List Nat:=[0,13,15,12,5,23,14,27,29,26,1,2,7,43,44,3,8,48,28]
def c72:aF :=
 .seq (.region g72 [(zo 3 (.box 60 (.s 0)))]) (.seq (.seq (.region g72 [(ld 9 1),(zo 10 (.nilCheck (.s 9))),(fa 11 0 10),(ld 12 11),(zo 13 (.lenSl (.s 12))),(zo 14 (.move (cj 0)))]) (.block 0 (.loop 0 [15,16,17,5,18,19,20,21,22,23,24,14] (.seq (.region g72 [(zo 15 (.bin (.lss) (.s 14) (.s 13)))]) (.seq (.cond (.s 15) .skip (.exit 0)) (.seq (.block 1 (.seq (.region g72 [(zo 16 (.idxSl 1 (.s 12) (.s 14))),(ld 17 16),(mv 5 17)]) (.seq (.region g72 [(ld 18 3),(ld 19 2),(mv 20 5),(zo 21 (.build (.cons (.str []) (.cons (.str []) .nil)) [(0,1,.s 19),(1,1,.s 20)])),(zo 22 (.call (.s 18) [.s 21])),(zo 23 (.not (.s 22)))]) (.cond (.s 23) .ret .skip)))) (.region g72 [(zo 24 (.bin (.add) (.s 14) (cj 1))),(mv 14 24)]))))))) (.seq (.region g72 [(ld 25 1),(zo 26 (.call (.c (.fn 73)) [.s 25])),(zo 27 (.lenSl (.s 26))),(zo 28 (.move (cj 0)))]) (.block 2 (.loop 1 [29,30,31,7,32,33,34,35,36,37,38,39,40,41,42,43,49,28] (.seq (.region g72 [(zo 29 (.bin (.lss) (.s 28) (.s 27)))]) (.seq (.cond (.s 29) .skip (.exit 2)) (.seq (.block 3 (.seq (.region g72 [(zo 30 (.idxSl 1 (.s 26) (.s 28))),(ld 31 30),(mv 7 31)]) (.seq (.join 2 [32,33,34,35,36,37,38,39,40,41,42,43] (.drawn g72 (.pure 0 (ld 32 1) (.pure 1 (zo 33 (.nilCheck (.s 32))) (.pure 2 (fa 34 1 33) (.pure 4 (mv 36 7) (.pure 6 (ld 38 2) (.pure 7 (mv 39 7) (.pure 8 (zo 40 (.cnv (.i32) (.s 39))) (.pure 9 (zo 41 (.runeS (.s 40))) (.pure 10 (zo 42 (.bin (.add) (.s 38) (.s 41))) (.eff 3 (ld 35 34) [(ld 38 2)] (.eff 5 (zo 37 (.mlook (.nilptr) false (.i (.u8)) (.s 35) (.s 36))) [(ld 38 2)] (.eff 11 (zo 43 (.call (.c (.fn 48)) [.s 37,.s 42])) [] .done .none) .none) .none)))))))))))) (.block 4 (.rangeY (.s 43) [44] (.region g72 [(zo 8 (.alloc 32 (.cons (.str []) (.cons (.str []) .nil)))),⟨none,none,.store 2 (.s 8) (.s 44),[]⟩]) (.block 5 (.seq (.region g72 [(ld 45 3),(zo 46 (.load 2 true (.s 8))),(zo 47 (.call (.s 45) [.s 46])),(zo 48 (.not (.s 47)))]) (.cond (.s 48) .ret .skip)))))))) (.region g72 [(zo 49 (.bin (.add) (.s 28) (cj 1))),(mv 28 49)]))))))))
theorem e72:aO Tryz.prog 72 g72 [1000000,1000001,1000002,1000003,1000004,1000005,1000006,1000007,1000008,1000009,1000010,1000011,1000012] [35,43] []=some (c72,[],50):=by kernel_rfl
theorem it0:(Hy 0).Ok Tryz.prog 72:=by
 refine ⟨nV e72,?_⟩
 intro x w μ vs T U r0 l st0 J _ _ _ _ hp
 have:=Ei x.T
 have:=hp.ht
 omega
theorem item1 {t:B} {ids:List B} {k:TK} {j:Nat} (h:j < ids.length):((bS t (.node ids k)).map mJ)[j]?=some (mJ (t,ids.getD j [])):=by
 simp only [bS,List.map_append,List.map_map]
 rw [List.getElem?_append_left (by simpa using h),List.getElem?_map,List.getElem?_eq_getElem h,List.getD_eq_getElem?_getD,List.getElem?_eq_getElem h]
 rfl
theorem Vb {A ids:List B} (h:A.take ids.length=ids) {j:Nat} (hj:j < ids.length):A.getD (j:Int).toNat []=ids.getD j []:=by
 rw [Int.toNat_natCast,List.getD_eq_getElem?_getD,List.getD_eq_getElem?_getD]
 congr 1
 rw [<- List.getElem?_take_of_lt hj,h]
def oM (t:B) (k:TK) (j:Nat):Nat:=(((bB k).take j).flatMap fun p=>bS (t++[p.1]) p.2).length
theorem byte_at {k:TK} {j:Nat} {b:UInt8} {s:TT} (h:(bB k)[j]?=some (b,s)):(bsI (aP k)).getD (0+(j:Int).toNat) 0=bI b:=by
 rw [Nat.zero_add,Int.toNat_natCast,List.getD_eq_getElem?_getD]
 unfold bsI
 rw [iU,List.getElem?_map,List.getElem?_map,h]
 rfl
theorem Lr {t:B} {ids:List B} {k:TK} {j i:Nat} {b:UInt8} {s:TT} {p:B×B} (h:(bB k)[j]?=some (b,s)) (hi:(bS (t++[b]) s)[i]?=some p) :
  ((bS t (.node ids k)).map mJ)[ids.length+oM t k j+i]?=some (mJ p):=by
 rw [List.getElem?_map]
 have hj:j < (bB k).length:=(List.getElem?_eq_some_iff.1 h).1
 have e:(bB k)=(bB k).take j++(b,s)::(bB k).drop (j+1):=by
  have h2:(bB k)[j]=(b,s):=(List.getElem?_eq_some_iff.1 h).2
  rw [<- h2,List.getElem_cons_drop,List.take_append_drop]
 have hlt:i < (bS (t++[b]) s).length:=(List.getElem?_eq_some_iff.1 hi).1
 have key:(bS t (.node ids k))[ids.length+oM t k j+i]?=some p:=by
  simp only [bS]
  rw [uU,List.getElem?_append_right (by simp; omega)]
  rw [e,List.flatMap_append,List.flatMap_cons]
  unfold oM
  rw [List.getElem?_append_right (by simp; omega),List.getElem?_append_left (by simp; omega),<- hi]
  congr 1
  simp
  omega
 rw [key]
 rfl
theorem Mm {t:B} {k:TK} {j:Nat} {b:UInt8} {s:TT} (h:(bB k)[j]?=some (b,s)):oM t k (j+1)=oM t k j+(bS (t++[b]) s).length:=by
 unfold oM
 have hj:j < (bB k).length:=(List.getElem?_eq_some_iff.1 h).1
 have h2:(bB k)[j]=(b,s):=(List.getElem?_eq_some_iff.1 h).2
 rw [List.take_succ_eq_append_getElem hj,h2,List.flatMap_append,List.length_append]
 simp
theorem Px {t:B} {ids:List B} {k:TK}:ids.length+oM t k (bB k).length=((bS t (.node ids k)).map mJ).length:=by
 unfold oM
 rw [List.take_length,<- uU]
 simp [bS]
theorem it1 {n:Nat} (ih:(Hy n).Ok Tryz.prog 72):(Hy (n+1)).Ok Tryz.prog 72:=by
 refine mV.okR e72 .nil (fun _=>[(73,.m R5),(48,.m Rv),(72,.y (Hy n))]) (fun _ _=>aD.m Kh (aD.m J7 (aD.y ih aD.nil))) ?_
 rintro ⟨N,T,v,t⟩ ⟨⟨D,F,hrep⟩,hwf,hsz,htk,hlow,hht,hln⟩
 cases T with
 | node ids k =>
 refine ⟨trivial,?_⟩
 intro G st hG
 repeat' (first|apply And.intro|exact trivial|exact rfl|exact zm N rfl|exact zr N rfl rfl|exact fun (i:Nat)=>bJ _ i|exact fun (i:Nat)=>aJ _ i|exact zf|exact zh|refine zt ?_|fail)
 replace hsz:ids.length+szK k<=12:=hsz
 replace hht:htK k+1<=n+1:=hht
 replace hln:t.length+(htK k+1)<=1000000:=hln
 replace hwf:Srt ids/\Sb (aP k)/\wfK k:=hwf
 replace hlow:E3 k:=hlow
 replace htk:∀ i l q,N i=.map l q->Tk l q:=htk
 replace hrep:dG D N (.node ids k) v F:=hrep
 have hkl:(aP k).length<=12:=by have:=nG hwf.2.2; rw [iU,List.length_map]; omega
 obtain ⟨a,m,mk,l,q,H,hnv,hlst,hmp,_,hpm,hrk,_⟩:=hrep
 refine Exists.intro (noO 0 (.node a ids.length m ((ids.length+szK k:Nat):Int) mk)) (And.intro (congrArg (noO 0) hnv) ?_)
 repeat' (first|apply And.intro|exact trivial|exact rfl|exact zm N rfl|exact zr N rfl rfl|exact fun (i:Nat)=>bJ _ i|exact fun (i:Nat)=>aJ _ i|exact zf|exact zh|refine zt ?_|fail)
 refine ⟨⟨Nat×(Nat->Option Obj),fun x=>x.1<=ids.length/\G x.1 x.2,fun x=>[(14,.int .i64 (x.1:Int))],fun x=>[(1,.fam (nN x.2))],fun x=>ids.length - x.1⟩,(0,st),⟨Nat.zero_le _,hG⟩,?_,?_⟩
 ·repeat' (first|apply And.intro|exact trivial|exact rfl|exact zm N rfl|exact zr N rfl rfl|exact fun (i:Nat)=>bJ _ i|exact fun (i:Nat)=>aJ _ i|exact zf|exact zh|refine zt ?_|fail)
 rintro ⟨j,st⟩ ⟨(hj:j<=ids.length),(hG:G j st)⟩
 repeat' (first|apply And.intro|exact trivial|exact rfl|exact zm N rfl|exact zr N rfl rfl|exact fun (i:Nat)=>bJ _ i|exact fun (i:Nat)=>aJ _ i|exact zf|exact zh|refine zt ?_|fail)
 ·refine fun (hlt:decide ((j:Int) < (ids.length:Int))=true)=>?_
  replace hlt:j < ids.length:=by have:=of_decide_eq_true hlt; omega
  rcases hlst with ⟨_,h0⟩|⟨A,hA,hA0,hA1,hA2⟩
  ·rw [h0] at hlt; exact absurd hlt (Nat.not_lt_zero _)
  have g0:(0:Int)<=(j:Int):=by omega
  have g1:(j:Int) < (ids.length:Int):=by omega
  repeat' (first|apply And.intro|exact trivial|exact rfl|exact zm N rfl|exact zr N rfl rfl|exact fun (i:Nat)=>bJ _ i|exact fun (i:Nat)=>aJ _ i|exact zf|exact zh|refine zt ?_|(with_reducible first|exact g0|exact g1)|fail)
  refine Exists.intro (noO 0 (.arr A)) (And.intro (congrArg (noO 0) hA) ?_)
  repeat' (first|apply And.intro|exact trivial|exact rfl|exact zm N rfl|exact zr N rfl rfl|exact fun (i:Nat)=>bJ _ i|exact fun (i:Nat)=>aJ _ i|exact zf|exact zh|refine zt ?_|(with_reducible first|exact g0|exact g1)|fail)
  ·show (j:Int).toNat < A.length
   omega
  refine Exists.intro j (Exists.intro st (Exists.intro (mJ (t,ids.getD j [])) (And.intro hG (And.intro rfl (And.intro (item1 hlt) (And.intro ?_ ?_))))))
  ·repeat' (first|apply And.intro|exact trivial|exact rfl|exact Vb hA2 hlt|fail)
  refine fun (st':Nat->Option Obj) (hG':G (j+1) st')=>?_
  have g4:j+1<=ids.length:=hlt
  have g5:ids.length - (j+1) < ids.length - j:=by omega
  have g2:-9223372036854775808<=(j:Int)+1:=by omega
  have g3:(j:Int)+1<=9223372036854775807:=by omega
  repeat' (first|apply And.intro|exact trivial|exact rfl|exact zm N rfl|exact zr N rfl rfl|exact fun (i:Nat)=>bJ _ i|exact fun (i:Nat)=>aJ _ i|exact zf|exact zh|refine zt ?_|(with_reducible first|exact g2|exact g3)|fail)
  refine Exists.intro (j+1,st') (And.intro ⟨g4,hG'⟩ (And.intro ?_ g5))
  repeat' (first|apply And.intro|exact trivial|exact rfl|exact zm N rfl|exact zr N rfl rfl|exact fun (i:Nat)=>bJ _ i|exact fun (i:Nat)=>aJ _ i|exact zf|exact zh|refine zt ?_|fail)
 ·refine fun (hlt:decide ((j:Int) < (ids.length:Int))=false)=>?_
  replace hlt:j=ids.length:=by have:=of_decide_eq_false hlt; omega
  repeat' (first|apply And.intro|exact trivial|exact rfl|exact zm N rfl|exact zr N rfl rfl|exact fun (i:Nat)=>bJ _ i|exact fun (i:Nat)=>aJ _ i|exact zf|exact zh|refine zt ?_|fail)
  refine Exists.intro ⟨N,v,a,ids.length,m,((ids.length+szK k:Nat):Int),mk,l,q,aP k⟩ (Exists.intro [0] ?_)
  have hb:BOk ⟨N,v,a,ids.length,m,((ids.length+szK k:Nat):Int),mk,l,q,aP k⟩:=⟨hnv,hmp,htk _ _ _ hmp,hpm,hwf.2.1,hkl⟩
  repeat' (first|exact hb|apply And.intro|exact trivial|exact rfl|exact zm N rfl|exact zr N rfl rfl|exact fun (i:Nat)=>bJ _ i|exact fun (i:Nat)=>aJ _ i|exact zf|exact zh|refine zt ?_|fail)
  refine fun (_:Unit) (_:True)=>?_
  repeat' (first|apply And.intro|exact trivial|exact rfl|exact zm N rfl|exact zr N rfl rfl|exact fun (i:Nat)=>bJ _ i|exact fun (i:Nat)=>aJ _ i|exact zf|exact zh|refine zt ?_|fail)
  subst hlt
  refine ⟨⟨Nat×(Nat->Option Obj),fun x=>x.1<=(bB k).length/\G (ids.length+oM t k x.1) x.2,fun x=>[(28,.int .i64 (x.1:Int))],fun x=>[(0,.fam fun q=>noO 0 (N q)),(1,.fam (nN x.2)),(4,.arr 5 1 (aP k).length (lc bE 0 (bsI (aP k))))],fun x=>(bB k).length - x.1⟩,(0,st),⟨Nat.zero_le _,hG⟩,?_,?_⟩
  ·repeat' (first|apply And.intro|exact trivial|exact rfl|exact zm N rfl|exact zr N rfl rfl|exact fun (i:Nat)=>bJ _ i|exact fun (i:Nat)=>aJ _ i|exact zf|exact zh|refine zt ?_|exact cG (fun a=>aW _ _ _ a)|exact bG (fun a=>aW _ _ _ a)|fail)
  rintro ⟨j,st⟩ ⟨(hj:j<=(bB k).length),(hG:G (ids.length+oM t k j) st)⟩
  repeat' (first|apply And.intro|exact trivial|exact rfl|exact zm N rfl|exact zr N rfl rfl|exact fun (i:Nat)=>bJ _ i|exact fun (i:Nat)=>aJ _ i|exact zf|exact zh|refine zt ?_|exact cG (fun a=>aW _ _ _ a)|exact bG (fun a=>aW _ _ _ a)|fail)
  ·refine fun (hlt:decide ((j:Int) < ((aP k).length:Int))=true)=>?_
   have hbl:(aP k).length=(bB k).length:=by rw [iU,List.length_map]
   replace hlt:j < (bB k).length:=by have:=of_decide_eq_true hlt; omega
   obtain ⟨b,s,hbs⟩:∃ b s,(bB k)[j]?=some (b,s):=⟨_,_,List.getElem?_eq_getElem hlt⟩
   have hmem:=List.mem_of_getElem? hbs
   obtain ⟨f1,f2,f3,f4,f5⟩:=oA hmem hwf.2.2 hlow
   obtain ⟨u,τ,G1,G2,hmg,hru,_⟩:=jX hrk (qJ hwf.2.1 hmem) hwf.2.1
   have hbv:(bsI (aP k)).getD (0+(j:Int).toNat) 0=bI b:=byte_at hbs
   have g0:(0:Int)<=(j:Int):=by omega
   have g1:(j:Int) < ((aP k).length:Int):=by omega
   have g2:0+(j:Int).toNat < (aP k).length:=by omega
   have hbI:0<=bI b/\bI b < 128:=by unfold bI; omega
   have q1:-2147483648<=(bsI (aP k)).getD (0+(j:Int).toNat) 0:=by rw [hbv]; omega
   have q2:(bsI (aP k)).getD (0+(j:Int).toNat) 0<=2147483647:=by rw [hbv]; omega
   have q3:0<=(bsI (aP k)).getD (0+(j:Int).toNat) 0:=by rw [hbv]; omega
   have q4:(bsI (aP k)).getD (0+(j:Int).toNat) 0 < 128:=by rw [hbv]; omega
   have q5:t.length+1<=9223372036854775807:=by omega
   have ht':t++[UInt8.ofNat ((bsI (aP k)).getD (0+(j:Int).toNat) 0).toNat]=t++[b]:=by rw [hbv]; unfold bI; rw [Int.toNat_natCast,UInt8.ofNat_toNat]
   have hmg':mget l (.i .u8 ((bsI (aP k)).getD (0+(j:Int).toNat) 0))=some (u,τ):=by rw [hbv]; exact hmg
   repeat' (first|apply And.intro|exact trivial|exact rfl|exact zm N rfl|exact zr N rfl rfl|exact fun (i:Nat)=>bJ _ i|exact fun (i:Nat)=>aJ _ i|exact zf|exact zh|refine zt ?_|(with_reducible first|exact g0|exact g1|exact g2)|fail)
   refine ⟨⟨Unit,fun _=>True,fun _=>[(43,.fn 72 (caps u (t++[b])))],fun _=>[(0,.fam fun q=>noO 0 (N q))],fun _=>0⟩,?_,?_⟩
   ·repeat' (first|apply And.intro|exact trivial|exact rfl|exact zm N rfl|exact zr N rfl rfl|exact fun (i:Nat)=>bJ _ i|exact fun (i:Nat)=>aJ _ i|exact zf|exact zh|refine zt ?_|fail)
    ·exact q1
    ·exact q2
    ·exact q3
    ·exact q4
    ·exact q5
    refine Exists.intro (noO 0 (.node a ids.length m ((ids.length+szK k:Nat):Int) mk)) (And.intro (congrArg (noO 0) hnv) ?_)
    repeat' (first|apply And.intro|exact trivial|exact rfl|exact zm N rfl|exact zr N rfl rfl|exact fun (i:Nat)=>bJ _ i|exact fun (i:Nat)=>aJ _ i|exact zf|exact zh|refine zt ?_|fail)
    refine Exists.intro (noO 0 (.map l q)) (And.intro (congrArg (noO 0) hmp) ?_)
    refine iB.tT hmg' ?_
    repeat' (first|apply And.intro|exact trivial|exact rfl|exact zm N rfl|exact zr N rfl rfl|exact fun (i:Nat)=>bJ _ i|exact fun (i:Nat)=>aJ _ i|exact zf|exact zh|refine zt ?_|fail)
    refine Exists.intro (N,u,t++[b]) (Exists.intro [0] ?_)
    repeat' (first|apply And.intro|exact trivial|exact rfl|exact zm N rfl|exact zr N rfl rfl|exact fun (i:Nat)=>bJ _ i|exact fun (i:Nat)=>aJ _ i|exact zf|exact zh|refine zt ?_|exact ht'|fail)
    refine fun (_:Unit) (_:True)=>?_
    repeat' (first|apply And.intro|exact trivial|exact rfl|exact zm N rfl|exact zr N rfl rfl|exact fun (i:Nat)=>bJ _ i|exact fun (i:Nat)=>aJ _ i|exact zf|exact zh|refine zt ?_|fail)
    refine Exists.intro () ?_
    repeat' (first|apply And.intro|exact trivial|exact rfl|exact zm N rfl|exact zr N rfl rfl|exact fun (i:Nat)=>bJ _ i|exact fun (i:Nat)=>aJ _ i|exact zf|exact zh|refine zt ?_|exact cG (fun a=>aW _ _ _ a)|exact bG (fun a=>aW _ _ _ a)|fail)
   refine fun (_:Unit) (_:True)=>?_
   repeat' (first|apply And.intro|exact trivial|exact rfl|exact zm N rfl|exact zr N rfl rfl|exact fun (i:Nat)=>bJ _ i|exact fun (i:Nat)=>aJ _ i|exact zf|exact zh|refine zt ?_|fail)
   refine Exists.intro ⟨N,s,u,t++[b]⟩ (Exists.intro ⟨Nat->Option Obj,fun i st=>G (ids.length+oM t k j+i) st,fun st=>[(1,.fam (nN st)),(2,.hid 0 0),(3,.cells 60 (.cons (.yield 2) .nil)),(4,.arr 5 1 (aP k).length (lc bE 0 (bsI (aP k))))],6⟩ ?_)
   repeat' (first|apply And.intro|exact trivial|exact rfl|exact zm N rfl|exact zr N rfl rfl|exact fun (i:Nat)=>bJ _ i|exact fun (i:Nat)=>aJ _ i|exact zf|exact zh|refine zt ?_|fail)
   ·exact ⟨⟨D,G1,hru⟩,f1,show szT s<=12 by omega,htk,f3,show htT s<=n by omega,show (t++[b]).length+htT s<=1000000 by simp only [List.length_append,List.length_cons,List.length_nil]; omega⟩
   ·exact yZ N
   ·exact fun _ _=>yZ N
   ·exact fun _=>rfl
   ·refine fun (g:Nat->Option Obj)=>Exists.intro st (And.intro hG ?_)
    repeat' (first|apply And.intro|exact trivial|exact rfl|exact zm N rfl|exact zr N rfl rfl|exact fun (i:Nat)=>bJ _ i|exact fun (i:Nat)=>aJ _ i|exact zf|exact zh|refine zt ?_|exact cG (fun a=>aW _ _ _ a)|exact bG (fun a=>aW _ _ _ a)|fail)
   ·refine fun (i:Nat) (st:Nat->Option Obj) (g:Nat->Option Obj) (item:SV) (hG:G (ids.length+oM t k j+i) st) (hit:((bS (t++[b]) s).map mJ)[i]?=some item)=>?_
    rw [List.getElem?_map,Option.map_eq_some_iff] at hit
    obtain ⟨p,hp,rfl⟩:=hit
    have hit2:=Lr (ids:=ids) hbs hp
    repeat' (first|apply And.intro|exact trivial|exact rfl|exact zm N rfl|exact zr N rfl rfl|exact fun (i:Nat)=>bJ _ i|exact fun (i:Nat)=>aJ _ i|exact zf|exact zh|refine zt ?_|exact cG (fun a=>aW _ _ _ a)|exact bG (fun a=>aW _ _ _ a)|fail)
    refine Exists.intro (ids.length+oM t k j+i) (Exists.intro st (Exists.intro (mJ p) (And.intro hG (And.intro rfl (And.intro hit2 (And.intro ?_ ?_))))))
    ·repeat' (first|apply And.intro|exact trivial|exact rfl|fail)
    refine fun (st':Nat->Option Obj) (hG':G (ids.length+oM t k j+i+1) st')=>?_
    repeat' (first|apply And.intro|exact trivial|exact rfl|exact zm N rfl|exact zr N rfl rfl|exact fun (i:Nat)=>bJ _ i|exact fun (i:Nat)=>aJ _ i|exact zf|exact zh|refine zt ?_|exact cG (fun a=>aW _ _ _ a)|exact bG (fun a=>aW _ _ _ a)|fail)
    refine Exists.intro st' (And.intro hG' ?_)
    repeat' (first|apply And.intro|exact trivial|exact rfl|exact zm N rfl|exact zr N rfl rfl|exact fun (i:Nat)=>bJ _ i|exact fun (i:Nat)=>aJ _ i|exact zf|exact zh|refine zt ?_|exact cG (fun a=>aW _ _ _ a)|exact bG (fun a=>aW _ _ _ a)|fail)
   ·refine fun (_:Unit) (st:Nat->Option Obj) (_:True) (hG:G (ids.length+oM t k j+((bS (t++[b]) s).map mJ).length) st)=>?_
    repeat' (first|apply And.intro|exact trivial|exact rfl|exact zm N rfl|exact zr N rfl rfl|exact fun (i:Nat)=>bJ _ i|exact fun (i:Nat)=>aJ _ i|exact zf|exact zh|refine zt ?_|exact cG (fun a=>aW _ _ _ a)|exact bG (fun a=>aW _ _ _ a)|fail)
    ·show (-9223372036854775808:Int)<=(j:Int)+1
     omega
    ·show (j:Int)+1<=9223372036854775807
     have:=nG hwf.2.2
     omega
    have hG2:G (ids.length+oM t k (j+1)) st:=by
     rw [Mm hbs,<- Nat.add_assoc]
     rw [List.length_map] at hG
     exact hG
    refine Exists.intro (j+1,st) (And.intro ⟨hlt,hG2⟩ (And.intro ?_ (show (bB k).length - (j+1) < (bB k).length - j by omega)))
    repeat' (first|apply And.intro|exact trivial|exact rfl|exact zm N rfl|exact zr N rfl rfl|exact fun (i:Nat)=>bJ _ i|exact fun (i:Nat)=>aJ _ i|exact zf|exact zh|refine zt ?_|exact cG (fun a=>aW _ _ _ a)|exact bG (fun a=>aW _ _ _ a)|fail)
  ·refine fun (hlt:decide ((j:Int) < ((aP k).length:Int))=false)=>?_
   have hbl:(aP k).length=(bB k).length:=by rw [iU,List.length_map]
   replace hlt:j=(bB k).length:=by have:=of_decide_eq_false hlt; omega
   subst hlt
   repeat' (first|apply And.intro|exact trivial|exact rfl|exact zm N rfl|exact zr N rfl rfl|exact fun (i:Nat)=>bJ _ i|exact fun (i:Nat)=>aJ _ i|exact zf|exact zh|refine zt ?_|exact cG (fun a=>aW _ _ _ a)|exact bG (fun a=>aW _ _ _ a)|fail)
   refine Exists.intro () (Exists.intro st (And.intro trivial (And.intro (Px ▸ hG) ?_)))
   repeat' (first|apply And.intro|exact trivial|exact rfl|exact zm N rfl|exact zr N rfl rfl|exact fun (i:Nat)=>bJ _ i|exact fun (i:Nat)=>aJ _ i|exact zf|exact zh|refine zt ?_|exact cG (fun a=>aW _ _ _ a)|exact bG (fun a=>aW _ _ _ a)|fail)
theorem Lm:∀ n,(Hy n).Ok Tryz.prog 72
 | 0=>it0
 | n+1=>it1 (Lm n)
end T32
end
section
open Go Go.Eng Go.Proofs A0 T1 T2 T3 T4 T5 T6 T11 T13 T14 T28 T29 T30 T31 T32
set_option maxRecDepth 100000
namespace T33
def Ul:mV:={ Hy 0 with pre:=fun x=>AOk (htT x.T) x }
theorem S9:Ul.Ok Tryz.prog 72 :=
 ⟨(Lm 0).call,fun x w μ vs T U r0 l st0 J h1 h2 h3 h4 h5 h6 h7=>(Lm (htT x.T)).does x w μ vs T U r0 l st0 J h1 h2 h3 h4 h5 h6 h7⟩
def kyE (K:List Ky) (j:Nat):SV:=oL (K.getD j k0)
theorem Tj {k:Keep} {hp:List (Nat×aC)} {K:List Ky} {i n:Nat} {p:Ky} {e:Nat->SV} (h:K[i]?=some p) (he:e 0=oL p) (hn:n=i+1):∀ j,j < n->iC k (sub k hp 200) (dZ i (kyE K) e j) (kyE K j):=by
 intro j hj
 subst hn
 have hx:dZ i (kyE K) e j=kyE K j:=by
  unfold dZ
  by_cases hji:j < i
  ·have hb:Nat.blt j i=true:=by rw [Nat.blt_eq]; exact hji
   simp only [hb,cond_true]
  ·have hb:Nat.blt j i=false:=by
    cases hb:Nat.blt j i with
    | false=>rfl
    | true=>rw [Nat.blt_eq] at hb; exact absurd hb hji
   have:j=i:=by omega
   subst this
   simp only [hb,cond_false,Nat.sub_self,he]
   unfold kyE
   rw [List.getD_eq_getElem?_getD,h]
   rfl
 rw [hx]
 exact Or.inl (aT _ _ _ _)
def g71:List Nat:=[0,1,6,7,5,2,4]
def c71:aF :=
 .seq (.region g71 [(zo 2 (.box 29 (.s 0))),(zo 4 (.move (.c (.nilsl))))]) (.seq (.seq (.region g71 [(mv 6 1)]) (.block 0 (.rangeY (.s 6) [7] (.region g71 [(zo 5 (.alloc 32 (.cons (.str []) (.cons (.str []) .nil)))),⟨none,none,.store 2 (.s 5) (.s 7),[]⟩]) (.block 1 (.region g71 [(ld 8 2),(zo 9 (.load 2 true (.s 5))),(zo 10 (.buildSl 32 2 1 (.cons (.str []) (.cons (.str []) .nil)) [(0,2,.s 9)])),(zo 11 (.app 32 2 32 (.s 8) (.s 10))),⟨none,none,.store 1 (.s 2) (.s 11),[]⟩]))))) (.seq (.region g71 [(ld 12 2),(mv 4 12)]) .ret))
theorem e71:aO Tryz.prog 71 g71 [] [] []=some (c71,[.slot 4],13):=by kernel_rfl
def Un:aK where
 X:=AX
 Y:=Unit
 args:=fun x=>.cons .nilsl (.cons (.fn 72 (caps x.v x.t)) .nil)
 pre:=fun x=>AOk (htT x.T) x/\(bS x.t x.T).length<=1000000
 h0:=fun x=>[(0,.fam fun q=>noO 0 (x.N q))]
 nx0:=1
 post:=fun _ _=>True
 res:=fun x _=>.lsl 1 2 (bS x.t x.T).length
 h1:=fun x _=>[(0,.fam fun q=>noO 0 (x.N q)),(1,.arr 32 2 (bS x.t x.T).length (kyE (bS x.t x.T)))]
 nx1:=2
theorem Ry:Un.Ok Tryz.prog 71:=by
 refine Eng.aK.okR e71 .nil (fun _=>[(72,.y Ul)]) (fun _ _=>aD.y S9 aD.nil) ?_
 rintro ⟨N,T,v,t⟩ ⟨(hok:AOk (htT T) ⟨N,T,v,t⟩),(hlen:(bS t T).length<=1000000)⟩
 generalize hK:bS t T=K at hlen
 refine ⟨trivial,?_⟩
 repeat' (first|apply And.intro|exact trivial|exact rfl|exact zm N rfl|exact zr N rfl rfl|exact fun (i:Nat)=>aJ _ i|exact zf|exact zh|refine zt ?_|fail)
 refine Exists.intro ⟨N,T,v,t⟩ (Exists.intro ⟨Nat,fun i v=>v=i/\i<=K.length,fun v=>[(1,.cells 29 (.cons (.lsl 3 2 v) .nil)),(3,.arr 32 2 v (kyE K))],4⟩ ?_)
 repeat' (first|apply And.intro|exact trivial|exact rfl|exact zm N rfl|exact zr N rfl rfl|exact fun (i:Nat)=>aJ _ i|exact zf|exact zh|refine zt ?_|fail)
 ·exact hok
 ·exact yZ N
 ·exact fun _ _=>yZ N
 ·exact fun _=>rfl
 ·refine fun (g:Nat->Option Obj)=>Exists.intro 0 (And.intro ⟨rfl,Nat.zero_le _⟩ ?_)
  repeat' (first|apply And.intro|exact trivial|exact rfl|exact zm N rfl|exact zr N rfl rfl|exact fun (i:Nat)=>aJ _ i|exact zf|exact zh|refine zt ?_|exact fun (j:Nat) _=>Or.inl (aT _ _ _ _)|fail)
 ·rintro (i:Nat) (v:Nat) (g:Nat->Option Obj) (item:SV) ⟨(hvi:v=i),(hi:i<=K.length)⟩ (hit:((bS t T).map mJ)[i]?=some item)
  subst hvi
  rw [hK,List.getElem?_map,Option.map_eq_some_iff] at hit
  obtain ⟨p,hp,rfl⟩:=hit
  have hlt:v < K.length:=(List.getElem?_eq_some_iff.1 hp).1
  repeat' (first|apply And.intro|exact trivial|exact rfl|exact zm N rfl|exact zr N rfl rfl|exact fun (i:Nat)=>aJ _ i|exact zf|exact zh|refine zt ?_|exact fun (j:Nat) _=>Or.inl (aT _ _ _ _)|fail)
  ·show v+1<=9223372036854775807
   omega
  ·show (v+1) * 32<=140737488355328
   omega
  refine Exists.intro (v+1) (And.intro ⟨rfl,hlt⟩ ?_)
  repeat' (first|apply And.intro|exact trivial|exact rfl|exact zm N rfl|exact zr N rfl rfl|exact fun (i:Nat)=>aJ _ i|exact zf|exact zh|refine zt ?_|exact fun (j:Nat) _=>Or.inl (aT _ _ _ _)|exact Tj hp rfl rfl|fail)
 ·rintro (_:Unit) (v:Nat) (_:True) ⟨(hv:v=((bS t T).map mJ).length),_⟩
  rw [List.length_map,hK] at hv
  subst hv
  repeat' (first|apply And.intro|exact trivial|exact rfl|exact zm N rfl|exact zr N rfl rfl|exact fun (i:Nat)=>aJ _ i|exact zf|exact zh|refine zt ?_|exact fun (j:Nat) _=>Or.inl (aT _ _ _ _)|fail)
  refine Exists.intro () ?_
  repeat' (first|apply And.intro|exact trivial|exact rfl|exact zm N rfl|exact zr N rfl rfl|exact fun (i:Nat)=>aJ _ i|exact zf|exact zh|refine zt ?_|exact fun (j:Nat) _=>Or.inl (aT _ _ _ _)|fail)
  ·rw [hK]
  ·rw [hK]
  ·exact fun (j:Nat) _=>by rw [hK]; exact Or.inl (aT _ _ _ _)
def g47:List Nat:=[0,2]
def c47:aF :=
 .seq (.region g47 [(zo 2 (.move (.c (.nilsl))))]) (.seq (.region g47 [(mv 3 0),(zo 4 (.call (.c (.fn 71)) [.c (.nilsl),.s 3])),(mv 2 4)]) .ret)
theorem e47:aO Tryz.prog 47 g47 [] [] []=some (c47,[.slot 2],5):=by kernel_rfl
def Uu:aK where
 X:=AX
 Y:=Unit
 args:=fun x=>.cons (.fn 72 (caps x.v x.t)) .nil
 pre:=fun x=>AOk (htT x.T) x/\(bS x.t x.T).length<=1000000
 h0:=fun x=>[(0,.fam fun q=>noO 0 (x.N q))]
 nx0:=1
 post:=fun _ _=>True
 res:=fun x _=>.lsl 1 2 (bS x.t x.T).length
 h1:=fun x _=>[(0,.fam fun q=>noO 0 (x.N q)),(1,.arr 32 2 (bS x.t x.T).length (kyE (bS x.t x.T)))]
 nx1:=2
theorem Sa:Uu.Ok Tryz.prog 47:=by
 refine Eng.aK.okR e47 .nil (fun _=>[(71,.m Un)]) (fun _ _=>aD.m Ry aD.nil) ?_
 rintro ⟨N,T,v,t⟩ ⟨(hok:AOk (htT T) ⟨N,T,v,t⟩),(hlen:(bS t T).length<=1000000)⟩
 refine ⟨trivial,?_⟩
 repeat' (first|apply And.intro|exact trivial|exact rfl|exact zm N rfl|exact zr N rfl rfl|exact fun (i:Nat)=>aJ _ i|exact zf|exact zh|refine zt ?_|fail)
 refine Exists.intro ⟨N,T,v,t⟩ (Exists.intro [0] ?_)
 repeat' (first|exact hok|exact hlen|apply And.intro|exact trivial|exact rfl|exact zm N rfl|exact zr N rfl rfl|exact fun (i:Nat)=>aJ _ i|exact zf|exact zh|refine zt ?_|fail)
 refine fun (_:Unit) (_:True)=>?_
 repeat' (first|apply And.intro|exact trivial|exact rfl|exact zm N rfl|exact zr N rfl rfl|exact fun (i:Nat)=>aJ _ i|exact zf|exact zh|refine zt ?_|fail)
 refine Exists.intro () ?_
 repeat' (first|apply And.intro|exact trivial|exact rfl|exact zm N rfl|exact zr N rfl rfl|exact fun (i:Nat)=>aJ _ i|exact zf|exact zh|refine zt ?_|exact fun (j:Nat) _=>Or.inl (aT _ _ _ _)|fail)
def g16:List Nat:=[4,0,2]
def c16:aF :=
 .seq (.region g16 [(zo 2 (.move (.c (.nilsl))))]) (.seq (.seq (.region g16 [(mv 3 0),(zo 4 (.ptrEq false (.s 3) (.c (.nilptr))))]) (.cond (.s 4) (.seq (.region g16 [(zo 2 (.move (.c (.nilsl))))]) .ret) .skip)) (.seq (.region g16 [(mv 5 0),(zo 6 (.nilCheck (.s 5))),(fa 7 0 6),(ld 8 7),(zo 9 (.call (.c (.fn 48)) [.s 8,.c (.str [])])),(zo 10 (.call (.c (.fn 47)) [.s 9])),(mv 2 10)]) .ret))
theorem e16:aO Tryz.prog 16 g16 [] [] []=some (c16,[.slot 2],11):=by kernel_rfl
def Q3:aK where
 X:=AX
 Y:=Unit
 args:=fun _=>.cons (.own 0 0) .nil
 pre:=fun x=>AOk (htT x.T) x/\(bS x.t x.T).length<=1000000/\x.t=[]
 h0:=fun x=>tH 0 1 x.v x.N
 nx0:=2
 post:=fun _ _=>True
 res:=fun x _=>.lsl 2 2 (bS x.t x.T).length
 h1:=fun x _=>(2,.arr 32 2 (bS x.t x.T).length (kyE (bS x.t x.T)))::tH 0 1 x.v x.N
 nx1:=3
theorem G7:Q3.Ok Tryz.prog 16:=by
 refine Eng.aK.okR e16 .nil (fun _=>[(48,.m Rv),(47,.m Uu)]) (fun _ _=>aD.m J7 (aD.m Sa aD.nil)) ?_
 rintro ⟨N,T,v,t⟩ ⟨(hok:AOk (htT T) ⟨N,T,v,t⟩),(hlen:(bS t T).length<=1000000),(ht:t=[])⟩
 subst ht
 refine ⟨trivial,?_⟩
 repeat' (first|apply And.intro|exact trivial|exact rfl|exact zm N rfl|exact zr N rfl rfl|exact fun (i:Nat)=>aJ _ i|exact zf|exact zh|refine zt ?_|fail)
 refine Exists.intro (N,v,[]) (Exists.intro [1] ?_)
 repeat' (first|apply And.intro|exact trivial|exact rfl|exact zm N rfl|exact zr N rfl rfl|exact fun (i:Nat)=>aJ _ i|exact zf|exact zh|refine zt ?_|fail)
 refine fun (_:Unit) (_:True)=>?_
 repeat' (first|apply And.intro|exact trivial|exact rfl|exact zm N rfl|exact zr N rfl rfl|exact fun (i:Nat)=>aJ _ i|exact zf|exact zh|refine zt ?_|fail)
 refine Exists.intro ⟨N,T,v,[]⟩ (Exists.intro [1] ?_)
 repeat' (first|exact hok|exact hlen|apply And.intro|exact trivial|exact rfl|exact zm N rfl|exact zr N rfl rfl|exact fun (i:Nat)=>aJ _ i|exact zf|exact zh|refine zt ?_|fail)
 refine fun (_:Unit) (_:True)=>?_
 repeat' (first|apply And.intro|exact trivial|exact rfl|exact zm N rfl|exact zr N rfl rfl|exact fun (i:Nat)=>aJ _ i|exact zf|exact zh|refine zt ?_|fail)
 refine Exists.intro () ?_
 repeat' (first|apply And.intro|exact trivial|exact rfl|exact zm N rfl|exact zr N rfl rfl|exact fun (i:Nat)=>aJ _ i|exact zf|exact zh|refine zt ?_|exact fun (j:Nat) _=>Or.inl (aT _ _ _ _)|fail)
end T33
end
section
open Go Go.Eng Go.Proofs T1 T2 T3 T7 T4 T13 T14 T23 T28 T30 T31 D1 D2 D3 D6
set_option maxRecDepth 100000
namespace D9
def Dd:Dg:=fun ids ks=>kB ⟨ids,ks.map (·.1),ks.map (·.2)⟩
def ndT:TT->ND
 | .node ids k=>⟨ids,(uF Dd k).map (·.1),(uF Dd k).map (·.2)⟩
theorem tN:∀ T:TT,oI Dd T=kB (ndT T)
 | .node _ _=>rfl
theorem A2 {D:Dg}:∀ k:TK,(uF D k).map (·.1)=aP k
 | .nil=>rfl
 | .cons b t r=>by simp only [uF,List.map_cons,A2 r,aP]
theorem nW {D:Dg}:∀ k:TK,(uF D k).map (·.2)=(bB k).map fun p=>oI D p.2
 | .nil=>rfl
 | .cons b t r=>by simp only [uF,List.map_cons,nW r,bB]
def Mk (N N':Nat->NO):Prop:=∀ x,N' x=N x\/∃ a n m sz mk mk',N x=.node a n m sz mk/\N' x=.node a n m sz mk'
theorem Mk.refl (N:Nat->NO):Mk N N:=fun _=>.inl rfl
theorem Mk.trans {A B C:Nat->NO} (h:Mk A B) (k:Mk B C):Mk A C:=by
 intro x
 rcases h x with e|⟨a,n,m,sz,mk,mk',e1,e2⟩ <;> rcases k x with f|⟨a',n',m',sz',mk1,mk1',f1,f2⟩
 ·exact .inl (f.trans e)
 ·exact .inr ⟨_,_,_,_,_,_,e ▸ f1,f2⟩
 ·exact .inr ⟨_,_,_,_,_,_,e1,f.trans e2⟩
 ·rw [e2] at f1
  cases f1
  exact .inr ⟨_,_,_,_,_,_,e1,f2⟩
theorem Mk.tk {N N':Nat->NO} (h:Mk N N') (t:∀ i l q,N i=.map l q->Tk l q):∀ i l q,N' i=.map l q->Tk l q:=by
 intro i l q e
 rcases h i with f|⟨_,_,_,_,_,_,_,f⟩
 ·exact t i l q (f ▸ e)
 ·rw [f] at e; cases e
def Fo (N:Nat->NO) (v:Nat) (o:NO):Nat->NO:=fun x=>bif Nat.beq x v then o else N x
theorem xP (N:Nat->NO) (v:Nat) (o:NO):Fo N v o v=o:=by unfold Fo; rw [Nat.beq_refl]; rfl
theorem Hm {N:Nat->NO} {v x:Nat} {o:NO} (h:x≠v):Fo N v o x=N x:=by
 unfold Fo
 have:Nat.beq x v=false:=by
  cases e:Nat.beq x v with
  | false=>rfl
  | true=>exact absurd (Nat.eq_of_beq_eq_true e) h
 rw [this]; rfl
theorem P5 {N:Nat->NO} {v a n m:Nat} {sz:Int} {mk mk':B} (h:N v=.node a n m sz mk):Mk N (Fo N v (.node a n m sz mk')):=by
 intro x
 by_cases e:x=v
 ·subst e; exact .inr ⟨_,_,_,_,_,_,h,xP _ _ _⟩
 ·exact .inl (Hm e)
theorem jN:∀ {k:TK} {b:UInt8} {s:TT},cC k b=some s->b∈aP k
 | .nil,_,_,h=>by cases h
 | .cons x t r,b,s,h=>by
  simp only [cC] at h
  simp only [aP]
  by_cases e:x=b
  ·rw [e]; exact List.mem_cons_self
  ·rw [if_neg e] at h; exact List.mem_cons_of_mem _ (jN h)
theorem xO:∀ {k:TK} {b:UInt8} {s:TT},cC k b=some s->Sb (aP k)->fA k b s=k
 | .nil,_,_,h,_=>by cases h
 | .cons x t r,b,s,h,hs=>by
  simp only [cC] at h
  simp only [fA]
  simp only [aP] at hs
  have hs':=List.pairwise_cons.1 hs
  by_cases e:x=b
  ·subst e
   rw [if_pos rfl] at h
   rw [if_pos rfl]
   cases h; rfl
  ·rw [if_neg e] at h
   have hlt:=hs'.1 b (jN h)
   rw [if_neg e,if_neg (fun h'=>UInt8.lt_irrefl _ (UInt8.lt_trans hlt h'))]
   exact congrArg (TK.cons x t) (xO h hs'.2)
theorem My {D:Dg} {N:Nat->NO}:∀ {k:TK} {l:List (aH×Nat×Nat)} {G G':Nat->Prop},(∀ x,G x ↔ G' x)->fC D N k l G->fC D N k l G'
 | .nil,_,_,_,e,h=>fun x hx=>h x ((e x).2 hx)
 | .cons _ _ _,_,_,_,e,h=>by
  simp only [fC] at h ⊢
  obtain ⟨u,τ,G1,G2,h1,h2,h3,h4,h5⟩:=h
  exact ⟨u,τ,G1,G2,h1,h2,h3,h4,fun x=>(e x).symm.trans (h5 x)⟩
theorem Ci {D:Dg} {N:Nat->NO} {k:TK} {l:List (aH×Nat×Nat)} {G:Nat->Prop} {b:UInt8} {s:TT} (h:fC D N k l G) (hg:cC k b=some s) (hs:Sb (aP k)) :
  ∃ u τ G1,mget l (dC b)=some (u,τ)/\dG D N s u G1/\(∀ x,G1 x->G x)/\∀ N',dG D N' s u G1->(∀ x,¬ G1 x->N' x=N x)->fC D N' k l G:=by
 obtain ⟨u,τ,G1,G2,h1,h2,h3,h4,h5,_⟩:=jX h hg hs
 refine ⟨u,τ,G1,h1,h2,fun x hx=>(h4 x).2 (.inl hx),fun N' hr hf=>?_⟩
 have:=h5 N' s G1 hr h3 fun x hx=>hf x fun h'=>h3 x h' hx
 rw [xO hg hs] at this
 exact My (fun x=>(h4 x).symm) this
theorem uR (n:Nat) (h:n < 18446744073709551616):(Lib.itoa (n:Int)).length<=20:=by
 rw [Lib.itoa_nonneg,Lib.decDigits_length]
 rcases Nat.eq_zero_or_pos n with rfl|h1
 ·rw [Lib.nDigits_small (by omega)]; omega
 ·have:=Lib.numDigits_eq n h1 h; split at this <;> omega
theorem qN {M:Nat} (hM:M < 18446744073709551616):∀ {l:List B},(∀ s∈l,s.length<=M)->(dP l).length<=l.length * (M+21)
 | [],_=>Nat.zero_le _
 | s::l,h=>by
  have ih:=qN hM (l:=l) fun x hx=>h x (List.mem_cons_of_mem _ hx)
  have h1:=h s List.mem_cons_self
  have h2:=uR s.length (by omega)
  show (((s::l).map fun s=>Lib.itoa (s.length:Int)++58::s).flatten).length<=_
  rw [List.map_cons,List.flatten_cons,List.length_append,List.length_append,List.length_cons]
  replace ih:((l.map fun s=>Lib.itoa (s.length:Int)++58::s).flatten).length<=l.length * (M+21):=ih
  rw [List.length_cons,Nat.succ_mul]
  omega
theorem An (t:B):(Nl t).length<=16:=by
 unfold Nl
 have:=G0 (mN t (lJ t) (t.length / 8+1))
 rw [List.length_append]
 have e:∀ n:Nat,((List.replicate n ([48]:B)).flatten).length=n:=fun n=>by simp
 rw [e]
 omega
theorem Gn (n:ND):(kB n).length<=16:=by
 unfold kB
 split
 ·exact An _
 ·exact Nat.zero_le _
theorem Km (T:TT):(oI Dd T).length<=16:=by rw [tN]; exact Gn _
theorem uV {n:ND} (h:∀ s∈n.kids,s.length<=16):∀ j,∀ s∈fH n j,s.length<=16
 | 0,_,hs=>by cases hs
 | j+1,s,hs=>by
  simp only [fH,List.mem_append,List.mem_cons,List.not_mem_nil,or_false] at hs
  rcases hs with hs|rfl|rfl
  ·exact uV h j s hs
  ·exact Nat.le_trans (List.length_take_le 1 _) (by decide)
  ·rw [List.getD_eq_getElem?_getD]
   cases e:n.kids[j]? with
   | none=>exact Nat.zero_le _
   | some x=>exact h x (List.mem_of_getElem? e)
mutual
def shT:TT->Prop
 | .node ids k=>(∀ i∈ids,i.length<=1000000)/\shK k
def shK:TK->Prop
 | .nil=>True
 | .cons _ t r=>shT t/\shK r
end
theorem Ev:∀ {k:TK} {b:UInt8} {s:TT},(b,s)∈bB k->shK k->shT s
 | .nil,_,_,h,_=>by cases h
 | .cons x u r,b,s,h,l=>by
  simp only [shK] at l
  rcases List.mem_cons.1 h with e|e
  ·cases e; exact l.1
  ·exact Ev e l.2
structure DX where
 N:Nat->NO
 T:TT
 v:Nat
 F:Nat->Prop
structure DOk (n:Nat) (x:DX):Prop where
 rep:dG Dd x.N x.T x.v x.F
 wf:wfT x.T
 sz:szT x.T<=12
 tk:∀ i l q,x.N i=.map l q->Tk l q
 low:Bx x.T
 ht:htT x.T<=n
 sh:shT x.T
structure DPo (x:DX) (y:Nat->NO):Prop where
 mrk:Mk x.N y
 out:∀ z,¬ x.F z->y z=x.N z
 rep:dG Dd y x.T x.v x.F
theorem Ts {T:TT} (hw:wfT T) (hs:szT T<=12) (hl:shT T):((ndT T).ids.length<=100000/\(ndT T).kids.length<=100000)/\(dP (bW (ndT T)++fH (ndT T) (ndT T).kids.length)).length<=140737488355328:=by
 cases T with
 | node ids k =>
 replace hw:Srt ids/\Sb (aP k)/\wfK k:=hw
 replace hs:ids.length+szK k<=12:=hs
 replace hl:(∀ i∈ids,i.length<=1000000)/\shK k:=hl
 have hkl:=nG hw.2.2
 have e2:(ndT (.node ids k)).kids=(bB k).map fun p=>oI Dd p.2:=nW k
 have e3:(ndT (.node ids k)).kids.length=(bB k).length:=by rw [e2,List.length_map]
 have e1:(ndT (.node ids k)).ids=ids:=rfl
 refine ⟨⟨by rw [e1]; omega,by rw [e3]; omega⟩,?_⟩
 refine Nat.le_trans (qN (M:=1000000) (by decide) ?_) ?_
 ·intro s hs'
  rcases List.mem_append.1 hs' with h|h
  ·simp only [D6.bW,List.mem_cons] at h
   rcases h with rfl|rfl|h
   ·decide
   ·exact Nat.le_trans (uR _ (by rw [e1]; omega)) (by decide)
   ·exact hl.1 s h
  ·refine Nat.le_trans (uV ?_ _ s h) (by decide)
   intro x hx
   rw [e2] at hx
   obtain ⟨p,_,rfl⟩:=List.mem_map.1 hx
   exact Km _
 ·rw [pX,e1,e3]
  have:(2+ids.length+2 * (bB k).length) * (1000000+21)<=38 * (1000000+21):=Nat.mul_le_mul_right _ (by omega)
  omega
end D9
end
section
open Go Go.Eng Go.Proofs T7 T8 T9 T32 A0 T1 T2 T3 T4 T5 T6 T13 T14 T23 T25 T28 T29 T30 T31 D3 D6 D9
set_option maxRecDepth 100000
namespace D10
def kdL (k:TK):List B:=(uF Dd k).map (·.2)
structure LI (N:Nat->NO) (H:Nat->Prop) (k:TK) (l:List (aH×Nat×Nat)) (j:Nat) (N':Nat->NO):Prop where
 le:j<=(bB k).length
 mrk:Mk N N'
 out:∀ z,¬ H z->N' z=N z
 rep:fC Dd N' k l H
theorem Al {k:Keep} {hp:List (Nat×aC)} {n:Nat} {L L':List B} (h:L=L'):∀ i,i < n->iC k (sub k hp 200) (idE (L.getD i [])) (idE (L'.getD i [])):=by
 subst h
 exact fun i _=>Or.inl (aL _ _ _ _)
def Sl:aK:=Sm.mof B (fun x y=>y=kB x) (fun _ y=>.str y)
theorem Gp:Sl.Ok Tryz.prog 19:=Eng.Spec.iN D8.Du fun _ _=>⟨_,rfl,rfl⟩
theorem Oi {k:TK} {j:Nat} {b:UInt8} {s:TT} (h:(bB k)[j]?=some (b,s)):(aP k).take (j+1)=(aP k).take j++[b]:=by
 rw [iU,List.take_add_one,List.getElem?_map,h]
 rfl
theorem Pd {k:TK} {j:Nat} {b:UInt8} {s:TT} (h:(bB k)[j]?=some (b,s)):(kdL k).take (j+1)=(kdL k).take j++[oI Dd s]:=by
 unfold kdL
 rw [nW,List.take_add_one,List.getElem?_map,h]
 rfl
theorem Ln (k:TK):(kdL k).length=(bB k).length:=by
 unfold kdL
 rw [nW,List.length_map]
theorem Tf {k:Keep} {hp:List (Nat×aC)} {L L':List B} {y:B} {m:Nat} (hL:L'=L++[y]) (hm:m=L.length+1):∀ i,i < m->iC k (sub k hp 200) (dZ L.length (fun j=>idE (L.getD j [])) (fun q=>hZ (.cons (.cons (.str y) .nil) .nil) (0+q)) i) (idE (L'.getD i [])):=by
 intro i hi
 subst hm hL
 have e:dZ L.length (fun j=>idE (L.getD j [])) (fun q=>hZ (.cons (.cons (.str y) .nil) .nil) (0+q)) i=idE ((L++[y]).getD i []):=by
  unfold dZ
  rw [yI]
  by_cases h:i < L.length
  ·rw [if_pos h]
   show idE (L.getD i [])=_
   rw [List.getD_eq_getElem?_getD,List.getD_eq_getElem?_getD,List.getElem?_append_left h]
  ·rw [if_neg h]
   obtain rfl:i=L.length:=by omega
   rw [List.getD_eq_getElem?_getD,List.getElem?_append_right (Nat.le_refl _),Nat.sub_self]
   show hZ _ (0+0)=_
   rfl
 rw [e]
 exact Or.inl (aL _ _ _ _)
def g57:List Nat:=[14,16,13,0,5,15,3,2]
def c57:aF :=
 .seq (.region g57 [(zo 2 (.alloc 39 (.cons (.nilsl) (.cons (.str []) (.cons (.nilsl) .nil)))))]) (.seq (.region g57 [(mv 6 0),(zo 7 (.nilCheck (.s 6))),(fa 8 0 7),(ld 9 8),(zo 10 (.call (.c (.fn 80)) [.s 9])),(zo 11 (.build (.cons (.nilsl) (.cons (.str []) (.cons (.nilsl) .nil))) [(0,1,.s 10)])),(zo 3 (.alloc 39 (.cons (.nilsl) (.cons (.str []) (.cons (.nilsl) .nil))))),⟨none,none,.store 3 (.s 3) (.s 11),[]⟩]) (.seq (.seq (.region g57 [(mv 12 0),(zo 13 (.call (.c (.fn 73)) [.s 12])),(zo 14 (.lenSl (.s 13))),(zo 15 (.move (cj 0)))]) (.block 0 (.loop 0 [16,17,18,5,19,20,21,22,23,24,25,26,27,28,29,30,31,32,33,34,35,36,37,38,15] (.seq (.region g57 [(zo 16 (.bin (.lss) (.s 15) (.s 14)))]) (.seq (.cond (.s 16) .skip (.exit 0)) (.seq (.block 1 (.seq (.region g57 [(zo 17 (.idxSl 1 (.s 13) (.s 15))),(ld 18 17),(mv 5 18)]) (.seq (.region g57 [(fa 19 1 3),(ld 20 19),(mv 21 5),(zo 22 (.cnv (.i32) (.s 21))),(zo 23 (.runeS (.s 22))),(zo 24 (.bin (.add) (.s 20) (.s 23))),(fa 25 1 3),⟨none,none,.store 1 (.s 25) (.s 24),[]⟩]) (.drawn g57 (.pure 0 (fa 26 2 3) (.pure 1 (ld 27 26) (.pure 2 (mv 28 0) (.pure 3 (zo 29 (.nilCheck (.s 28))) (.pure 4 (fa 30 1 29) (.pure 6 (mv 32 5) (.eff 5 (ld 31 30) [(ld 27 26)] (.eff 7 (zo 33 (.mlook (.nilptr) false (.i (.u8)) (.s 31) (.s 32))) [(ld 27 26)] (.eff 8 (zo 34 (.call (.c (.fn 55)) [.s 33])) [(ld 27 26)] (.eff 9 (zo 35 (.buildSl 9 1 1 (.cons (.str []) .nil) [(0,1,.s 34)])) [(ld 27 26)] (.eff 10 (zo 36 (.app 9 1 16 (.s 27) (.s 35))) [] (.pure 11 (fa 37 2 3) (.eff 12 ⟨none,none,.store 1 (.s 37) (.s 36),[]⟩ [] .done .none)) .none) .none) .none) .none) .none))))))))))) (.region g57 [(zo 38 (.bin (.add) (.s 15) (cj 1))),(mv 15 38)]))))))) (.seq (.region g57 [(zo 39 (.load 3 true (.s 3))),⟨none,none,.store 3 (.s 2) (.s 39),[]⟩]) .ret)))
theorem e57:aO Tryz.prog 57 g57 [] [31,34,35] []=some (c57,[.cell 2 3 true],40):=by kernel_rfl
def shS (n:Nat):aK where
 X:=DX
 Y:=Nat->NO
 args:=fun x=>.cons (.fown 0 x.v 0) .nil
 pre:=DOk n
 h0:=fun x=>[(0,.fam fun q=>noO 0 (x.N q))]
 nx0:=1
 post:=DPo
 res:=fun x _=>.agg (.cons (.lsl 1 1 (ndT x.T).ids.length) (.cons (.str (ndT x.T).bys) (.cons (.lsl 2 1 (ndT x.T).kids.length) .nil)))
 h1:=fun x y=>[(0,.fam fun q=>noO 0 (y q)),lsH 1 (ndT x.T).ids,lsH 2 (ndT x.T).kids]
 nx1:=3
def dgS (n:Nat):aK where
 X:=DX
 Y:=Nat->NO
 args:=fun x=>.cons (.fown 0 x.v 0) .nil
 pre:=DOk n
 h0:=fun x=>[(0,.fam fun q=>noO 0 (x.N q))]
 nx0:=1
 post:=DPo
 res:=fun x _=>.str (oI Dd x.T)
 h1:=fun _ y=>[(0,.fam fun q=>noO 0 (y q))]
 nx1:=1
theorem Rk {n:Nat} (ih:(dgS n).Ok Tryz.prog 55):(shS (n+1)).Ok Tryz.prog 57:=by
 refine Eng.aK.okR e57 .nil (fun _=>[(80,.m Uq),(73,.m R5),(55,.m (dgS n)),(2097152,.own)]) (fun _ _=>aD.m R6 (aD.m Kh (aD.m ih (aD.o aD.nil)))) ?_
 rintro ⟨N,T,v,F⟩ ⟨hrep,hwf,hsz,htk,hlow,hht,hsh⟩
 cases T with
 | node ids k =>
 replace hsz:ids.length+szK k<=12:=hsz
 replace hht:htK k+1<=n+1:=hht
 replace hwf:Srt ids/\Sb (aP k)/\wfK k:=hwf
 replace hlow:E3 k:=hlow
 replace hsh:(∀ i∈ids,i.length<=1000000)/\shK k:=hsh
 replace htk:∀ i l q,N i=.map l q->Tk l q:=htk
 replace hrep:dG Dd N (.node ids k) v F:=hrep
 have hkl:(aP k).length<=12:=by have:=nG hwf.2.2; rw [iU,List.length_map]; omega
 obtain ⟨a,m,mk,l,q,H,hnv,hlst,hmp,hmk,hpm,hrk,hav,ham,hHv,hHm,hHa,hF⟩:=hrep
 refine ⟨trivial,?_⟩
 repeat' (first|apply And.intro|exact trivial|exact rfl|exact zm N rfl|exact zm N' rfl|exact zr N' rfl rfl|exact zr N rfl rfl|exact zf|exact zh|refine zt ?_|fail)
 refine Exists.intro (noO 0 (.node a ids.length m ((ids.length+szK k:Nat):Int) mk)) (And.intro (congrArg (noO 0) hnv) ?_)
 repeat' (first|apply And.intro|exact trivial|exact rfl|exact zm N rfl|exact zm N' rfl|exact zr N' rfl rfl|exact zr N rfl rfl|exact zf|exact zh|refine zt ?_|fail)
 have hln:ids.length<=1000000:=by omega
 have hl:(N a=.none/\ids.length=0)\/∃ A,N a=.arr A/\A≠[]/\ids.length<=A.length:=by
  rcases hlst with ⟨h1,h2⟩|⟨A,h1,h2,h3,_⟩
  ·exact .inl ⟨h1,by rw [h2]; rfl⟩
  ·exact .inr ⟨A,h1,h2,h3⟩
 have hids:ids=cQ N a ids.length:=by
  rcases hlst with ⟨h1,h2⟩|⟨A,h1,h2,h3,h4⟩
  ·unfold cQ; rw [h1,h2]
  ·rw [vA h1,h4]
 refine Exists.intro ids (Exists.intro [] ?_)
 repeat' (first|exact hln|exact tX (h:=0) (N:=N) (a:=a) (n:=ids.length) rfl (Is.no 0 (N a)) rfl hl hids|apply And.intro|exact trivial|exact rfl|exact zm N rfl|exact zm N' rfl|exact zr N' rfl rfl|exact zr N rfl rfl|exact zf|exact zh|refine zt ?_|fail)
 refine fun (_:Unit) (_:True)=>?_
 repeat' (first|apply And.intro|exact trivial|exact rfl|exact zm N rfl|exact zm N' rfl|exact zr N' rfl rfl|exact zr N rfl rfl|exact zf|exact zh|refine zt ?_|exact fun (j:Nat) (hj:j < _)=>Or.inl (aL _ _ _ _)|fail)
 refine Exists.intro ⟨N,v,a,ids.length,m,((ids.length+szK k:Nat):Int),mk,l,q,aP k⟩ (Exists.intro [0] ?_)
 have hb:BOk ⟨N,v,a,ids.length,m,((ids.length+szK k:Nat):Int),mk,l,q,aP k⟩:=⟨hnv,hmp,htk _ _ _ hmp,hpm,hwf.2.1,hkl⟩
 repeat' (first|exact hb|apply And.intro|exact trivial|exact rfl|exact zm N rfl|exact zm N' rfl|exact zr N' rfl rfl|exact zr N rfl rfl|exact zf|exact zh|refine zt ?_|fail)
 refine fun (_:Unit) (_:True)=>?_
 repeat' (first|apply And.intro|exact trivial|exact rfl|exact zm N rfl|exact zm N' rfl|exact zr N' rfl rfl|exact zr N rfl rfl|exact zf|exact zh|refine zt ?_|exact fun (j:Nat) (hj:j < _)=>Or.inl (aL _ _ _ _)|fail)
 have hkd:(ndT (.node ids k)).kids=kdL k:=rfl
 refine ⟨⟨Nat×(Nat->NO),fun x=>LI N H k l x.1 x.2,fun x=>[(15,.int .i64 (x.1:Int))],fun x=>[(0,.fam fun q=>noO 0 (x.2 q)),lsH 2 ids,(3,.cells 39 (.cons (.lsl 2 1 ids.length) (.cons (.str ((aP k).take x.1)) (.cons (.lsl 30 1 ((kdL k).take x.1).length) .nil)))),(4,.arr 5 1 (aP k).length (lc bE 0 (bsI (aP k)))),lsH 30 ((kdL k).take x.1)],fun x=>(bB k).length - x.1⟩,(0,N),⟨Nat.zero_le _,Mk.refl N,fun _ _=>rfl,hrk⟩,?_,?_⟩
 ·repeat' (first|apply And.intro|exact trivial|exact rfl|exact zm N rfl|exact zm N' rfl|exact zr N' rfl rfl|exact zr N rfl rfl|exact zf|exact zh|refine zt ?_|exact fun (j:Nat) (hj:j < _)=>Or.inl (aL _ _ _ _)|exact cG (fun a=>aW _ _ _ a)|exact bG (fun a=>aW _ _ _ a)|fail)
 rintro ⟨j,N'⟩ ⟨(hj:j<=(bB k).length),(hM:Mk N N'),(hO:∀ z,¬ H z->N' z=N z),(hR:fC Dd N' k l H)⟩
 have hbl:(aP k).length=(bB k).length:=by rw [iU,List.length_map]
 have hnv':N' v=.node a ids.length m ((ids.length+szK k:Nat):Int) mk:=(hO v hHv).trans hnv
 have hmp':N' m=.map l q:=(hO m hHm).trans hmp
 repeat' (first|apply And.intro|exact trivial|exact rfl|exact zm N rfl|exact zm N' rfl|exact zr N' rfl rfl|exact zr N rfl rfl|exact zf|exact zh|refine zt ?_|exact fun (j:Nat) (hj:j < _)=>Or.inl (aL _ _ _ _)|exact cG (fun a=>aW _ _ _ a)|exact bG (fun a=>aW _ _ _ a)|fail)
 ·refine fun (hlt:decide ((j:Int) < ((aP k).length:Int))=true)=>?_
  replace hlt:j < (bB k).length:=by have:=of_decide_eq_true hlt; omega
  obtain ⟨b,s,hbs⟩:∃ b s,(bB k)[j]?=some (b,s):=⟨_,_,List.getElem?_eq_getElem hlt⟩
  have hmem:=List.mem_of_getElem? hbs
  obtain ⟨f1,f2,f3,f4,f5⟩:=oA hmem hwf.2.2 hlow
  obtain ⟨u,τ,G1,hmg,hru,hG1,hup⟩:=Ci hR (qJ hwf.2.1 hmem) hwf.2.1
  have hbv:(bsI (aP k)).getD (0+(j:Int).toNat) 0=bI b:=byte_at hbs
  have g0:(0:Int)<=(j:Int):=by omega
  have g1:(j:Int) < ((aP k).length:Int):=by omega
  have g2:0+(j:Int).toNat < (aP k).length:=by omega
  have hbI:0<=bI b/\bI b < 128:=by unfold bI; omega
  have q1:-2147483648<=(bsI (aP k)).getD (0+(j:Int).toNat) 0:=by rw [hbv]; omega
  have q2:(bsI (aP k)).getD (0+(j:Int).toNat) 0<=2147483647:=by rw [hbv]; omega
  have q3:0<=(bsI (aP k)).getD (0+(j:Int).toNat) 0:=by rw [hbv]; omega
  have q4:(bsI (aP k)).getD (0+(j:Int).toNat) 0 < 128:=by rw [hbv]; omega
  have hk10:((kdL k).take j).length<=12:=by rw [List.length_take,Ln]; omega
  have q5:((aP k).take j).length+1<=9223372036854775807:=by rw [List.length_take]; omega
  have ht':(aP k).take j++[UInt8.ofNat ((bsI (aP k)).getD (0+(j:Int).toNat) 0).toNat]=(aP k).take (j+1):=by
   rw [hbv]; unfold bI; rw [Int.toNat_natCast,UInt8.ofNat_toNat]
   exact (Oi hbs).symm
  have hmg':mget l (.i .u8 ((bsI (aP k)).getD (0+(j:Int).toNat) 0))=some (u,τ):=by rw [hbv]; exact hmg
  repeat' (first|apply And.intro|exact trivial|exact rfl|exact zm N rfl|exact zm N' rfl|exact zr N' rfl rfl|exact zr N rfl rfl|exact zf|exact zh|refine zt ?_|(with_reducible first|exact g0|exact g1|exact g2)|fail)
  ·exact q1
  ·exact q2
  ·exact q3
  ·exact q4
  ·exact q5
  refine Exists.intro (noO 0 (.node a ids.length m ((ids.length+szK k:Nat):Int) mk)) (And.intro (congrArg (noO 0) hnv') ?_)
  repeat' (first|apply And.intro|exact trivial|exact rfl|exact zm N rfl|exact zm N' rfl|exact zr N' rfl rfl|exact zr N rfl rfl|exact zf|exact zh|refine zt ?_|fail)
  refine Exists.intro (noO 0 (.map l q)) (And.intro (congrArg (noO 0) hmp') ?_)
  refine iB.tT hmg' ?_
  repeat' (first|apply And.intro|exact trivial|exact rfl|exact zm N rfl|exact zm N' rfl|exact zr N' rfl rfl|exact zr N rfl rfl|exact zf|exact zh|refine zt ?_|fail)
  refine Exists.intro ⟨N',s,u,G1⟩ (Exists.intro [0] ?_)
  have hd:DOk n ⟨N',s,u,G1⟩:=⟨hru,f1,show szT s<=12 by omega,hM.tk htk,f3,show htT s<=n by omega,Ev hmem hsh.2⟩
  repeat' (first|exact hd|apply And.intro|exact trivial|exact rfl|exact zm N rfl|exact zm N' rfl|exact zr N' rfl rfl|exact zr N rfl rfl|exact zf|exact zh|refine zt ?_|fail)
  refine fun (N2:Nat->NO) (hp2:DPo ⟨N',s,u,G1⟩ N2)=>?_
  repeat' (first|apply And.intro|exact trivial|exact rfl|exact zm N rfl|exact zm N' rfl|exact zr N' rfl rfl|exact zr N rfl rfl|exact zf|exact zh|refine zt ?_|exact zm N2 rfl|exact zr N2 rfl rfl|fail)
  ·exact Nat.le_refl 1
  ·exact fun j hj=>by obtain rfl:j=0:=(by omega); rfl
  ·show ((kdL k).take j).length+1<=9223372036854775807
   omega
  ·show (((kdL k).take j).length+1) * 16<=140737488355328
   omega
  ·show (-9223372036854775808:Int)<=(j:Int)+1
   omega
  ·show (j:Int)+1<=9223372036854775807
   omega
  have hkt:(kdL k).take (j+1)=(kdL k).take j++[oI Dd s]:=Pd hbs
  have hkl2:((kdL k).take j).length+1=((kdL k).take (j+1)).length:=by rw [hkt,List.length_append]; rfl
  have hLI:LI N H k l (j+1) N2:=⟨hlt,hM.trans hp2.mrk,fun z hz=>(hp2.out z fun h=>hz (hG1 z h)).trans (hO z hz),hup N2 hp2.rep hp2.out⟩
  refine Exists.intro (j+1,N2) (And.intro hLI (And.intro ?_ (show (bB k).length - (j+1) < (bB k).length - j by omega)))
  repeat' (first|apply And.intro|exact trivial|exact rfl|exact zm N rfl|exact zm N' rfl|exact zr N' rfl rfl|exact zr N rfl rfl|exact zf|exact zh|refine zt ?_|exact fun (j:Nat) (hj:j < _)=>Or.inl (aL _ _ _ _)|exact cG (fun a=>aW _ _ _ a)|exact bG (fun a=>aW _ _ _ a)|exact zm N2 rfl|exact zr N2 rfl rfl|exact ht'|exact hkl2|exact hkl2.symm|fail)
  ·exact Tf hkt rfl
 ·refine fun (hlt:decide ((j:Int) < ((aP k).length:Int))=false)=>?_
  replace hlt:j=(bB k).length:=by have:=of_decide_eq_false hlt; omega
  subst hlt
  repeat' (first|apply And.intro|exact trivial|exact rfl|exact zm N rfl|exact zm N' rfl|exact zr N' rfl rfl|exact zr N rfl rfl|exact zf|exact zh|refine zt ?_|exact cG (fun a=>aW _ _ _ a)|exact bG (fun a=>aW _ _ _ a)|exact fun (j:Nat) (hj:j < _)=>Or.inl (aL _ _ _ _)|fail)
  have hb1:(aP k).take (bB k).length=(ndT (.node ids k)).bys:=by
   show _=(uF Dd k).map (·.1)
   rw [A2,<- hbl,List.take_length]
  have hk1:(kdL k).take (bB k).length=(ndT (.node ids k)).kids:=by
   rw [<- Ln,List.take_length]; rfl
  have hk2:((kdL k).take (bB k).length).length=(ndT (.node ids k)).kids.length:=by rw [hk1]
  have hk3:(kdL k).take (bB k).length=kdL k:=hk1
  have hpo:DPo ⟨N,.node ids k,v,F⟩ N':=by
   refine ⟨hM,fun z hz=>hO z fun h=>hz ((hF z).2 (.inr (.inr (.inr h)))),a,m,mk,l,q,H,hnv',?_,hmp',hmk,hpm,hR,hav,ham,hHv,hHm,hHa,hF⟩
   rw [hO a hHa]
   exact hlst
  refine Exists.intro N' (And.intro hpo ?_)
  repeat' (first|apply And.intro|exact trivial|exact rfl|exact zm N rfl|exact zm N' rfl|exact zr N' rfl rfl|exact zr N rfl rfl|exact zf|exact zh|refine zt ?_|exact cG (fun a=>aW _ _ _ a)|exact bG (fun a=>aW _ _ _ a)|exact fun (j:Nat) (hj:j < _)=>Or.inl (aL _ _ _ _)|exact hb1|exact hk2|exact hk2.symm|fail)
  exact Al hk3
def g55:List Nat:=[7,0,2]
def c55:aF :=
 .seq (.region g55 [(zo 2 (.move (.c (.str []))))]) (.seq (.seq (.region g55 [(mv 3 0),(zo 4 (.nilCheck (.s 3))),(fa 5 3 4),(ld 6 5),(zo 7 (.bin (.eql) (.s 6) (.c (.str []))))]) (.cond (.s 7) (.region g55 [(mv 8 0),(mv 9 0),(zo 10 (.call (.c (.fn 57)) [.s 9])),(zo 11 (.call (.c (.fn 19)) [.s 10])),(zo 12 (.nilCheck (.s 8))),(fa 13 3 12),⟨none,none,.store 1 (.s 13) (.s 11),[]⟩]) .skip)) (.seq (.region g55 [(mv 14 0),(zo 15 (.nilCheck (.s 14))),(fa 16 3 15),(ld 17 16),(mv 2 17)]) .ret))
theorem e55:aO Tryz.prog 55 g55 [] [] []=some (c55,[.slot 2],18):=by kernel_rfl
theorem dg0:(dgS 0).Ok Tryz.prog 55:=by
 refine ⟨nV e55,?_⟩
 intro x w μ vs T U
 intros
 rename_i hp _
 have:=Ei x.T
 have:=hp.ht
 omega
theorem Uy {n:Nat} (ih:(shS n).Ok Tryz.prog 57):(dgS n).Ok Tryz.prog 55:=by
 refine Eng.aK.okR e55 .nil (fun _=>[(57,.m (shS n)),(19,.m Sl)]) (fun _ _=>aD.m ih (aD.m Gp aD.nil)) ?_
 rintro ⟨N,T,v,F⟩ hok
 cases T with
 | node ids k =>
 have hrep:dG Dd N (.node ids k) v F:=hok.rep
 have hpre:=Ts hok.wf hok.sz hok.sh
 obtain ⟨a,m,mk,l,q,H,hnv,hlst,hmp,hmk,hpm,hrk,hav,ham,hHv,hHm,hHa,hF⟩:=hrep
 refine ⟨trivial,?_⟩
 repeat' (first|apply And.intro|exact trivial|exact rfl|exact zm N rfl|exact zm N' rfl|exact zr N' rfl rfl|exact zr N rfl rfl|exact zf|exact zh|refine zt ?_|fail)
 refine Exists.intro (noO 0 (.node a ids.length m ((ids.length+szK k:Nat):Int) mk)) (And.intro (congrArg (noO 0) hnv) ?_)
 repeat' (first|apply And.intro|exact trivial|exact rfl|exact zm N rfl|exact zm N' rfl|exact zr N' rfl rfl|exact zr N rfl rfl|exact zf|exact zh|refine zt ?_|fail)
 have hset:∀ (N2:Nat->NO) (d:B) (i:Nat),(bif Nat.beq i v then noO 0 (.node a ids.length m ((ids.length+szK k:Nat):Int) d) else noO 0 (N2 i))=noO 0 (Fo N2 v (.node a ids.length m ((ids.length+szK k:Nat):Int) d) i):=by
  intro N2 d i
  unfold Fo
  cases Nat.beq i v <;> rfl
 ·refine fun (hk0:decide (mk=[])=true)=>?_
  replace hk0:mk=[]:=of_decide_eq_true hk0
  repeat' (first|apply And.intro|exact trivial|exact rfl|exact zm N rfl|exact zm N' rfl|exact zr N' rfl rfl|exact zr N rfl rfl|exact zf|exact zh|refine zt ?_|fail)
  refine Exists.intro ⟨N,.node ids k,v,F⟩ (Exists.intro [0] ?_)
  repeat' (first|exact hok|apply And.intro|exact trivial|exact rfl|exact zm N rfl|exact zm N' rfl|exact zr N' rfl rfl|exact zr N rfl rfl|exact zf|exact zh|refine zt ?_|fail)
  refine fun (N2:Nat->NO) (hp2:DPo ⟨N,.node ids k,v,F⟩ N2)=>?_
  repeat' (first|apply And.intro|exact trivial|exact rfl|exact zm N2 rfl|exact zr N2 rfl rfl|exact zf|exact zh|refine zt ?_|fail)
  refine Exists.intro (ndT (.node ids k)) (Exists.intro [] ?_)
  repeat' (first|exact hpre|apply And.intro|exact trivial|exact rfl|exact zf|exact zh|refine zt ?_|exact fun (j:Nat) (hj:j < _)=>Or.inl (aL _ _ _ _)|exact Nat.le_of_eq (Nat.zero_add _)|exact (fun (j:Nat) _=>by rw [Nat.zero_add]; exact Or.inl (aL _ _ _ _))|fail)
  refine fun (y:B) (hy:y=kB (ndT (.node ids k)))=>?_
  subst hy
  repeat' (first|apply And.intro|exact trivial|exact rfl|exact zf|exact zh|refine zt ?_|exact fun (j:Nat) (hj:j < _)=>Or.inl (aL _ _ _ _)|fail)
  obtain ⟨a',m',mk',l',q',H',hnv2,hlst2,hmp2,hmk2,hpm2,hrk2,hav2,ham2,hHv2,hHm2,hHa2,hF2⟩:=hp2.rep
  refine Exists.intro (rnO [(0,0),(1,1),(2,2)] [(0,0),(1,1),(2,2)] (noO 0 (.node a' ids.length m' ((ids.length+szK k:Nat):Int) mk'))) (And.intro (congrArg (fun o=>rnO [(0,0),(1,1),(2,2)] [(0,0),(1,1),(2,2)] (noO 0 o)) hnv2) ?_)
  repeat' (first|apply And.intro|exact trivial|exact rfl|exact zf|exact zh|refine zt ?_|exact fun (j:Nat) (hj:j < _)=>Or.inl (aL _ _ _ _)|fail)
  refine Exists.intro _ (And.intro (pZ _ _ _) ?_)
  repeat' (first|apply And.intro|exact trivial|exact rfl|exact zf|exact zh|refine zt ?_|exact fun (j:Nat) (hj:j < _)=>Or.inl (aL _ _ _ _)|fail)
  have hpo:DPo ⟨N,.node ids k,v,F⟩ (put N2 v (.node a' ids.length m' ((ids.length+szK k:Nat):Int) (kB (ndT (.node ids k))))):=by
   have hMk2:=P5 (mk':=kB (ndT (.node ids k))) hnv2
   have hne:∀ x,x≠v->put N2 v (.node a' ids.length m' ((ids.length+szK k:Nat):Int) (kB (ndT (.node ids k)))) x=N2 x:=fun x hx=>Hm (o:=.node a' ids.length m' ((ids.length+szK k:Nat):Int) (kB (ndT (.node ids k)))) hx
   have hmv:m'≠v:=by
    intro e
    subst e
    rw [hmp2] at hnv2
    cases hnv2
   refine ⟨hp2.mrk.trans hMk2,fun z hz=>?_,a',m',_,l',q',H',xP _ _ _,?_,(hne _ hmv).trans hmp2,.inr rfl,hpm2,?_,hav2,ham2,hHv2,hHm2,hHa2,hF2⟩
   ·have hzv:z≠v:=fun e=>hz ((hF2 z).2 (.inl e))
    exact (hne z hzv).trans (hp2.out z hz)
   ·rw [hne _ hav2]
    exact hlst2
   ·exact fK hrk2 fun x hx=>hne x fun e=>hHv2 (e ▸ hx)
  refine Exists.intro (put N2 v (.node a' ids.length m' ((ids.length+szK k:Nat):Int) (kB (ndT (.node ids k))))) (And.intro hpo ?_)
  repeat' (first|apply And.intro|exact trivial|exact rfl|exact zf|exact zh|refine zt ?_|exact fun (j:Nat) (hj:j < _)=>Or.inl (aL _ _ _ _)|exact mD (iI (by exact rfl)) (fun i=>gP (by exact rfl) (by exact rfl) (N2 i))|fail)
 ·refine fun (hk0:decide (mk=[])=false)=>?_
  replace hk0:mk≠[]:=of_decide_eq_false hk0
  have hmk':mk=oI Dd (.node ids k):=by
   rcases hmk with h|h
   ·exact absurd h hk0
   ·exact h
  repeat' (first|apply And.intro|exact trivial|exact rfl|exact zm N rfl|exact zm N' rfl|exact zr N' rfl rfl|exact zr N rfl rfl|exact zf|exact zh|refine zt ?_|fail)
  refine Exists.intro (noO 0 (.node a ids.length m ((ids.length+szK k:Nat):Int) mk)) (And.intro (congrArg (noO 0) hnv) ?_)
  repeat' (first|apply And.intro|exact trivial|exact rfl|exact zm N rfl|exact zm N' rfl|exact zr N' rfl rfl|exact zr N rfl rfl|exact zf|exact zh|refine zt ?_|fail)
  refine Exists.intro N (And.intro ⟨Mk.refl N,fun _ _=>rfl,hok.rep⟩ ?_)
  repeat' (first|exact hmk'|apply And.intro|exact trivial|exact rfl|exact zm N rfl|exact zm N' rfl|exact zr N' rfl rfl|exact zr N rfl rfl|exact zf|exact zh|refine zt ?_|fail)
theorem sh0:(shS 0).Ok Tryz.prog 57:=by
 refine ⟨nV e57,?_⟩
 intro x w μ vs T U
 intros
 rename_i hp _
 have:=Ei x.T
 have:=hp.ht
 omega
theorem both:∀ n,(dgS n).Ok Tryz.prog 55/\(shS n).Ok Tryz.prog 57
 | 0=>⟨dg0,sh0⟩
 | n+1=>⟨Uy (Rk (both n).1),Rk (both n).1⟩
end D10
end
