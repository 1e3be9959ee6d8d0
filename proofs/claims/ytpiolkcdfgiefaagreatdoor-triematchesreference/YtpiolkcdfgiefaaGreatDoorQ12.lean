/- A part of the proof. -/
import Derived.Test.YtpiolkcdfgiefaaGreatDoorQ2
import Derived.Lib.BufSteps
import Derived.Laws.BytesArg
import Derived.OwnWalk
import Derived.Lib.LazyBuf
import Derived.Test.YtpiolkcdfgiefaaGreatDoorT28
import Derived.Test.YtpiolkcdfgiefaaGreatDoorD14
import Derived.Test.YtpiolkcdfgiefaaGreatDoorT34
import Derived.Test.YtpiolkcdfgiefaaGreatDoorT41
import Derived.Test.YtpiolkcdfgiefaaGreatDoorT38
import Derived.Test.YtpiolkcdfgiefaaGreatDoorD10
import Derived.Shelf.Strings.SlTrimAscii
section
set_option maxHeartbeats 10000000
open Go Go.Eng Go.Proofs Go.RowKit Go.Shelf T1 T3 D2 D3 D6 D7 Q1 Q2
set_option maxRecDepth 1000000
namespace Q3
def room:List B->Nat
 | []=>0
 |s::l=>s.length+21+room l
theorem Pn(l:List B):∀i,i<l.length->room (l.take (i+1))=room (l.take i)+((l.getD i []).length+21):=by
 induction l with
 |nil=>simp
 |cons s l ih =>
  intro i h;cases i with
  |zero=>simp[room]
  |succ i =>
   grind[room]
theorem room_le(l:List B):∀i,room (l.take i)<=room l:=by
 induction l with
 |nil=>simp
 |cons s l ih =>
  intro i;cases i with
  |zero=>simp[room]
  |succ i =>
   grind[room]
theorem Nw{B:Nat}{e:TypeId}{v:Value}{l:List UInt8}{W0 w:World}(h:Lib.OwnBuf B e v l.length (Lib.byteCells l) W0 w)(hl:0<l.length) :
  ∃g cap,v=.slice (some ⟨g,0,none⟩) l.length cap/\∀i,i<l.length->w.cell? ⟨g,0+i,none⟩=some (.int .u8 ((l.map λb=>(b.toNat:Int)).getD i 0)):=by
 rcases h.1.2 with⟨_,h0⟩|⟨g,cap,cur,fz,rfl,_⟩
 .omega
 .refine ⟨g,cap,by simp,λi hi=>?_⟩;have:=h.1.cells (g:=g) (by simp[Value.ownBlock]) i (.int .u8 ((l.map λb=>(b.toNat:Int)).getD i 0)) (by grind[Lib.byteCells])
  grind[Addr.add]
theorem N9(n:Nat)(hn:n<=9223372036854775807)(w:World)(hg:GV w):Calls Tryz.prog 53 #[.int .i64 (n:Int)] w λe w'=>e=.returned (.string ⟨(Lib.itoa (n:Int)).toArray⟩)/\RowKit.Below w.heap.size w w':=by
 refine(Qz.does (n:Int) w [.int .i64 (n:Int)] (λ_=>False) (λ_ h=>h.elim) hg ⟨by omega,by omega⟩ ⟨_,_,rfl,rfl,rfl⟩).mono ?_;intro e w' he;cases e with
 |returned v =>
  obtain⟨h1,h2⟩:=he;exact⟨by rw[aC.1 h1],h2.row⟩
 |panicked c=>exact he.elim
 |outgrown=>exact he.elim
theorem Pf{B:Nat}{e:TypeId}{v:Value}{n:Nat}{xs:List Value}{W0 w w':World}(h:Lib.OwnBuf B e v n xs W0 w)(hb:RowKit.Below w.heap.size w w'):Lib.OwnBuf B e v n xs W0 w' :=
 ⟨h.1.kept (row:=none) ⟨hb.os,hb.tape,hb.output,hb.size,λk hk _=>hb.block k hk⟩ (Classical.em _),h.2.1.trans (hb.mono h.2.2),aV h.2.2 hb.size⟩
theorem Sf{l:List B}(h:0<l.length):0<(dG l).length:=by
 cases l with
 |nil=>grind
 |cons s l =>
  have e:dG (s::l)=rK s++dG l:=rfl
  grind[rK]
theorem Qv:(Tryz.prog.info? 5).map (λi=>(i.zero,i.size,i.bytes))=some (some (.int .u8 0),1,1):=by kernel_rfl
set_option maxHeartbeats 1000000 in
theorem Jo(l:List B)(a:Option Addr)(cap:Nat)(w:World)(hgv:GV w)(hn:l.length<=1000000)(hl0:0<l.length)(hr:room l<=140737488355328)(hj:(dG l).length<=140737488355328)
  (hel:∀i,i<l.length->∃b off,a=some ⟨b,off,none⟩/\b<w.heap.size/\w.cell? ⟨b,off+i,none⟩=some (.string ⟨(l.getD i []).toArray⟩)) :
  Calls Tryz.prog 79 #[.slice a l.length cap] w λe w'=>e=.returned (.string ⟨(dG l).toArray⟩)/\RowKit.Below w.heap.size w w':=by
 obtain⟨i0,hi,hz0,hz1,hz2⟩:=info_parts Qv
 go_enter Tryz.func79,Tryz.ntmps79
 go_wp2
 go_loopg [3,4] l.length (λg s3 s4 wx=>∃i:Nat,s3=.int .i64 (room (l.take i):Int)/\s4=.int .i64 (i:Int)/\i+g=l.length/\RowKit.Below w.heap.size w wx)
 case atStart=>exact⟨0,rfl,rfl,by omega,RowKit.Below.refl _ w⟩
 case round =>
  obtain⟨i,rfl,rfl,hig,hbx⟩:=hrel;cases gk with
  |zero =>
   obtain rfl:i=l.length:=by omega
   have hno:¬((l.length:Int)<(l.length:Int)):=Int.lt_irrefl _;rw[iS]
   go_wp2_with (at_make; refine wpList_make_own _ rfl _ _ 87 rfl w.heap.size 5 i0 (.int .u8 0) 1 Tryz.underlying87 hi hz0 hz1 _ _ _ (room l) rfl rfl (by rfl) (by grind) (by unfold maxLen; omega) hbx.size ?_; intro w1 hown hg)
   have hb0:Lib.OwnBuf w.heap.size 5 (.slice (some ⟨wr.heap.size,0,none⟩) 0 (room l)) (dG (l.take 0)).length (Lib.byteCells (dG (l.take 0))) w w1 :=
    ⟨World.ownsRowF_of hown,hbx.grown hg hbx.size (by simp),aV hbx.size hg.size⟩
   go_loopg [5,6] l.length (λg s5 s6 wx=>∃i:Nat,s6=.int .i64 (i:Int)/\i+g=l.length/\Lib.OwnBuf w.heap.size 5 s5 (dG (l.take i)).length (Lib.byteCells (dG (l.take i))) w wx)
   case atStart=>grind
   case round =>
    obtain⟨i,rfl,hig,hB⟩:=hrel;cases gk with
    |zero =>
     obtain rfl:i=l.length:=by omega
     have hno:¬((l.length:Int)<(l.length:Int)):=Int.lt_irrefl _;rw[iS]at hB;obtain⟨gb,cp,rfl,hcells⟩:=Nw hB (Sf hl0);have hcv:=run_convert_bytes_arg (P:=Tryz.prog) (w:=wr) 87 5 Tryz.underlying87 Tryz.underlying5 gb 0 _ cp ((dG l).map λb=>(b.toNat:Int)) (by rw[cS]) hcells 9 Tryz.underlying9;rw[Lib.Lz.strOfNums_map]at hcv
     go_wp2
     go_ret
     exact⟨rfl,hB.2.1⟩
    |succ g =>
     have hil:i<l.length:=by omega
     have hil':(i:Int)<(l.length:Int):=by omega
     obtain⟨b,off,rfl,hb,hc⟩:=hel i hil;have hc2:=(hB.2.1.cell (p:=⟨b,off+i,none⟩) hb).trans hc;obtain⟨s,hs'⟩:∃s,l.getD i []=s:=⟨_,rfl⟩;have hsl:=zQ hn hj i hil;have hjs:=Al i hil;rw[hs']at hc hc2 hsl hjs;obtain⟨S,hS⟩:∃S:ByteArray,(⟨s.toArray⟩:ByteArray)=S:=⟨_,rfl⟩;rw[hS]at hc hc2;have hSz:S.size=s.length:=by rw[<- hS]; rfl
     have hlen:(rK s).length=(Lib.itoa (s.length:Int)).length+(s.length+1):=by grind[rK]
     have cI:=N9 s.length (by omega) wr (Lx hgv hB.2.1);obtain⟨I,hI⟩:∃I:ByteArray,(⟨(Lib.itoa (s.length:Int)).toArray⟩:ByteArray)=I:=⟨_,rfl⟩;rw[hI]at cI;have hId:I.data.toList=Lib.itoa (s.length:Int):=by rw[<- hI]
     have hIz:I.size=(Lib.itoa (s.length:Int)).length:=by rw[Lib.size_eq,hId]
     have hSd:S.data.toList=s:=by rw[<- hS]
     go_wp2_with (first|(go_at_call 53; go_fit cI; rintro e W1 ⟨rfl,b1⟩; have hB1:=Pf hB b1)|(at_builtin; first
      | (refine Lib.wpList_append_byte rfl _ _ 87 rfl w.heap.size 5 i0 Tryz.underlying87 hi hz0 hz1 hz2 _ _ _ rfl w _ _ (by assumption) rfl (by omega) ?_; intro v3 W3 hB3; have hc3:=(hB3.2.1.cell (p:=⟨b,off+i,none⟩) hb).trans hc)
      | (refine Lib.wpList_append_text rfl _ _ 87 9 rfl w.heap.size 5 i0 Tryz.underlying87 Tryz.underlying9 hi hz0 hz1 hz2 _ _ _ rfl w (by assumption) _ rfl (by omega) ?_; intro v2 W2 hB2)))
     go_roundg g
     case measure=>omega
     case rel =>
      refine⟨i+1,rfl,by omega,?_⟩;have e1:Lib.byteCells (dG (l.take i))++Lib.strCells I++[.int .u8 58]++Lib.strCells S=Lib.byteCells (dG (l.take (i+1))):=by
       grind[rK,Lib.strCells_eq,Lib.byteCells]
      grind
  |succ g =>
   have hil:i<l.length:=by omega
   have hil':(i:Int)<(l.length:Int):=by omega
   obtain⟨b,off,rfl,hb,hc⟩:=hel i hil;have hc2:=(hbx.cell (p:=⟨b,off+i,none⟩) hb).trans hc;obtain⟨s,hs'⟩:∃s,l.getD i []=s:=⟨_,rfl⟩;have hrt:=Pn l i hil;have hrl:=room_le l (i+1);rw[hs']at hc2 hrt;obtain⟨S,hS⟩:∃S:ByteArray,(⟨s.toArray⟩:ByteArray)=S:=⟨_,rfl⟩;rw[hS]at hc2;have hSz:S.size=s.length:=by rw[<- hS]; rfl
   go_wp2
   go_roundg g
   case measure=>omega
   case rel =>
    refine⟨i+1,?_,rfl,by omega,hbx⟩;simp[*]
def Mh:Eng.Spec where
 X:=List B
 args:=λl=>.cons (slE l) .nil
 pre:=λl=>(l.length<=1000000/\0<l.length)/\room l<=140737488355328/\(dG l).length<=140737488355328
 res:=λl=>.str (dG l)
 inst:=λ_=>none
theorem Xb:Mh.Ok Tryz.prog 79:=by
 refine pX (enters_of Tryz.func79 (by kernel_rfl) rfl) ?_;rintro l w vs U hg ⟨⟨(h1:l.length<=1000000),(h0:0<l.length)⟩,(h3:room l<=140737488355328),(h2:(dG l).length<=140737488355328)⟩ hR;simp only[Mh,T3.slE,R]at hR;obtain⟨v1,r1,rfl,⟨a,cap,e1,-,hel⟩,rfl⟩:=hR;obtain rfl:=aC.1 e1;refine⟨_,(Jo l a cap w hg h1 h0 h3 h2 λi hi=>?_).mono λe w' h=>⟨h.1,blw h.2⟩,λE=>by simp only[Mh,R]⟩;obtain⟨b,off,cs,ha,h3,h4,h5⟩:=hel i hi;simp only[T1.idE,R]at h4;obtain⟨x,xs,rfl,e2,rfl⟩:=h4;obtain rfl:=aC.1 e2;have hc:=h5.2 0 _ rfl;rw[Nat.mul_one,Nat.add_zero]at hc;refine⟨b,off,ha,?_,hc⟩;exact World.block_lt_of_cell? w _ hc
def Zh:bC:=Mh.mof B (λx y=>y=dG x) (λ_ y=>.str y)
theorem Sg:Zh.Ok Tryz.prog 79:=Eng.Spec.jW Xb λ_ _=>⟨_,rfl,rfl⟩
def g54:List Nat:=[0,2]
def c54:aY :=
 .seq (.region g54 [(zo 2 (.move (.c (.str []))))]) (.seq (.region g54 [(mv 3 0),(zo 4 (.call (.c (.fn 79)) [.s 3])),(zo 5 (.call (.c (.fn 78)) [.s 4])),(mv 2 5)]) .ret)
theorem e54:bO Tryz.prog 54 g54 [] [] []=some (c54,[.slot 2],6):=by kernel_rfl
def Un:Eng.Spec where
 X:=List B
 args:=λl=>.cons (slE l) .nil
 pre:=λl=>(l.length<=1000000/\0<l.length)/\room l<=140737488355328/\(dG l).length<=140737488355328
 res:=λl=>.str (mQ l)
 inst:=λ_=>none
def Zy:bC:=Zz.mof B (λx y=>y=yW x) (λ_ y=>.str y)
theorem Ur:Zy.Ok Tryz.prog 78:=Eng.Spec.jW Yd λ_ _=>⟨_,rfl,rfl⟩
theorem Uo:Un.Ok Tryz.prog 54:=by
 refine Eng.Spec.okR e54 .nil (λ_=>[(79,.m Zh),(78,.m Zy)]) (by grind[aO.m,Sg,Ur,aO.nil]) ?_;rintro l ⟨⟨(h1:l.length<=1000000),(h0:0<l.length)⟩,(h3:room l<=140737488355328),(h2:(dG l).length<=140737488355328)⟩;have hp:(l.length<=1000000/\0<l.length)/\room l<=140737488355328/\(dG l).length<=140737488355328:=⟨⟨h1,h0⟩,h3,h2⟩;have hj:(dG l).length<4611686018427387904:=by omega
 refine⟨trivial,?_⟩;refine aB l (aB [] ?_);repeat' (first|exact hp|apply aA|exact trivial|exact rfl|exact lz λ_=>rfl|fail)
 refine λ(y:B) (hy:y=dG l)=>?_;have hy2:y.length<4611686018427387904:=by simp[*]
 refine aB y (aB [] ?_);repeat' (first|exact hy2|apply aA|exact trivial|exact rfl)
 refine λ(z:B) (hz:z=yW y)=>?_;have hz2:z=mQ l:=by rw[hz,hy]; rfl
 repeat' (first|exact hz2)
end Q3
end
section
set_option maxHeartbeats 10000000
open Go Go.Eng Go.Proofs A0 T1 T3 T23 T25 D2 D3 D6 Q1 Q3
set_option maxRecDepth 100000
namespace Q4
def Um:bC:=Un.mof B (λx y=>y=mQ x) (λ_ y=>.str y)
theorem Pm:Um.Ok Tryz.prog 54:=Eng.Spec.jW Uo λ_ _=>⟨_,rfl,rfl⟩
def hdJ(n:ND)(j:Nat):List B:=[116,114,105,101]::Lib.itoa (n.ids.length:Int)::n.ids.take j
theorem Ly(n:ND){j:Nat}(h:j<=n.ids.length):(hdJ n j).length=2+j:=by
 grind[hdJ]
theorem R6(n:ND){j:Nat}(h:j<n.ids.length):hdJ n (j+1)=hdJ n j++[n.ids.getD j []]:=by
 grind[hdJ,List.take_add_one]
theorem Eh(n:ND):hdJ n n.ids.length=D6.cA n++dO n 0:=by
 grind[hdJ,D6.cA,dO]
theorem aEq{k:Keep}{hp:List (Nat×aL)}{n:ND}{j m:Nat}(h:j<n.ids.length)(hm:m=(hdJ n j).length+1):∀i,i<m->lM k (sub k hp 200) (gH (hdJ n j).length (λq=>idE ((hdJ n j).getD q [])) (λq=>mO (.cons (.cons (.str (n.ids.getD (j:Int).toNat [])) .nil) .nil) (0+q)) i) (idE ((hdJ n (j+1)).getD i [])):=by
 rw[R6 n h];exact mK (enc:=idE) (d:=[]) (λa=>fS _ _ _ a) rfl hm
theorem X1{P:Nat->Prop}(h0:P 0):∀j,j<1->P j:=by
 simp[*]
theorem aEr{k:Keep}{hp:List (Nat×aL)}{n:ND}{m:Nat}:∀i,i<m->lM k (sub k hp 200) (idE ((hdJ n n.ids.length).getD i [])) (idE ((D6.cA n++dO n 0).getD i [])):=by
 intro i _;rw[Eh];exact Or.inl (fS _ _ _ _)
theorem aB7{k:Keep}{hp:List (Nat×aL)}{n:ND}{j:Nat}{x y:B}{m:Nat}(hx:x=(n.bys.drop j).take 1)(hy:y=n.kids.getD j [])(hm:m=(D6.cA n++dO n j).length+2):∀i,i<m->lM k (sub k hp 200) (gH (D6.cA n++dO n j).length (λq=>idE ((D6.cA n++dO n j).getD q [])) (mO (.cons (.cons (.str x) .nil) (.cons (.cons (.str y) .nil) .nil))) i) (idE ((D6.cA n++dO n (j+1)).getD i [])):=by
 have h:=Si (k:=k) (hp:=hp) (n:=n) (j:=j) hx hy hm;simp only[aP]at h;exact h
def g20:List Nat:=[0,12,22,4,37,1,5,3,2]
def c20:aY :=
 .seq (.region g20 [(zo 1 (.box 39 (.s 0))),(zo 2 (.move (.c (.str []))))]) (.seq (.seq (.region g20 [(fa 6 1 1),(ld 7 6),(zo 8 (.lenStr (.s 7))),(fa 9 2 1),(ld 10 9),(zo 11 (.lenSl (.s 10))),(zo 12 (.bin (.neq) (.s 8) (.s 11)))]) (.cond (.s 12) (.seq (.region g20 [(zo 2 (.move (.c (.str []))))]) .ret) .skip)) (.seq (.region g20 [(fa 13 0 1),(ld 14 13),(zo 15 (.lenSl (.s 14))),(zo 16 (.call (.c (.fn 53)) [.s 15])),(zo 17 (.buildSl 9 1 2 (.cons (.str []) .nil) [(0,1,.c (.str [116,114,105,101])),(1,1,.s 16)])),(mv 3 17)]) (.seq (.seq (.region g20 [(zo 4 (.move (cj 0)))]) (.block 0 (.loop 0 [18,19,20,21,22,25,26,27,28,29,30,31,32,3,23,24,4] (.seq (.seq (.region g20 [(mv 18 4),(fa 19 0 1),(ld 20 19),(zo 21 (.lenSl (.s 20))),(zo 22 (.bin (.lss) (.s 18) (.s 21)))]) (.cond (.s 22) .skip (.exit 0))) (.seq (.block 1 (.region g20 [(mv 25 3),(fa 26 0 1),(ld 27 26),(mv 28 4),(zo 29 (.idxSl 1 (.s 27) (.s 28))),(ld 30 29),(zo 31 (.buildSl 9 1 1 (.cons (.str []) .nil) [(0,1,.s 30)])),(zo 32 (.app 9 1 16 (.s 25) (.s 31))),(mv 3 32)])) (.region g20 [(mv 23 4),(zo 24 (.bin (.add) (.s 23) (cj 1))),(mv 4 24)])))))) (.seq (.seq (.region g20 [(zo 5 (.move (cj 0)))]) (.block 2 (.loop 1 [33,34,35,36,37,40,41,42,43,44,45,46,47,48,49,50,51,52,53,3,38,39,5] (.seq (.seq (.region g20 [(mv 33 5),(fa 34 1 1),(ld 35 34),(zo 36 (.lenStr (.s 35))),(zo 37 (.bin (.lss) (.s 33) (.s 36)))]) (.cond (.s 37) .skip (.exit 2))) (.seq (.block 3 (.seq (.drawn [0,12,22,4,37,1,5,3,2,53] (.pure 0 (mv 40 3) (.pure 1 (fa 41 1 1) (.pure 2 (ld 42 41) (.pure 3 (mv 43 5) (.pure 4 (mv 44 5) (.pure 5 (zo 45 (.bin (.add) (.s 44) (cj 1))) (.pure 6 (zo 46 (.sliceStr (.s 42) (some (.s 43)) (some (.s 45)))) (.pure 7 (fa 47 2 1) (.pure 8 (ld 48 47) (.pure 9 (mv 49 5) (.pure 10 (zo 50 (.idxSl 1 (.s 48) (.s 49))) (.pure 11 (ld 51 50) (.pure 12 (zo 52 (.buildSl 9 1 2 (.cons (.str []) .nil) [(0,1,.s 46),(1,1,.s 51)])) (.eff 13 (zo 53 (.app 9 1 16 (.s 40) (.s 52))) [] .done .none))))))))))))))) (.region g20 [(mv 3 53)]))) (.region g20 [(mv 38 5),(zo 39 (.bin (.add) (.s 38) (cj 1))),(mv 5 39)])))))) (.seq (.region g20 [(mv 54 3),(zo 55 (.call (.c (.fn 54)) [.s 54])),(mv 2 55)]) .ret)))))
theorem e20:bO Tryz.prog 20 g20 [] [17] []=some (c20,[.slot 2],56):=by kernel_rfl
def aFs:Eng.Spec where
 X:=ND
 args:=λn=>.cons (.agg (ndL n)) .nil
 pre:=λn=>(n.ids.length<=100000/\n.kids.length<=100000)/\room (D6.cA n++dO n n.kids.length)<=140737488355328/\(dG (D6.cA n++dO n n.kids.length)).length<=140737488355328
 res:=λn=>.str (kQ n)
 inst:=λ_=>none
theorem aC6:aFs.Ok Tryz.prog 20:=by
 refine Eng.Spec.okR e20 .nil (λ_=>[(53,.p aEc),(54,.m Um),(2097152,.own)]) (λ_ _=>aO.p Qz (aO.m Pm (aO.o aO.nil))) ?_;rintro⟨ids,bys,kids⟩ ⟨⟨(h1:ids.length<=100000),(h2:kids.length<=100000)⟩,(h4:room (D6.cA ⟨ids,bys,kids⟩++dO ⟨ids,bys,kids⟩ kids.length)<=140737488355328),(h3:(dG (D6.cA ⟨ids,bys,kids⟩++dO ⟨ids,bys,kids⟩ kids.length)).length<=140737488355328)⟩;refine⟨trivial,?_⟩;repeat' (first|refine aA ?_ ?_)
 .refine λ(h:(!decide ((bys.length:Int)=(kids.length:Int)))=true)=>?_;have hne:¬bys.length=kids.length:=by
   grind
  have e:[]=kQ ⟨ids,bys,kids⟩:=(if_neg hne).symm;repeat' (first|exact e)
 .refine λ(h:(!decide ((bys.length:Int)=(kids.length:Int)))=false)=>?_;have he:bys.length=kids.length:=by
   grind
  repeat' (first|apply aA|exact trivial|exact rfl)
  .omega
  .grind
  refine⟨⟨Nat,λj=>j<=ids.length,λj=>[(4,.int .i64 (j:Int)),(3,.lsl 30 1 (hdJ ⟨ids,bys,kids⟩ j).length)],λj=>[lsH 30 (hdJ ⟨ids,bys,kids⟩ j),(0,.cells 39 (ndL ⟨ids,bys,kids⟩))],λj=>ids.length-j⟩,0,aS _,?_,?_⟩
  .repeat' (first|apply aA|exact trivial|exact rfl|exact lz λ_=>rfl|exact Nj (Or.inl (fS _ _ _ _)) (Or.inl (fS _ _ _ _))|fail)
  rintro(j:Nat) (kj:j<=ids.length);repeat' (first|refine aA ?_ ?_)
  .refine λ(hlt:decide ((j:Int)<(ids.length:Int))=true)=>?_;replace hlt:j<ids.length:=by grind
   have g0:(0:Int)<=(j:Int):=by omega
   have g1:(j:Int)<(ids.length:Int):=by omega
   have g2:-9223372036854775808<=(j:Int)+1:=by omega
   have g3:(j:Int)+1<=9223372036854775807:=by omega
   have hl1:=Ly ⟨ids,bys,kids⟩ (j:=j) kj;have hl2:=Ly ⟨ids,bys,kids⟩ (j:=j+1) hlt;have g8:ids.length-(j+1)<ids.length-j:=by omega
   repeat' (first|apply aA|exact rfl|(with_reducible first|exact g0|exact g1|exact g2|exact g3))
   .omega
   .exact X1 rfl
   .show (hdJ ⟨ids,bys,kids⟩ j).length+1<=9223372036854775807;omega
   .show ((hdJ ⟨ids,bys,kids⟩ j).length+1)*16<=140737488355328;omega
   have g9:(hdJ ⟨ids,bys,kids⟩ j).length+1=(hdJ ⟨ids,bys,kids⟩ (j+1)).length:=by omega
   refine aB (j+1) (aA hlt (aA ?_ g8));repeat' (first|apply aA|exact trivial|exact rfl|exact lz λ_=>rfl|fail)
   .exact g9
   .exact g9
   .exact aEq hlt rfl
  .refine λ(hlt:decide ((j:Int)<(ids.length:Int))=false)=>?_;replace hlt:j=ids.length:=by grind
   subst hlt;refine⟨⟨Nat,λj=>j<=kids.length,λj=>[(5,.int .i64 (j:Int)),(3,.lsl 31 1 (D6.cA ⟨ids,bys,kids⟩++dO ⟨ids,bys,kids⟩ j).length)],λj=>[lsH 31 (D6.cA ⟨ids,bys,kids⟩++dO ⟨ids,bys,kids⟩ j),(0,.cells 39 (ndL ⟨ids,bys,kids⟩))],λj=>kids.length-j⟩,0,aS _,?_,?_⟩
   .repeat' (first|apply aA|exact trivial|exact rfl|exact lz λ_=>rfl|fail)
    .exact congrArg List.length (Eh ⟨ids,bys,kids⟩)
    .exact congrArg List.length (Eh ⟨ids,bys,kids⟩)
    .exact aEr
   rintro(j:Nat) (kj:j<=kids.length);repeat' (first|refine aA ?_ ?_)
   .refine λ(hlt:decide ((j:Int)<(bys.length:Int))=true)=>?_;replace hlt:j<kids.length:=by grind
    have g0:(0:Int)<=(j:Int):=by omega
    have g1:(j:Int)<(kids.length:Int):=by omega
    have g2:-9223372036854775808<=(j:Int)+1:=by omega
    have g3:(j:Int)+1<=9223372036854775807:=by omega
    have g4:(j:Int)<=(j:Int)+1:=by omega
    have g5:(j:Int)+1<=(bys.length:Int):=by omega
    have hal:=mY ⟨ids,bys,kids⟩ j;have hal2:=mY ⟨ids,bys,kids⟩ (j+1);replace hal:(D6.cA ⟨ids,bys,kids⟩++dO ⟨ids,bys,kids⟩ j).length=2+ids.length+2*j:=hal;replace hal2:(D6.cA ⟨ids,bys,kids⟩++dO ⟨ids,bys,kids⟩ (j+1)).length=2+ids.length+2*(j+1):=hal2;have g6:(D6.cA ⟨ids,bys,kids⟩++dO ⟨ids,bys,kids⟩ j).length+2<=9223372036854775807:=by omega
    have g7:((D6.cA ⟨ids,bys,kids⟩++dO ⟨ids,bys,kids⟩ j).length+2)*16<=140737488355328:=by omega
    have g8:kids.length-(j+1)<kids.length-j:=by omega
    have g9:(D6.cA ⟨ids,bys,kids⟩++dO ⟨ids,bys,kids⟩ j).length+2=(D6.cA ⟨ids,bys,kids⟩++dO ⟨ids,bys,kids⟩ (j+1)).length:=by omega
    have hx:(bys.drop (j:Int).toNat).take (((j:Int)+1).toNat-(j:Int).toNat)=(bys.drop j).take 1:=by
     simp
    repeat' (first|apply aA|exact trivial|exact rfl|(with_reducible first|exact g0|exact g1|exact g2|exact g3))
    .exact g4
    .exact g5
    .exact g6
    .exact g7
    refine aB (j+1) (aA hlt (aA ?_ g8));repeat' (first|apply aA|exact trivial|exact rfl|exact lz λ_=>rfl|fail)
    .exact g9
    .exact g9
    .exact aB7 (n:=⟨ids,bys,kids⟩) (j:=j) hx rfl rfl
   .refine λ(hlt:decide ((j:Int)<(bys.length:Int))=false)=>?_;replace hlt:j=kids.length:=by grind
    subst hlt;have hal:=mY ⟨ids,bys,kids⟩ kids.length;replace hal:(D6.cA ⟨ids,bys,kids⟩++dO ⟨ids,bys,kids⟩ kids.length).length=2+ids.length+2*kids.length:=hal;have g1:(D6.cA ⟨ids,bys,kids⟩++dO ⟨ids,bys,kids⟩ kids.length).length<=1000000:=by omega
    have g0:0<(D6.cA ⟨ids,bys,kids⟩++dO ⟨ids,bys,kids⟩ kids.length).length:=by omega
    have gp:((D6.cA ⟨ids,bys,kids⟩++dO ⟨ids,bys,kids⟩ kids.length).length<=1000000/\0<(D6.cA ⟨ids,bys,kids⟩++dO ⟨ids,bys,kids⟩ kids.length).length)/\room (D6.cA ⟨ids,bys,kids⟩++dO ⟨ids,bys,kids⟩ kids.length)<=140737488355328/\(dG (D6.cA ⟨ids,bys,kids⟩++dO ⟨ids,bys,kids⟩ kids.length)).length<=140737488355328:=⟨⟨g1,g0⟩,h4,h3⟩;refine aB (D6.cA ⟨ids,bys,kids⟩++dO ⟨ids,bys,kids⟩ kids.length) (aB [] ?_);repeat' (first|exact gp|apply aA|exact trivial|exact rfl|exact cN (aP _)|exact(λ(j:Nat) _=>by rw[aP]; exact Or.inl (fS _ _ _ _))|fail)
    refine λ(y:B) (hy:y=mQ (D6.cA ⟨ids,bys,kids⟩++dO ⟨ids,bys,kids⟩ kids.length))=>?_;have he2:y=kQ ⟨ids,bys,kids⟩:=by rw[hy]; exact(if_pos he).symm
    repeat' (first|exact he2)
end Q4
end
section
set_option maxHeartbeats 10000000
open Go Go.Eng Go.Proofs T1 T2 T3 T4 T5 T10 T11 T12 T13 T14 T16 T17 T18 T19 T24 T26 T31 T35
set_option maxRecDepth 100000
namespace T62
theorem Z5{T:TT}(w:wfT T)(a:Ac):wfT (opT T a)/\szT (opT T a)<=szT T+1:=by
 unfold opT;cases a.1 with
 |true =>
  show wfT (lP T a.2)/\szT (lP T a.2)<=_;unfold lP;split
  .grind [iY,T16.xZ,Bk]
  simp[*]
 |false =>
  show wfT (lQ T a.2)/\szT (lQ T a.2)<=_;unfold lQ;split
  .grind [wJ,oT,sY]
  simp[*]
theorem oM{T:TT}(w:wfT T)(k:Ky):k∈bB [] T↔gO k.1 k.2 T:=by
 grind[mem_keys]
end T62
end
section
set_option maxHeartbeats 10000000
open Go Go.Eng Go.Proofs A0 T1 T2 T3 T4 T5 T6 T7 T8 T9 T10 T11 T12 T13 T14 T17 T18 T19 T20 T21 T22 T23 T24 T25 T26 T27 T28 T30 T31 T33 D3 D6 D9 D10 D11 D12 D13 D14 T34 T35 T38 T41 Q3
set_option maxRecDepth 100000
namespace Q9
def fdV(p:B)(l:List Ky):Bool:=decide (p=[]) || l.any (pf p)
theorem Rs{p:B}{l:List Ky}{k:Ky}:fdV p (l++[k])=(fdV p l || pf p k):=by
 unfold fdV
 grind
theorem Ei{p:B}{l:List Ky}{k:Ky}:sF p (l++[k])=if k.1=p then sF p l++[k.2]else sF p l:=by
 unfold sF
 grind
theorem Kc{p n:B}{l:List Ky}{k:Ky}:nxV p n (l++[k])=nx1 p (nxV p n l) k:=by
 grind[nxV]
theorem fd0{p:B}{l:List Ky}:decide (p=[])=fdV p (l.take 0):=(Bool.or_false _).symm
theorem ids0{p:B}{l:List Ky}:[]=sF p (l.take 0):=rfl
theorem nx0{p:B}{l:List Ky}:[]=nxV p [] (l.take 0):=rfl
theorem o2{a z:Bool}{n:Nat}(h:z=true):bN a cT (.s n) true z=true:=by rw[dL,h,Bool.or_true]
theorem gdN{n:B}{P:Prop}(h:¬n=[]->P):decide (n=[])=false->P:=λk=>h (of_decide_eq_false k)
theorem aCv{p:B}:∀{l:List Ky} {m:Nat},l.length<=m->∀{j:Nat},(nxV p [] (l.take j)).length<=m:=by
 have h:∀(l:List Ky) (n:B),(nxV p n l).length<=n.length+l.length:=by
  intro l;induction l with
  |nil=>intro n; exact aN _
  |cons k l ih =>
   intro n;have h1:(nx1 p n k).length<=n.length+1:=by
    unfold nx1 nxS
    grind
   grind[nxV]
 grind
theorem o3{a z:Bool}{n:Nat}(h:a=false)(k:z=false):bN a cT (.s n) true z=false:=by grind[dL]
theorem aB5{p:B}{T:TT}:(ndO (bV p T)).kids.length=(ndO (bV p T)).bys.length:=by
 cases bV p T with
 |none=>rfl
 |some s=>cases s; grind[ndO,ndT]
theorem Lj:∀k:TK,oX Dd k=(dH k).map λq=>(q.1,iK Dd q.2)
 |.nil=>rfl
 |.cons b t r=>by simp only[oX,dH,bK,Lj r]
theorem aCc{p:B}{T:TT}{j:Nat}(w:wfT T)(hj:j<(ndO (bV p T)).bys.length):∃b u,((ndO (bV p T)).bys.drop j).take 1=[b]/\bV (p++[b]) T=some u/\(ndO (bV p T)).kids.getD j []=iK Dd u:=by
 cases h:bV p T with
 |none=>rw[h]at hj; exact absurd hj (cO j)
 |some s =>
  rw[h]at hj;cases s with
  |node ids k =>
  have e:oX Dd k=(dH k).map λq=>(q.1,iK Dd q.2):=Lj k;have hw:=vC p w h;simp only[wfT]at hw;simp only[ndO,ndT]at hj ⊢;rw[e]at hj ⊢;simp only[List.map_map,cS]at hj ⊢;have hm:((dH k)[j].1,(dH k)[j].2)∈dH k:=eM hj;refine⟨(dH k)[j].1,(dH k)[j].2,?_,?_,?_⟩
  .grind [List.drop_eq_getElem_cons]
  .rw [T38.mK,h]
   grind[bV,sB]
  simp[*]
theorem Vc{l:List Ky}{j:Nat}(h:j<l.length):l.take (j+1)=l.take j++[l.getD j k0]:=by
 simp[*]
def kdV(T:TT)(p n:B):List B:=n.map λb=>kQ (ndO (bV (p++[b]) T))
theorem An{T:TT}{p n:B}:(kdV T p n).length=n.length:=cS ..
theorem aB6{T:TT}{p:B}(w:wfT T):kdV T p (ndO (bV p T)).bys=(ndO (bV p T)).kids:=by
 have hl:(kdV T p (ndO (bV p T)).bys).length=(ndO (bV p T)).kids.length:=by rw[An,aB5]
 refine iR hl λj h1 h2=>?_;rw[An]at h1;obtain⟨b,u,e1,e2,e3⟩:=aCc (p:=p) w h1;have e4:(ndO (bV p T)).bys[j]=b:=by
  grind[List.drop_eq_getElem_cons]
 have e5:(kdV T p (ndO (bV p T)).bys)[j]=kQ (ndO (bV (p++[(ndO (bV p T)).bys[j]]) T)):=by grind[kdV]
 rw[e5,e4,e2];rw[aK,aM h2]at e3;exact(D9.tB u).symm.trans e3.symm
theorem A8{M:Nat}:∀{l:List B},(∀s∈l,s.length<=M)->room l<=l.length*(M+21)
 | [],_=>aS _
 |s::l,h=>by
  have h1:=A8 (l:=l) λx hx=>h x (aW _ hx)
  grind[room,Nat.succ_mul]
theorem Mt{T:TT}(hw:wfT T)(hs:szT T<=24)(hl:shT T):room (D6.cA (ndT T)++dO (ndT T) (ndT T).kids.length)<=140737488355328:=by
 cases T with
 |node ids k =>
 replace hw:Srt ids/\Sb (cC k)/\wfK k:=hw;replace hs:ids.length+szK k<=24:=hs;replace hl:(∀i∈ids,i.length<=1000000)/\shK k:=hl;have hkl:=sL hw.2.2;have e2:(ndT (.node ids k)).kids=(dH k).map λp=>iK Dd p.2:=D9.pZ k;have e3:(ndT (.node ids k)).kids.length=(dH k).length:=by simp[*]
 have e1:(ndT (.node ids k)).ids=ids:=rfl;refine aV (A8 (M:=1000000) ?_) ?_
 .intro s hs';rcases bT.1 hs' with h|h
  .simp only [D6.cA,aR]at h;rcases h with rfl|rfl|h
   .decide
   .grind [D9.sH]
   grind
  .refine aV (D9.wA ?_ _ s h) (by decide);intro x hx;rw[e2]at hx;obtain⟨p,_,rfl⟩:=cD.1 hx;exact D9.F9 _
 grind[mY]
structure NOk(T:TT):Prop where
 wf:wfT T
 sz:szT T<=24
 val:∀t i,gO t i T->kF t i=true
theorem NOk.dg{T s:TT}{p:B}(k:NOk T)(h:bV p T=some s):((ndT s).ids.length<=100000/\(ndT s).kids.length<=100000)/\room (D6.cA (ndT s)++dO (ndT s) (ndT s).kids.length)<=140737488355328/\(dG (D6.cA (ndT s)++dO (ndT s) (ndT s).kids.length)).length<=140737488355328:=by
 have f:=Ab T 120 k.wf λt i hm=>Ep (k.val t i hm);obtain⟨f1,_,f3,_,f5⟩:=xY p h k.wf f.1 f.2.1;have h1:=J6 f1 (aV f5 k.sz) f3;exact⟨h1.1,Mt f1 (aV f5 k.sz) f3,h1.2⟩
theorem NOk.dgO{T:TT}{p:B}(k:NOk T):((ndO (bV p T)).ids.length<=100000/\(ndO (bV p T)).kids.length<=100000)/\room (D6.cA (ndO (bV p T))++dO (ndO (bV p T)) (ndO (bV p T)).kids.length)<=140737488355328/\(dG (D6.cA (ndO (bV p T))++dO (ndO (bV p T)) (ndO (bV p T)).kids.length)).length<=140737488355328:=by
 cases h:bV p T with
 |some s=>exact k.dg h
 |none =>
  have h1:=J6 oU (by decide) (⟨(by grind),trivial⟩:shT emp);exact⟨h1.1,Mt oU (by decide) (⟨(by grind),trivial⟩:shT emp),h1.2⟩
theorem NOk.kl{T:TT}(k:NOk T):(bB [] T).length<=24:=by rw[nC]; exact k.sz
theorem NOk.key{T:TT}(k:NOk T){j:Nat}(hj:j<(bB [] T).length):((bB [] T).getD j k0).1.length<=120:=by
 have hm:(bB [] T).getD j k0∈bB [] T:=by simp[*]
 exact T18.wS (k.val _ _ ((T62.oM k.wf _).1 hm))
end Q9
end
section
set_option maxHeartbeats 10000000
open Go Go.Eng Go.Proofs A0 T1 T2 T3 T4 T5 T6 T10 T11 T12 T13 T14 T17 T18 T19 T20 T21 T22 T23 T24 T25 T26 T27 T28 T30 T31 T33 D3 D6 D9 D10 D11 D12 D13 T34 T35 T38 T41 Q3 Q4 Q6 Q9
set_option maxRecDepth 100000
namespace Q10
def g58:List Nat:=[0,1,4]
def c58:aY :=
 .seq (.region g58 [(zo 4 (.move cF))]) (.seq (.region g58 [(mv 5 0),(zo 6 (.lenStr (.s 5))),(mv 7 1),(zo 8 (.lenStr (.s 7))),(zo 9 (.bin (.geq) (.s 6) (.s 8))),(mv 10 9),(mg 11 10 true 0),(mg 12 10 true 1),(zg 13 10 true (.lenStr (.s 12))),(zg 14 10 true (.sliceStr (.s 11) none (some (.s 13)))),(mg 15 10 true 1),(zg 16 10 true (.bin (.eql) (.s 14) (.s 15))),(zo 17 (.pick (.s 10) (.s 16) cF)),(mv 4 17)]) .ret)
theorem e58:bO Tryz.prog 58 g58 [] [] []=some (c58,[.slot 4],18):=by kernel_rfl
theorem X5:aD0.Ok Tryz.prog 58:=by
 refine Eng.Spec.okR e58 .nil (λ_=>[]) (λ_ _=>aO.nil) ?_;rintro⟨s,w⟩ _;refine⟨trivial,?_⟩;repeat' (first|refine aA ?_ ?_)
 .refine λ(h:decide ((s.length:Int)>=(w.length:Int))=true)=>?_;have:=of_decide_eq_true h;repeat' (first|apply aA|exact Int.natCast_nonneg _|exact this)
 .have e:bN (decide ((s.length:Int)>=(w.length:Int))) (.s 16) cF (decide (s.take (w.length:Int).toNat=w)) false=w.isPrefixOf s:=by
   rw[bW,bH,aI,decide_eq_true_iff,decide_eq_true_iff,List.isPrefixOf_iff_prefix,List.prefix_iff_eq_take]
   grind
  exact e
def Zu:bC:=aD0.mof Bool (λx y=>y=x.2.isPrefixOf x.1) (λ_ y=>.bool y)
theorem Uc:Zu.Ok Tryz.prog 58:=Eng.Spec.jW X5 λ_ _=>⟨_,rfl,rfl⟩
def Ud:bC:=aFs.mof B (λx y=>y=kQ x) (λ_ y=>.str y)
theorem zN:Ud.Ok Tryz.prog 20:=Eng.Spec.jW aC6 λ_ _=>⟨_,rfl,rfl⟩
structure RX where
 L:List Ky
 T:TT
 p:B
def g26:List Nat:=[14,25,39,42,9,76,0,1,10,11,8,6,7,4,5]
def c26:aY :=
 .seq (.region g26 [(zo 4 (.alloc 39 (.cons (.nilsl) (.cons (.str []) (.cons (.nilsl) .nil))))),(zo 5 (.move cF))]) (.seq (.seq (.region g26 [(mv 13 0),(zo 14 (.ptrEq false (.s 13) (.c (.nilptr))))]) (.cond (.s 14) (.seq (.region g26 [(zo 15 (.build (.cons (.nilsl) (.cons (.str []) (.cons (.nilsl) .nil))) [])),⟨none,none,.store 3 (.s 4) (.s 15),[]⟩,(zo 5 (.move cF))]) .ret) .skip)) (.seq (.region g26 [(zo 16 (.build (.cons (.nilsl) (.cons (.str []) (.cons (.nilsl) .nil))) [])),(zo 6 (.alloc 39 (.cons (.nilsl) (.cons (.str []) (.cons (.nilsl) .nil))))),⟨none,none,.store 3 (.s 6) (.s 16),[]⟩]) (.seq (.region g26 [(mv 17 1),(zo 18 (.bin (.eql) (.s 17) (.c (.str [])))),(mv 7 18)]) (.seq (.seq (.region g26 [(zo 8 (.move (cj 0)))]) (.block 0 (.loop 0 [19,20,21,22,23,24,25,28,29,30,31,32,33,34,35,9,36,37,38,39,7,40,41,42,43,44,45,46,47,48,49,50,51,52,53,54,55,56,57,58,59,60,61,62,10,63,64,65,66,67,68,69,70,71,72,73,74,75,76,77,78,79,80,81,83,84,85,86,87,82,88,89,11,12,90,91,92,93,94,95,96,26,27,8] (.seq (.seq (.region g26 [(mv 19 8),(mv 20 0),(zo 21 (.nilCheck (.s 20))),(fa 22 0 21),(ld 23 22),(zo 24 (.lenSl (.s 23))),(zo 25 (.bin (.lss) (.s 19) (.s 24)))]) (.cond (.s 25) .skip (.exit 0))) (.seq (.block 1 (.seq (.region g26 [(mv 28 0),(zo 29 (.nilCheck (.s 28))),(fa 30 0 29),(ld 31 30),(mv 32 8),(zo 33 (.idxSl 2 (.s 31) (.s 32))),(fa 34 0 33),(ld 35 34),(mv 9 35)]) (.seq (.seq (.region g26 [(mv 36 9),(mv 37 1),(zo 38 (.call (.c (.fn 58)) [.s 36,.s 37])),(zo 39 (.not (.s 38)))]) (.cond (.s 39) (.exit 1) .skip)) (.seq (.region g26 [(zo 7 (.move cT))]) (.seq (.seq (.region g26 [(mv 40 9),(mv 41 1),(zo 42 (.bin (.eql) (.s 40) (.s 41)))]) (.cond (.s 42) (.seq (.drawn g26 (.pure 0 (fa 43 0 6) (.pure 1 (ld 44 43) (.pure 2 (mv 45 0) (.pure 3 (zo 46 (.nilCheck (.s 45))) (.pure 4 (fa 47 0 46) (.pure 5 (ld 48 47) (.pure 6 (mv 49 8) (.pure 7 (zo 50 (.idxSl 2 (.s 48) (.s 49))) (.pure 8 (fa 51 1 50) (.pure 9 (ld 52 51) (.pure 10 (zo 53 (.buildSl 9 1 1 (.cons (.str []) .nil) [(0,1,.s 52)])) (.eff 11 (zo 54 (.app 9 1 16 (.s 44) (.s 53))) [] (.pure 12 (fa 55 0 6) (.eff 13 ⟨none,none,.store 1 (.s 55) (.s 54),[]⟩ [] .done .none)) .none))))))))))))) (.exit 1)) .skip)) (.seq (.region g26 [(mv 56 9),(mv 57 1),(zo 58 (.lenStr (.s 57))),(mv 59 1),(zo 60 (.lenStr (.s 59))),(zo 61 (.bin (.add) (.s 60) (cj 1))),(zo 62 (.sliceStr (.s 56) (some (.s 58)) (some (.s 61)))),(mv 10 62)]) (.seq (.region g26 [(fa 63 1 6),(ld 64 63),(zo 65 (.bin (.eql) (.s 64) (.c (.str [])))),(mv 66 65),(fg 67 66 false 1 6),(lg 68 66 false 67),(fg 69 66 false 1 6),(lg 70 66 false 69),(zg 71 66 false (.lenStr (.s 70))),(zg 72 66 false (.bin (.sub) (.s 71) (cj 1))),(zg 73 66 false (.sliceStr (.s 68) (some (.s 72)) none)),(mg 74 66 false 10),(zg 75 66 false (.bin (.neq) (.s 73) (.s 74))),(zo 76 (.pick (.s 66) cT (.s 75)))]) (.cond (.s 76) (.seq (.region g26 [(fa 77 1 6),(ld 78 77),(mv 79 10),(zo 80 (.bin (.add) (.s 78) (.s 79))),(fa 81 1 6),⟨none,none,.store 1 (.s 81) (.s 80),[]⟩]) (.seq (.region g26 [(mv 83 0),(mv 84 1),(mv 85 10),(zo 86 (.bin (.add) (.s 84) (.s 85))),(zo 87 (.call (.c (.fn 26)) [.s 83,.s 86])),(mv 82 87),(zo 88 (.extract 0 (.s 82))),(zo 89 (.extract 1 (.s 82))),(zo 11 (.alloc 39 (.cons (.nilsl) (.cons (.str []) (.cons (.nilsl) .nil))))),⟨none,none,.store 3 (.s 11) (.s 88),[]⟩,(mv 12 89)]) (.drawn g26 (.pure 0 (fa 90 2 6) (.pure 1 (ld 91 90) (.pure 2 (zo 92 (.load 3 true (.s 11))) (.eff 3 (zo 93 (.call (.c (.fn 20)) [.s 92])) [(ld 91 90)] (.pure 4 (zo 94 (.buildSl 9 1 1 (.cons (.str []) .nil) [(0,1,.s 93)])) (.eff 5 (zo 95 (.app 9 1 16 (.s 91) (.s 94))) [] (.pure 6 (fa 96 2 6) (.eff 7 ⟨none,none,.store 1 (.s 96) (.s 95),[]⟩ [] .done .none)) .none)) .none))))))) .skip)))))))) (.region g26 [(mv 26 8),(zo 27 (.bin (.add) (.s 26) (cj 1))),(mv 8 27)])))))) (.seq (.region g26 [(zo 97 (.load 3 true (.s 6))),(mv 98 7),⟨none,none,.store 3 (.s 4) (.s 97),[]⟩,(mv 5 98)]) .ret)))))
theorem e26:bO Tryz.prog 26 g26 [] [93] []=some (c26,[.cell 4 3 true,.slot 5],99):=by kernel_rfl
def Hs(n:Nat):bC where
 X:=RX
 Y:=ND×Bool
 args:=λx=>.cons (.own 0 0) (.cons (.str x.p) .nil)
 pre:=λx=>x.L=bB [] x.T/\NOk x.T/\x.p.length<=120/\121<=n+x.p.length
 h0:=λx=>rtH 1 x.L
 nx0:=2
 post:=λx y=>y.1=ndO (bV x.p x.T)/\y.2=(bV x.p x.T).isSome
 res:=λ_ y=>.tup (.cons (.agg (.cons (.lsl 2 1 y.1.ids.length) (.cons (.str y.1.bys) (.cons (.lsl 3 1 y.1.kids.length) .nil)))) (.cons (.bool y.2) .nil))
 h1:=λx y=>lsH 3 y.1.kids::lsH 2 y.1.ids::rtH 1 x.L
 nx1:=4
theorem aDd:(Hs 0).Ok Tryz.prog 26:=by
 refine⟨qR e26,?_⟩;intro x w μ vs T U _ _ _ hp;have h1:=hp.2.2.1;have h2:=hp.2.2.2;omega
set_option maxHeartbeats 4000000 in
theorem aDe{n:Nat}(ih:(Hs n).Ok Tryz.prog 26):(Hs (n+1)).Ok Tryz.prog 26:=by
 refine Eng.bC.okR e26 .nil (λ_=>[(58,.m Zu),(26,.m (Hs n)),(20,.m Ud)]) (by grind[aO.m,Uc,zN,aO.nil]) ?_;rintro⟨L,T,p⟩ ⟨(hL:L=bB [] T),(hk:NOk T),(hp:p.length<=120),(hf:121<=n+1+p.length)⟩;have w:=hk.wf;have hL24:L.length<=24:=by rw[hL]; exact hk.kl
 have hKl:∀{j:Nat},j<L.length->(L.getD j k0).1.length<=120:=by rw[hL]; exact λh=>hk.key h
 refine⟨trivial,?_⟩;repeat' (first|apply aA|exact zf|refine zt ?_|fail)
 refine⟨⟨Nat×Bool×List B×B×List B,λs=>s.1<=L.length/\s.2.1=fdV p (L.take s.1)/\s.2.2.1=sF p (L.take s.1)/\s.2.2.2.1=nxV p [] (L.take s.1)/\s.2.2.2.2=kdV T p s.2.2.2.1,λs=>[(8,.int .i64 (s.1:Int)),(7,.bool s.2.1)],λs=>[(0,.cells 79 (.cons (.lsl 1 2 L.length) .nil)),ksH 1 L,(2,.cells 39 (.cons .nilsl (.cons (.str []) (.cons .nilsl .nil)))),(3,.cells 39 (.cons (.lsl 40 1 s.2.2.1.length) (.cons (.str s.2.2.2.1) (.cons (.lsl 41 1 s.2.2.2.2.length) .nil)))),lsH 40 s.2.2.1,lsH 41 s.2.2.2.2],λs=>L.length-s.1⟩,(0,decide (p=[]),[],[],[]),?_,?_,?_⟩
 .exact ⟨aS _,fd0,ids0,nx0,rfl⟩
 .repeat' (first|apply aA|exact trivial|exact rfl|exact lz λ_=>rfl|fail)
 rintro⟨j,fd,ids,nx,kd⟩ ⟨(kj:j<=L.length),(k1:fd=fdV p (L.take j)),(k2:ids=sF p (L.take j)),(k3:nx=nxV p [] (L.take j)),(k4:kd=kdV T p nx)⟩;repeat' (first|refine aA ?_ ?_)
 .refine λ(hg:decide ((j:Int)<(L.length:Int))=true)=>?_;have g1:(j:Int)<(L.length:Int):=of_decide_eq_true hg;have hj:j<L.length:=by omega
  have g0:(0:Int)<=(j:Int):=by omega
  have g2:-9223372036854775808<=(j:Int)+1:=by omega
  have g3:(j:Int)+1<=9223372036854775807:=by omega
  have g4:j+1<=L.length:=hj;have g5:L.length-(j+1)<L.length-j:=by omega
  have g6:0+(j:Int).toNat<L.length:=by omega
  have e0:L.getD (0+(j:Int).toNat) k0=L.getD j k0:=by simp
  obtain⟨⟨t,i⟩,hk2⟩:∃k,L.getD j k0=k:=⟨_,rfl⟩;have ek:L.getD (0+(j:Int).toNat) k0=(t,i):=e0.trans hk2;have et:(L.getD (0+(j:Int).toNat) k0).1=t:=by rw[ek]
  have ei:(L.getD (0+(j:Int).toNat) k0).2=i:=by rw[ek]
  have hta:=Vc hj;rw[hk2]at hta;repeat' (first|apply aA|(with_reducible first|exact g0|exact g1)|exact g6)
  refine aB (t,p) (aB [] ?_);repeat' (first|exact et|apply aA|exact trivial|exact rfl)
  refine λ(y:Bool) (hy:y=p.isPrefixOf t)=>?_;cases y
  .have q1:fd=fdV p (L.take (j+1)):=by simp_all[Rs,pf,Bool.or_false]
   have hne:¬t=p:=(by grind);have q2:ids=sF p (L.take (j+1)):=by simp_all[Ei]
   have q3:nx=nxV p [] (L.take (j+1)):=by grind[Kc,nx1,pf]
   repeat' (first|apply aA|exact zh|refine zt ?_|(with_reducible first|exact g2|exact g3))
   refine aB (j+1,fd,ids,nx,kd) ?_;repeat' (first|exact g4|exact q1|exact q2|exact q3|exact k4|exact g5|apply aA|exact trivial|exact rfl|exact lz λ_=>rfl|fail)
  have hpf:pf p (t,i)=true:=hy.symm;have q1:true=fdV p (L.take (j+1)):=by simp_all[Rs,Bool.or_true]
  obtain⟨u,hu⟩:=A1.1 hpf;replace hu:t=p++u:=hu;repeat' (first|apply aA|exact zf|refine zt ?_|fail)
  .refine λ(hz:decide ((L.getD (0+(j:Int).toNat) k0).1=p)=true)=>?_;have hz2:t=p:=et.symm.trans (of_decide_eq_true hz);have q2:ids++[i]=sF p (L.take (j+1)):=by simp_all[Ei]
   have q3:nx=nxV p [] (L.take (j+1)):=by
    simp_all[Kc,nx1]
   have hil:ids.length<=24:=by
    grind[sF,List.length_take]
   repeat' (first|apply aA|exact trivial|exact rfl|(with_reducible first|exact g0|exact g1)|exact g6|(with_reducible first|exact g2|exact g3))
   .grind
   .grind
   refine aB (j+1,true,ids++[i],nx,kd) ?_;repeat' (first|exact g4|exact q1|exact q2|exact q3|exact k4|exact g5|apply aA|exact trivial|exact rfl|exact lz λ_=>rfl|fail)
   .exact Eu
   .exact mK (enc:=idE) (d:=[]) (λa=>fS _ _ _ a) (congrArg idE ei) rfl
   simp
  .refine λ(hz:decide ((L.getD (0+(j:Int).toNat) k0).1=p)=false)=>?_;have hz2:¬t=p:=(by grind);have q2:ids=sF p (L.take (j+1)):=by simp_all[Ei]
   obtain⟨x,v,rfl⟩:∃x v,u=x::v:=by
    cases u with
    |nil=>grind
    |cons x v=>simp
   have hnx:nxV p [] (L.take (j+1))=nxS p nx t:=by
    simp_all[Kc,nx1]
   have hct:(t.drop p.length).take 1=[x]:=by grind
   have tp:(((p.length:Int)+1).toNat-(p.length:Int).toNat)=1:=by omega
   have hc:List.take (((p.length:Int)+1).toNat-(p.length:Int).toNat) (List.drop (p.length:Int).toNat (L.getD (0+(j:Int).toNat) k0).1)=[x]:=by
    grind
   have htl:(p.length:Int)+1<=((L.getD (0+(j:Int).toNat) k0).1.length:Int):=by
    grind
   have f1:-9223372036854775808<=(p.length:Int)+1:=by omega
   have f2:(p.length:Int)+1<=9223372036854775807:=by omega
   have f3:(0:Int)<=(p.length:Int):=by omega
   have f4:(p.length:Int)<=(p.length:Int)+1:=by omega
   have hnl:nx.length<=24:=by simp_all[aCv]
   have m1:¬nx=[]->-9223372036854775808<=(nx.length:Int)-1:=by omega
   have m2:¬nx=[]->(nx.length:Int)-1<=9223372036854775807:=by omega
   have m3:¬nx=[]->0<=(nx.length:Int)-1:=(by grind[List.length_pos_iff]);have m4:¬nx=[]->(nx.length:Int)-1<=(nx.length:Int):=by omega
   have t1:((nx.length:Int)-1).toNat=nx.length-1:=by omega
   repeat' (first|apply aA|(with_reducible first|exact f1|exact f2|exact f3|exact f4|exact htl)|refine gdN λhn=>?_|with_reducible exact m1 hn|with_reducible exact m2 hn|with_reducible exact m3 hn|with_reducible exact m4 hn|fail)
   .refine λ(hz:bN _ _ _ _ _=true)=>?_;rw[dL,hc,t1,fN,decide_eq_true_iff,bL,decide_eq_false_iff_not]at hz;have q3:nx++[x]=nxV p [] (L.take (j+1)):=by
     simp_all[nxS]
    have hcc:nx++List.take (((p.length:Int)+1).toNat-(p.length:Int).toNat) (List.drop (p.length:Int).toNat (L.getD (0+(j:Int).toNat) k0).1)=nx++[x]:=by rw[hc]
    have hcl:nx.length+(List.take (((p.length:Int)+1).toNat-(p.length:Int).toNat) (List.drop (p.length:Int).toNat (L.getD (0+(j:Int).toNat) k0).1)).length<=9223372036854775807:=by
     grind
    have hpc:p++List.take (((p.length:Int)+1).toNat-(p.length:Int).toNat) (List.drop (p.length:Int).toNat (L.getD (0+(j:Int).toNat) k0).1)=p++[x]:=by rw[hc]
    have hpl:p.length+(List.take (((p.length:Int)+1).toNat-(p.length:Int).toNat) (List.drop (p.length:Int).toNat (L.getD (0+(j:Int).toNat) k0).1)).length<=9223372036854775807:=by
     grind
    have htl2:p.length+1<=120:=by
     grind
    have hpre:L=bB [] T/\NOk T/\(p++[x]).length<=120/\121<=n+(p++[x]).length:=by
     grind
    repeat' (first|apply aA|exact hcl|exact hpl)
    refine aB ⟨L,T,p++[x]⟩ (aB [0,1] ?_);repeat' (first|exact hpre|exact hpc|apply aA|exact trivial|exact rfl|exact lz λ_=>rfl|fail)
    refine λ(y:ND×Bool) (hy:y.1=ndO (bV (p++[x]) T)/\y.2=(bV (p++[x]) T).isSome)=>?_;obtain⟨nd2,b2⟩:=y;obtain⟨(hnd2:nd2=ndO (bV (p++[x]) T)),-⟩:=hy;have hdg:=hk.dgO (p:=p++[x]);rw[<- hnd2]at hdg;have hkl:kd.length<=24:=by grind[Q9.An]
    repeat' (first|apply aA|exact trivial)
    refine aB nd2 (aB [] ?_);repeat' (first|exact hdg|apply aA|exact trivial|exact rfl|exact cN (aP _)|exact(λ(q:Nat) _=>by rw[aP q]; exact Or.inl (fS _ _ _ _))|fail)
    refine λ(y3:B) (hy3:y3=kQ nd2)=>?_;repeat' (first|apply aA|exact trivial|exact rfl|(with_reducible first|exact g2|exact g3))
    .grind
    .grind
    have q4:kd++[y3]=kdV T p (nx++[x]):=by
     grind[kdV]
    refine aB (j+1,true,ids,nx++[x],kd++[y3]) ?_;repeat' (first|exact g4|exact q1|exact q2|exact q3|exact q4|exact g5|apply aA|exact trivial|exact rfl|exact lz λ_=>rfl|fail)
    .exact Eu
    .exact mK (enc:=idE) (d:=[]) (λa=>fS _ _ _ a) rfl rfl
    .exact hcc
    simp
   .refine λ(hz:bN _ _ _ _ _=false)=>?_;have q3:nx=nxV p [] (L.take (j+1)):=by
     rw[dL,hc,t1,cZ,decide_eq_false_iff_not,jY,decide_eq_true_iff]at hz;simp_all[nxS]
    repeat' (first|apply aA|(with_reducible first|exact g2|exact g3))
    refine aB (j+1,true,ids,nx,kd) ?_;repeat' (first|exact g4|exact q1|exact q2|exact q3|exact k4|exact g5|apply aA|exact trivial|exact rfl|exact lz λ_=>rfl|fail)
 .refine λ(hg:decide ((j:Int)<(L.length:Int))=false)=>?_;have hj:j=L.length:=by grind
  subst hj;rw[iS,hL]at k1 k2 k3;rw[Wy w]at k2;rw[aCt w]at k3;rw[k3,aB6 w]at k4;have hb:fd=(bV p T).isSome:=by
   rw[k1,bH,<- Ol w];unfold fdV;simp
  have e1:(ND.mk ids nx kd)=ndO (bV p T):=by simp[*]
  refine aB (ND.mk ids nx kd,fd) (aA ⟨e1,hb⟩ ?_);repeat' (first|apply aA|exact trivial|exact rfl|exact lz λ_=>rfl|fail)
theorem Na:∀n,(Hs n).Ok Tryz.prog 26
 |0=>aDd
 |n+1=>aDe (Na n)
def aDc:bC where
 X:=RX
 Y:=ND×Bool
 args:=λx=>.cons (.own 0 0) (.cons (.str x.p) .nil)
 pre:=λx=>x.L=bB [] x.T/\NOk x.T/\x.p.length<=120
 h0:=λx=>rtH 1 x.L
 nx0:=2
 post:=λx y=>y.1=ndO (bV x.p x.T)/\y.2=(bV x.p x.T).isSome
 res:=λ_ y=>.tup (.cons (.agg (.cons (.lsl 2 1 y.1.ids.length) (.cons (.str y.1.bys) (.cons (.lsl 3 1 y.1.kids.length) .nil)))) (.cons (.bool y.2) .nil))
 h1:=λx y=>lsH 3 y.1.kids::lsH 2 y.1.ids::rtH 1 x.L
 nx1:=4
theorem Up:aDc.Ok Tryz.prog 26:=by
 refine D14.Yw (Na 121) rfl rfl rfl ?_;rintro x ⟨h1,h2,h3⟩;exact⟨x,⟨h1,h2,h3,by omega⟩,rfl,rfl,λy hy=>⟨y,hy,rfl,rfl⟩⟩
def g24:List Nat:=[6,0,3,2]
def c24:aY :=
 .seq (.region g24 [(zo 2 (.move (.c (.str []))))]) (.seq (.seq (.region g24 [(mv 5 0),(zo 6 (.ptrEq false (.s 5) (.c (.nilptr))))]) (.cond (.s 6) (.seq (.region g24 [(zo 2 (.move (.c (.str []))))]) .ret) .skip)) (.seq (.region g24 [(mv 8 0),(zo 9 (.call (.c (.fn 26)) [.s 8,.c (.str [])])),(mv 7 9),(zo 10 (.extract 0 (.s 7))),(zo 11 (.extract 1 (.s 7))),(zo 3 (.alloc 39 (.cons (.nilsl) (.cons (.str []) (.cons (.nilsl) .nil))))),⟨none,none,.store 3 (.s 3) (.s 10),[]⟩,(mv 4 11)]) (.seq (.region g24 [(zo 12 (.load 3 true (.s 3))),(zo 13 (.call (.c (.fn 20)) [.s 12])),(mv 2 13)]) .ret)))
theorem e24:bO Tryz.prog 24 g24 [] [] []=some (c24,[.slot 2],14):=by kernel_rfl
def Zx:bC where
 X:=RX
 Y:=Unit
 args:=λ_=>.cons (.own 0 0) .nil
 pre:=λx=>x.L=bB [] x.T/\NOk x.T
 h0:=λx=>rtH 1 x.L
 nx0:=2
 post:=λ_ _=>True
 res:=λx _=>.str (iK Dd x.T)
 h1:=λx _=>rtH 1 x.L
 nx1:=2
theorem Yc:Zx.Ok Tryz.prog 24:=by
 refine Eng.bC.okR e24 .nil (λ_=>[(26,.m aDc),(20,.m Ud)]) (by grind[aO.m,Up,zN,aO.nil]) ?_;rintro⟨L,T,p⟩ ⟨(hL:L=bB [] T),(hk:NOk T)⟩;have hpre:L=bB [] T/\NOk T/\([]:B).length<=120:=⟨hL,hk,by decide⟩;refine⟨trivial,?_⟩;repeat' (first|apply aA|exact zf|refine zt ?_|fail)
 refine aB ⟨L,T,[]⟩ (aB [0,1] ?_);repeat' (first|exact hpre|apply aA|exact trivial|exact rfl|exact lz λ_=>rfl|fail)
 refine λ(y:ND×Bool) (hy:y.1=ndO (bV [] T)/\y.2=(bV [] T).isSome)=>?_;obtain⟨nd2,b2⟩:=y;obtain⟨(hnd2:nd2=ndO (bV [] T)),-⟩:=hy;have hdg:=hk.dgO (p:=[]);rw[<- hnd2]at hdg;refine aB nd2 (aB [] ?_);repeat' (first|exact hdg|apply aA|exact trivial|exact rfl|exact cN (aP _)|exact(λ(q:Nat) _=>by rw[aP q]; exact Or.inl (fS _ _ _ _))|fail)
 refine λ(y3:B) (hy3:y3=kQ nd2)=>?_;have hy4:y3=iK Dd T:=by rw[hy3,hnd2]; exact(D9.tB T).symm
 clear hy3;subst hy4;refine aB () (aA trivial ?_);repeat' (first|apply aA|exact trivial|exact rfl|exact lz λ_=>rfl|fail)
end Q10
end
section
open Go Go.Eng Go.Proofs A0 T1 T6 T10 T11 T12 T18 T33 D11 Q5 Q6 Q7 Q10
set_option maxRecDepth 100000
namespace Q11
def np:SV:=.val (.pointer none)
def nkS:Eng.Spec where
 X:=Ky
 args:=λx=>.cons np (.cons (.agg (jN x)) .nil)
 pre:=λ_=>True
 res:=λ_=>.int .i64 1
 inst:=fun
  |.cons _ (.cons (.agg (.cons (.str a) (.cons (.str b) .nil))) _)=>some (a,b)
  |_=>none
theorem Xu:nkS.Ok Tryz.prog 15:=by
 refine Eng.Spec.okR T12.e15 .nil (λ_=>[]) (λ_ _=>aO.nil) ?_;rintro(k:Ky) (_:True);refine⟨trivial,?_⟩;repeat' (first|apply aA|exact rfl|exact zh|refine zt ?_|fail)
theorem Te:nkS.Ok Tryz.prog 14:=by
 refine Eng.Spec.okR T12.e14 .nil (λ_=>[]) (λ_ _=>aO.nil) ?_;rintro(k:Ky) (_:True);refine⟨trivial,?_⟩;repeat' (first|apply aA|exact rfl|exact zh|refine zt ?_|fail)
theorem To:nkS.Ok Tryz.prog 22:=by
 refine Eng.Spec.okR Q7.e22 .nil (λ_=>[]) (λ_ _=>aO.nil) ?_;rintro(k:Ky) (_:True);refine⟨trivial,?_⟩;repeat' (first|apply aA|exact rfl|exact zh|refine zt ?_|fail)
theorem Pb:nkS.Ok Tryz.prog 21:=by
 refine Eng.Spec.okR Q7.e21 .nil (λ_=>[]) (λ_ _=>aO.nil) ?_;rintro(k:Ky) (_:True);refine⟨trivial,?_⟩;repeat' (first|apply aA|exact rfl|exact zh|refine zt ?_|fail)
def Xv:Eng.Spec where
 X:=Unit
 args:=λ_=>.cons np .nil
 pre:=λ_=>True
 res:=λ_=>.str []
 inst:=λ_=>some ()
theorem Tn:Xv.Ok Tryz.prog 23:=by
 refine Eng.Spec.okR D11.e23 .nil (λ_=>[]) (λ_ _=>aO.nil) ?_;rintro⟨⟩ (_:True);refine⟨trivial,?_⟩;repeat' (first|apply aA|exact rfl|exact zh|refine zt ?_|fail)
theorem Pe:Xv.Ok Tryz.prog 24:=by
 refine Eng.Spec.okR Q10.e24 .nil (λ_=>[]) (λ_ _=>aO.nil) ?_;rintro⟨⟩ (_:True);refine⟨trivial,?_⟩;repeat' (first|apply aA|exact rfl|exact zh|refine zt ?_|fail)
def Xt:Eng.Spec where
 X:=Unit
 args:=λ_=>.cons np .nil
 pre:=λ_=>True
 res:=λ_=>.nilsl
 inst:=λ_=>some ()
theorem Th:Xt.Ok Tryz.prog 16:=by
 refine Eng.Spec.okR T33.e16 .nil (λ_=>[]) (λ_ _=>aO.nil) ?_;rintro⟨⟩ (_:True);refine⟨trivial,?_⟩;repeat' (first|apply aA|exact trivial|exact zh|refine zt ?_|fail)
theorem Pc:Xt.Ok Tryz.prog 29:=by
 refine Eng.Spec.okR Q7.e29 .nil (λ_=>[]) (λ_ _=>aO.nil) ?_;rintro⟨⟩ (_:True);refine⟨trivial,?_⟩;repeat' (first|apply aA|exact trivial|exact zh|refine zt ?_|fail)
def Tl:Eng.Spec where
 X:=B
 args:=λx=>.cons np (.cons (.str x) .nil)
 pre:=λ_=>True
 res:=λ_=>.tup (.cons (.agg (.cons .nilsl (.cons (.str []) (.cons .nilsl .nil)))) (.cons (.bool false) .nil))
 inst:=fun
  |.cons _ (.cons (.str a) _)=>some a
  |_=>none
def aFc:Eng.Spec where
 X:=B
 args:=λx=>.cons np (.cons (.str x) .nil)
 pre:=λ_=>True
 res:=λ_=>np
 inst:=Tl.inst
theorem aCo:aFc.Ok Tryz.prog 56:=by
 refine Eng.Spec.okR T2.e56 .nil (λ_=>[]) (λ_ _=>aO.nil) ?_;rintro(p:B) (_:True);refine⟨trivial,?_⟩;repeat' (first|apply aA|exact rfl|exact zh|refine zt ?_|fail)
theorem Tm:Tl.Ok Tryz.prog 25:=by
 refine Eng.Spec.okR D11.e25 .nil (λ_=>[(56,.p aFc)]) (λ_ _=>aO.p aCo aO.nil) ?_;rintro(p:B) (_:True);refine⟨trivial,?_⟩;repeat' (first|apply aA|exact trivial|exact rfl|exact zh|refine zt ?_|fail)
theorem Pd:Tl.Ok Tryz.prog 26:=by
 refine Eng.Spec.okR Q10.e26 .nil (λ_=>[]) (λ_ _=>aO.nil) ?_;rintro(p:B) (_:True);refine⟨trivial,?_⟩;repeat' (first|apply aA|exact trivial|exact rfl|exact zh|refine zt ?_|fail)
end Q11
end
section
set_option maxHeartbeats 10000000
open Go Go.Eng Go.Proofs T1 T2 T3 T4 T5 T10 T11 T12 T13 T14 T16 T17 T18 T19 T21 T24 T26 T31 T35 T37 T62 D13 Q6 Q7 Q8
set_option maxRecDepth 100000
namespace Q12
theorem lt_iff{a b:Ky}:ltK a b=true↔klt a b:=by
 unfold ltK klt;by_cases h:a.1=b.1
 .simp_all [decide_eq_true,bl,uI]
 simp[*]
theorem Qq{a b:B}(h:¬bl a b=true)(hn:a≠b):bl b a=true:=by
 cases e:bl b a with
 |true=>rfl
 |false=>grind[Qr]
theorem Xf{a b:Ky}(h:¬klt a b)(hn:a≠b):klt b a:=by
 by_cases e:a.1=b.1
 .have h2:¬bl a.2 b.2=true:=λh2=>h (.inr ⟨e,h2⟩);have n2:a.2≠b.2:=(by grind);exact .inr ⟨e.symm,Qq h2 n2⟩
 .exact .inl (Qq (λh2=>h (.inl h2)) e)
theorem Ba:∀{l m:List Ky},l.Pairwise klt->m.Pairwise klt->(∀x,x∈l↔x∈m)->l=m
 | [],[],_,_,_=>rfl
 | [],y::m,_,_,h=>absurd ((h y).2 aZ) eO
 |x::l,[],_,_,h=>absurd ((h x).1 aZ) eO
 |x::l,y::m,h1,h2,h=>by
  have k1:=aT.1 h1;have k2:=aT.1 h2;have e:x=y:=by
   grind[List.mem_cons_self,Ci,Er]
  subst e;refine congrArg (x::·) (Ba k1.2 k2.2 λz=>?_)
  grind[Er]
theorem Md{L:List Ky}{k x:Ky}:x∈nK L k↔x=k\/x∈L:=by
 grind[List.takeWhile_append_dropWhile,nK]
theorem Me{k:Ky}:∀{L:List Ky},L.Pairwise klt->k∉L->(nK L k).Pairwise klt
 | [],_,_=>List.pairwise_singleton ..
 |a::L,h,hn=>by
  have p:=aT.1 h;have na:a≠k:=(by grind);by_cases hl:ltK a k=true
  .have e:nK (a::L) k=a::nK L k:=by
    grind[nK,List.takeWhile_cons,List.dropWhile_cons]
   rw[e];refine aT.2 ⟨λx hx=>?_,Me p.2 λhm=>hn (aW _ hm)⟩;rcases Md.1 hx with rfl|hx
   .exact lt_iff.1 hl
   simp[*]
  .have e:nK (a::L) k=k::a::L:=by
    grind[nK,List.takeWhile_cons,List.dropWhile_cons]
   rw[e];have hka:klt k a:=(by grind[Xf,lt_iff]);refine aT.2 ⟨λx hx=>?_,h⟩;rcases aR.1 hx with rfl|hx
   .exact hka
   grind[Ci]
theorem pC{T:TT}(w:wfT T){k:Ky}:0<=jJ (bB [] T) k↔gO k.1 k.2 T:=by
 grind[oM,Lu,Ec]
theorem Gl{T:TT}(w:wfT T){k:Ky}(hm:¬gO k.1 k.2 T):nK (bB [] T) k=bB [] (mH k.2 k.1 T):=by
 refine Ba (by grind[Me,sK,oM]) (sK _ [] (sY k.1 w hm)) λx=>?_
 grind[Md,oM,sY,zG]
theorem Ug{T:TT}(w:wfT T){k:Ky}(hm:gO k.1 k.2 T):Ho (bB [] T) k=bB [] (rO k.2 k.1 T):=by
 obtain⟨i,hi,hgi,e⟩:=Ec ((oM w k).2 hm);have hr:Ho (bB [] T) k=(bB [] T).take i++(bB [] T).drop (i+1):=by
  grind[Ho]
 have hsp:bB [] T=(bB [] T).take i++k::(bB [] T).drop (i+1):=by
  grind[List.take_append_drop,List.drop_eq_getElem_cons]
 have hp:=sK T [] w;rw[hsp]at hp;obtain⟨p1,p2,p3⟩:=gG.1 hp;have p4:=aT.1 p2;rw[hr];refine Ba (by grind) (sK _ [] (Bk k.1 w hm)) λx=>?_;rw[oM (Bk k.1 w hm),Ex k.1 w hm,<- oM w x]
 conv=>rhs; rw[hsp]
 rw[bT,bT,aR,<- Prod.ext_iff]
 grind[Er]
theorem A4{T:TT}(w:wfT T){k:Ky}:yU (bB [] T) k=pcT T k:=by
 unfold yU pcT;have e1:decide (jJ (bB [] T) k>=0)=Br T k.1 k.2:=by
  rw[bH,decide_eq_true_iff,iY];exact pC w
 have e2:decide (((bB [] T).length:Int)>=20000)=decide (20000<=szT T):=by
  rw[decide_eq_decide,nC];omega
 rw[e1,e2]
theorem Tz{T:TT}(w:wfT T){k:Ky}:(bif decide (pcT T k=0)then nK (bB [] T) k else bB [] T)=bB [] (lQ T k):=by
 unfold lQ;by_cases h:pcT T k=0
 .simp_all [decide_eq_true,Gl,wJ]
 simp[*]
theorem xC{T:TT}(w:wfT T){k:Ky}:(bif decide (jJ (bB [] T) k<0)then 10 else 0)=dcT T k:=by
 unfold dcT;have e:decide (jJ (bB [] T) k<0)=!Br T k.1 k.2:=by
  rw[bH,decide_eq_true_iff,bL,<- Bool.not_eq_true,iY,<- pC w];omega
 simp[*]
theorem Oc{T:TT}(w:wfT T){k:Ky}:(bif !decide (jJ (bB [] T) k<0)then Ho (bB [] T) k else bB [] T)=bB [] (lP T k):=by
 unfold lP;by_cases h:Br T k.1 k.2=true
 .have h2:=iY.1 h;have h3:=(pC w).2 h2;simp_all[decide_eq_false,jJ,Ug]
 .have h2:¬0<=jJ (bB [] T) k:=(by grind[iY,pC])
  grind
theorem Mu:∀(l:List Ky) {T:TT},wfT T->(∀k∈l,kM k=false)->szT T+l.length<=20000->(uC l (bB [] T)).1=(tS l T).1/\((tS l T).1=0->(uC l (bB [] T)).2=bB [] (tS l T).2)
 | [],T,_,_,_=>⟨rfl,λ_=>rfl⟩
 |k::l,T,w,hv,hs=>by
  rw[bA]at hs;have hk:kF k.1 k.2=true:=by grind[kM,List.mem_cons_self]
  unfold uC tS;by_cases hm:gO k.1 k.2 T
  .have h1:pcT T k=8:=by grind[pcT,iY]
   simp_all[pC]
  .have h1:pcT T k=0:=wJ.2 ⟨hk,hm,by omega⟩;rw[if_neg (λh=>hm ((pC w).1 h)),if_pos h1,Gl w hm];have hz:=oT (i:=k.2) k.1 w;exact Mu l (sY k.1 w hm) (λx hx=>hv x (aW _ hx)) (by omega)
theorem Tf(l:List Ky):(iO l).1=(T19.fK l).1/\((T19.fK l).1=0->(iO l).2=bB [] (T19.fK l).2):=by
 unfold iO T19.fK;by_cases h1:20000<l.length
 .simp [*]
 .rw [if_neg h1,if_neg h1];by_cases h2:l.any kM=true
  .simp [*]
  .rw [if_neg h2,if_neg h2];refine Mu l oU (λk hk=>?_) (by show 0+_<=_; omega)
   grind
end Q12
end
