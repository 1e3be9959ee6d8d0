/- A part of the proof. -/
import Derived.Test.YtpiolkcdfgiefaaGreatDoorT13
import Derived.Test.YtpiolkcdfgiefaaGreatDoorT28
section
set_option maxHeartbeats 10000000
open Go Go.Eng Go.Proofs L1 L2 L3 L4 L6 L8 L9
set_option maxRecDepth 100000
namespace L10
def Td(s:List UInt8):Bool:=(((decide ((jB s).2.1=0) && decide (((jB s).1.length:Int)=1)) && decide (((jB s).1.getD 0 tk0).kind=1)) && decide (((jB s).1.getD 0 tk0).text=s))
def Ev(n:Nat):Bool:=(decide (97<=n) && decide (n<=122)) || (decide (65<=n) && decide (n<=90))
def aA5(n:Nat):Bool:=decide (48<=n) && decide (n<=57)
def oV(n:Nat):Bool:=Ev n || aA5 n || decide (n=95)
theorem V7{n:Nat}(h:n<256):decide (cls n=3)=Ev n:=by
 have e:(List.range 256).all (λn=>decide (cls n=3) == Ev n)=true:=by kernel_rfl
 grind
theorem Qy{n:Nat}(h:n<256):decide (cls n=3\/cls n=4\/cls n=5)=oV n:=by
 have e:(List.range 256).all (λn=>decide (cls n=3\/cls n=4\/cls n=5) == oV n)=true:=by kernel_rfl
 grind
def idB(s:List UInt8):Bool:=decide (s.length<=24) && (match s with
 | []=>false
 |b::_=>Ev b.toNat) && s.all λb=>oV b.toNat
theorem aCi{t:List UInt8}:∀(m:Nat) (i:Int) (out:List Tk),(lx t m i out).1=[]\/out <+: (lx t m i out).1:=by
 intro m;induction m with
 |zero=>intro i out; exact .inr (List.prefix_refl _)
 |succ m ih =>
  intro i out;rw[wD];split
  .split
   .rcases ih (gap t cls (nxV t cls i).2.1) (out++[(nxV t cls i).1])with h|h
    .exact .inl h
    grind[List.prefix_append]
   simp
  simp
theorem has3{b:UInt8}:uV cls 3 cs3 b=oV b.toNat:=by
 rw[<- Qy b.toNat_lt];unfold uV;rw[bH,decide_eq_true_iff,decide_eq_true_iff];constructor
 .rintro ⟨j,hj,h⟩
  match j,hj with
  |0,_=>left; exact h.symm
  |1,_=>right; left; exact h.symm
  |2,_=>right; right; exact h.symm
 .rintro (h|h|h)
  .exact ⟨0,by decide,h.symm⟩
  .exact ⟨1,by decide,h.symm⟩
  .exact ⟨2,by decide,h.symm⟩
theorem Yx{t:List UInt8}(h:t.all (λb=>oV b.toNat)=true):whl ⟨t,cls,0,3,cs3⟩=t.length:=by
 unfold whl;show((t.drop 0).takeWhile (uV cls 3 cs3)).length=_;rw[kH];induction t with
 |nil=>rfl
 |cons b t ih =>
  simp_all[List.all_cons,Bool.and_eq_true,List.takeWhile_cons_of_pos,has3,List.length_cons]
theorem Vw{t:List UInt8}(h:whl ⟨t,cls,0,3,cs3⟩=t.length):t.all (λb=>oV b.toNat)=true:=by
 unfold whl at h;replace h:((t.drop 0).takeWhile (uV cls 3 cs3)).length=t.length:=h;rw[kH]at h;have:=(List.takeWhile_prefix (uV cls 3 cs3) (l:=t)).eq_of_length h;rw[dI];intro b hb;rw[<- this]at hb;rw[<- has3];exact dI.1 (List.all_takeWhile (p:=uV cls 3 cs3) (l:=t)) b hb
theorem S6(t:List UInt8)(i:Int)(out:List Tk):lx t (t.length+1) i out=if i<(t.length:Int) then
   (if erV (nxV t cls i) out.length=0 then lx t t.length (gap t cls (nxV t cls i).2.1) (out++[(nxV t cls i).1])else ([],erV (nxV t cls i) out.length,i))
  else (out,0,0):=wD
theorem Xz{t:List UInt8}{f:Nat->Int}{i:Int}(h:(nxV t f i).1.kind=1):atV t f i=3/\nxV t f i=(⟨1,i,0,qS t i (mX t f i)⟩,mX t f i,0)/\mX t f i-i<=24:=by
 unfold nxV at h ⊢;by_cases hc:atV t f i=3
 .rw [if_pos hc]at h ⊢;by_cases hg:mX t f i-i>24
  .rw [if_pos hg]at h; exact absurd h (by decide)
  grind
 .exfalso;rw[if_neg hc]at h;by_cases h4:atV t f i=4
  .rw [if_pos h4]at h;split at h<;>exact absurd h (by first|decide|simp)
  .rw [if_neg h4]at h;by_cases h6:atV t f i=6
   .rw [if_pos h6]at h;split at h
    .exact absurd h (by decide)
    .split at h
     .exact absurd h (by decide)
     grind
   .rw [if_neg h6]at h;by_cases h7:atV t f i=7\/atV t f i=8
    .rw [if_pos h7]at h;split at h
     .grind
     .split at h
      .exact absurd h (by decide)
      grind
    .rw [if_neg h7]at h;split at h
     .grind
     .exact absurd h (by decide)
theorem Ip{b:UInt8}{s:List UInt8}:decide (atV (b::s) cls 0=3)=Ev b.toNat:=by
 rw[<- V7 b.toNat_lt];congr 1
theorem aAi(t:List UInt8):atV t cls (t.length:Int)=0:=by
 simp_all[atV,decide_eq_true,cond_true]
theorem Wt(t:List UInt8):gap t cls (t.length:Int)=(t.length:Int):=by
 have w:w1 t cls (t.length:Int)=(t.length:Int):=by
  have:=Ib (f:=cls) (t:=t) (j:=(t.length:Int)) (by omega) (gY _);omega
 unfold gap;rw[w];show(if atV t cls (t.length:Int)=2 then _ else _)=_;simp_all[aAi]
theorem Wu{b:UInt8}{s:List UInt8}(h:Ev b.toNat=true):gap (b::s) cls 0=0:=by
 have h3:atV (b::s) cls 0=3:=by simp_all[Ip,of_decide_eq_true]
 have w:w1 (b::s) cls 0=0:=by
  unfold w1 whl;show(0:Int)+((((b::s).drop 0).takeWhile (uV cls 1 λ_=>1)).length:Nat)=0;have:uV cls 1 (λ_=>1) b=false:=by
   unfold uV;rw[decide_eq_false_iff_not];rintro⟨_,_,h⟩;have:cls b.toNat=3:=h3
   grind
  simp[*]
 unfold gap;rw[w];show(if atV (b::s) cls 0=2 then _ else _)=_;omega
theorem Wx{s:List UInt8}(h:idB s=true):jB s=([⟨1,0,0,s⟩],0,0):=by
 unfold idB at h;simp only[aI,decide_eq_true_eq]at h;obtain⟨⟨h1,h2⟩,h3⟩:=h;cases s with
 |nil=>grind
 |cons b s =>
  have hl:Ev b.toNat=true:=h2;have h3':atV (b::s) cls 0=3:=by simp_all[Ip,of_decide_eq_true]
  have hw:mX (b::s) cls 0=((b::s).length:Int):=by grind[mX,Yx]
  have hn:nxV (b::s) cls 0=(⟨1,0,0,b::s⟩,((b::s).length:Int),0):=by
   unfold nxV;rw[if_pos h3',hw,if_neg (by omega)];unfold qS;simp
  unfold jB;rw[if_neg (by omega),Wu hl,S6,if_pos (by show(0:Int)<((s.length+1:Nat):Int); omega),hn];have e0:erV (((⟨1,0,0,b::s⟩,((b::s).length:Int),0):NR)) ([]:List Tk).length=0:=by
   rfl
  rw[if_pos e0];show lx (b::s) (s.length+1) (gap (b::s) cls ((b::s).length:Int)) [⟨1,0,0,b::s⟩]=_;rw[Wt,wD,if_neg (by omega)]
theorem Xl(s:List UInt8):Td s=idB s:=by
 rw[bH];constructor
 .intro h;unfold Td at h;simp only[aI,decide_eq_true_eq]at h;obtain⟨⟨⟨h1,h2⟩,h3⟩,h4⟩:=h;unfold jB at h1 h2 h3 h4;by_cases hl:20000<s.length
  .grind
  .rw [if_neg hl,S6]at h1 h2 h3 h4;by_cases hg:gap s cls 0<(s.length:Int)
   .rw [if_pos hg]at h1 h2 h3 h4;by_cases he:erV (nxV s cls (gap s cls 0)) ([]:List Tk).length=0
    .rw [if_pos he]at h1 h2 h3 h4;have hp:=aCi (t:=s) s.length (gap s cls (nxV s cls (gap s cls 0)).2.1) ([]++[(nxV s cls (gap s cls 0)).1]);generalize (lx s s.length (gap s cls (nxV s cls (gap s cls 0)).2.1) ([]++[(nxV s cls (gap s cls 0)).1])).1=l at hp h2 h3 h4;rcases hp with hp|⟨r,hp⟩
     .grind
     .rw [<- hp]at h3 h4;have h3:(nxV s cls (gap s cls 0)).1.kind=1:=h3;have h4:(nxV s cls (gap s cls 0)).1.text=s:=h4;obtain⟨k1,k2,k3⟩:=Xz h3;have hb:=Jb (t:=s) (f:=cls) (by decide) (j:=0) (by decide) (by omega);have w0:whl ⟨s,cls,gap s cls 0,3,cs3⟩<=s.length-(gap s cls 0).toNat:=vD;have w2:gap s cls 0<=mX s cls (gap s cls 0):=by unfold mX; omega
      have w3:mX s cls (gap s cls 0)<=(s.length:Int):=by unfold mX; omega
      rw[k2]at h4;have h5:(qS s (gap s cls 0) (mX s cls (gap s cls 0))).length=s.length:=congrArg List.length h4;unfold qS at h5;rw[eN,gM]at h5;have g0:gap s cls 0=0:=by omega
      rw[g0]at k1 k3 w3 h5;have w4:mX s cls 0=(s.length:Int):=by omega
      have hw:whl ⟨s,cls,0,3,cs3⟩=s.length:=by grind[mX]
      have hall:=Vw hw;unfold idB;simp only[aI,decide_eq_true_eq]
      grind[Ip]
    grind
   grind
 grind[Td,Wx]
end L10
end
section
set_option maxHeartbeats 10000000
open Go Go.Eng Go.Proofs L10 T1 T6 T10
set_option maxRecDepth 100000
namespace Q5
def O2(x:Int):Bool:=(decide (x>=97) && decide (x<=122)) || (decide (x>=65) && decide (x<=90))
def We(x:Int):Bool:=decide (x>=48) && decide (x<=57)
def Vn(x:Int):Bool:=O2 x || We x || decide (x=95)
theorem Zm(n:Nat):O2 (n:Int)=Ev n:=by
 unfold O2 Ev
 grind
theorem aEe(n:Nat):We (n:Int)=aA5 n:=by
 unfold We aA5
 grind
theorem Vl(n:Nat):Vn (n:Int)=oV n:=by
 unfold Vn oV;rw[Zm,aEe]
 grind
def g102:List Nat:=[0,2]
def c102:aY :=
 .seq (.region g102 [(zo 2 (.move cF))]) (.seq (.region g102 [(mv 3 0),(zo 4 (.bin (.geq) (.s 3) (.c (.int (.u8) 97)))),(mv 5 4),(mg 6 5 true 0),(zg 7 5 true (.bin (.leq) (.s 6) (.c (.int (.u8) 122)))),(zo 8 (.pick (.s 5) (.s 7) cF)),(mv 9 8),(mg 10 9 false 0),(zg 11 9 false (.bin (.geq) (.s 10) (.c (.int (.u8) 65)))),(mg 12 9 false 11),(mg 13 12 true 0),(zg 14 12 true (.bin (.leq) (.s 13) (.c (.int (.u8) 90)))),(zg 15 9 false (.pick (.s 12) (.s 14) cF)),(zo 16 (.pick (.s 9) cT (.s 15))),(mv 2 16)]) .ret)
theorem e102:bO Tryz.prog 102 g102 [] [] []=some (c102,[.slot 2],17):=by kernel_rfl
def Sx:Eng.Spec where
 X:=Int
 args:=λx=>.cons (.int .u8 x) .nil
 pre:=λ_=>True
 res:=λx=>.bool (O2 x)
 inst:=fun
  |.cons (.int _ n) _=>some n
  |_=>none
theorem Sy:Sx.Ok Tryz.prog 102:=by
 refine Eng.Spec.okR e102 .nil (λ_=>[]) (λ_ _=>aO.nil) ?_;rintro(x:Int) (_:True);refine⟨trivial,?_⟩;rfl
def g125:List Nat:=[0,2]
def c125:aY :=
 .seq (.region g125 [(zo 2 (.move cF))]) (.seq (.region g125 [(mv 3 0),(zo 4 (.bin (.geq) (.s 3) (.c (.int (.u8) 48)))),(mv 5 4),(mg 6 5 true 0),(zg 7 5 true (.bin (.leq) (.s 6) (.c (.int (.u8) 57)))),(zo 8 (.pick (.s 5) (.s 7) cF)),(mv 2 8)]) .ret)
theorem e125:bO Tryz.prog 125 g125 [] [] []=some (c125,[.slot 2],9):=by kernel_rfl
def Dn:Eng.Spec where
 X:=Int
 args:=λx=>.cons (.int .u8 x) .nil
 pre:=λ_=>True
 res:=λx=>.bool (We x)
 inst:=Sx.inst
theorem uO:Dn.Ok Tryz.prog 125:=by
 refine Eng.Spec.okR e125 .nil (λ_=>[]) (λ_ _=>aO.nil) ?_;rintro(x:Int) (_:True);refine⟨trivial,?_⟩;rfl
def g101:List Nat:=[0,2]
def c101:aY :=
 .seq (.region g101 [(zo 2 (.move cF))]) (.seq (.region g101 [(mv 3 0),(zo 4 (.call (.c (.fn 102)) [.s 3])),(mv 5 4),(mg 6 5 false 0),(zg 7 5 false (.call (.c (.fn 125)) [.s 6])),(zo 8 (.pick (.s 5) cT (.s 7))),(mv 9 8),(mg 10 9 false 0),(zg 11 9 false (.bin (.eql) (.s 10) (.c (.int (.u8) 95)))),(zo 12 (.pick (.s 9) cT (.s 11))),(mv 2 12)]) .ret)
theorem e101:bO Tryz.prog 101 g101 [] [] []=some (c101,[.slot 2],13):=by kernel_rfl
def aGc:Eng.Spec where
 X:=Int
 args:=λx=>.cons (.int .u8 x) .nil
 pre:=λ_=>True
 res:=λx=>.bool (Vn x)
 inst:=Sx.inst
theorem Yy:aGc.Ok Tryz.prog 101:=by
 refine Eng.Spec.okR e101 .nil (λ_=>[(102,.p Sx),(125,.p Dn)]) (by grind[aO.p,Sy,uO,aO.nil]) ?_;rintro(x:Int) (_:True);refine⟨trivial,?_⟩;repeat' (first|apply aA|exact trivial|exact rfl)
 refine λ(_:O2 x=false)=>?_;repeat' (first|apply aA|exact trivial|exact rfl)
theorem m3{a b c:Bool}:{p:Bool}->p=(a && b)->(match p with|false=>false|true=>c)=((a && b) && c)
 |true,h=>by simp[*]
 |false,h=>by grind
theorem m4{b:Bool}:{p:Bool}->(match p with|false=>false|true=>b)=(p && b)
 |true=>rfl
 |false=>rfl
theorem aBt{t:B}{j:Nat}(hj:j<t.length)(h:oV (t.getD j 0).toNat=false):idB t=false:=by
 unfold idB
 grind
theorem aBs{t:B}(h:∀i,i<t.length->oV (t.getD i 0).toNat=true):idB t=((decide ((t.length:Int)>0) && decide ((t.length:Int)<=24)) && O2 ((t.getD 0 0).toNat:Int)):=by
 unfold idB;have:(t.all λb=>oV b.toNat)=true:=by
  rw[dI];intro b hb;obtain⟨i,hi,rfl⟩:=bG hb
  grind
 rw[this,lE];cases t with
 |nil=>rfl
 |cons b t =>
  have e1:decide (((b::t).length:Int)>0)=true:=(by grind);have e2:decide (((b::t).length:Int)<=24)=decide ((b::t).length<=24):=by grind
  grind[Zm]
def g74:List Nat:=[7,14,3,0,2]
def c74:aY :=
 .seq (.region g74 [(zo 2 (.move cF))]) (.seq (.seq (.region g74 [(zo 3 (.move (cj 0)))]) (.block 0 (.loop 0 [4,5,6,7,10,11,12,13,14,2,8,9,3] (.seq (.seq (.region g74 [(mv 4 3),(mv 5 0),(zo 6 (.lenStr (.s 5))),(zo 7 (.bin (.lss) (.s 4) (.s 6)))]) (.cond (.s 7) .skip (.exit 0))) (.seq (.block 1 (.seq (.region g74 [(mv 10 0),(mv 11 3),(zo 12 (.idxStr (.s 10) (.s 11))),(zo 13 (.call (.c (.fn 101)) [.s 12])),(zo 14 (.not (.s 13)))]) (.cond (.s 14) (.seq (.region g74 [(zo 2 (.move cF))]) .ret) .skip))) (.region g74 [(mv 8 3),(zo 9 (.bin (.add) (.s 8) (cj 1))),(mv 3 9)])))))) (.seq (.region g74 [(mv 15 0),(zo 16 (.lenStr (.s 15))),(zo 17 (.bin (.gtr) (.s 16) (cj 0))),(mv 18 17),(mg 19 18 true 0),(zg 20 18 true (.lenStr (.s 19))),(zg 21 18 true (.bin (.leq) (.s 20) (cj 24))),(zo 22 (.pick (.s 18) (.s 21) cF)),(mv 23 22),(mg 24 23 true 0),(zg 25 23 true (.idxStr (.s 24) (cj 0))),(zg 26 23 true (.call (.c (.fn 102)) [.s 25])),(zo 27 (.pick (.s 23) (.s 26) cF)),(mv 2 27)]) .ret))
theorem e74:bO Tryz.prog 74 g74 [] [] []=some (c74,[.slot 2],28):=by kernel_rfl
def nmS:Eng.Spec where
 X:=B
 args:=λx=>.cons (.str x) .nil
 pre:=λx=>x.length<4611686018427387904
 res:=λx=>.bool (idB x)
 inst:=fun
  |.cons (.str t) _=>some t
  |_=>none
theorem aFd:nmS.Ok Tryz.prog 74:=by
 refine Eng.Spec.okR e74 .nil (λ_=>[(101,.p aGc),(102,.p Sx)]) (by grind[aO.p,Yy,Sy,aO.nil]) ?_;rintro(t:B) (ht:t.length<4611686018427387904);refine⟨trivial,?_⟩;refine⟨⟨Nat,λj=>j<=t.length/\∀i,i<j->oV (t.getD i 0).toNat=true,λj=>[(3,.int .i64 (j:Int))],λ_=>[],λj=>t.length-j⟩,0,⟨aS _,(by grind)⟩,?_,?_⟩
 .repeat' (first|apply aA|exact trivial|exact rfl)
 rintro(j:Nat) ⟨(kj:j<=t.length),(kw:∀i,i<j->oV (t.getD i 0).toNat=true)⟩;repeat' (first|refine aA ?_ ?_)
 .refine λ(hg:decide ((j:Int)<(t.length:Int))=true)=>?_;have hj:j<t.length:=by grind
  have g0:(0:Int)<=(j:Int):=by omega
  have g1:(j:Int)<(t.length:Int):=by omega
  have g2:-9223372036854775808<=(j:Int)+1:=by omega
  have g3:(j:Int)+1<=9223372036854775807:=by omega
  repeat' (first|apply aA|exact trivial|exact rfl|(with_reducible first|exact g0|exact g1))
  .refine λ(h:(!Vn ((t.getD j 0).toNat:Int))=true)=>?_;have hb:false=idB t:=by
    grind[Vl,aBt]
   repeat' (first|exact hb)
  .refine λ(h:(!Vn ((t.getD j 0).toNat:Int))=false)=>?_;have hw:∀i,i<j+1->oV (t.getD i 0).toNat=true:=(by grind[Vl]);have k2:j+1<=t.length/\∀i,i<j+1->oV (t.getD i 0).toNat=true:=⟨hj,hw⟩;have k3:t.length-(j+1)<t.length-j:=by omega
   repeat' (first|apply aA|(with_reducible first|exact g2|exact g3))
   refine aB (j+1) ?_;repeat' (first|exact k2|with_reducible exact k3|apply aA|exact trivial|exact rfl)
 .refine λ(hg:decide ((j:Int)<(t.length:Int))=false)=>?_;have hj:j=t.length:=by grind
  subst hj;have e:=aBs kw;repeat' (first|refine aA ?_ ?_)
  .exact λ(h:bN _ _ _ _ _=true)=>⟨gY 0,by
    simp_all[bW,Bool.and_eq_true,of_decide_eq_true]⟩
  .refine λ(_:bN _ _ _ _ _=true)=>?_;repeat' (first|apply aA|exact trivial|exact rfl)
  .exact (m3 (bW _ _ _ _)).trans e.symm
theorem aEs(t:B):idV t=idB t:=Xl t
theorem aFi(b:UInt8):(decide ((b.toNat:Int)<32) || decide ((b.toNat:Int)>126))=!okB b:=by
 unfold okB
 grind
theorem Yv{t i:B}{j:Nat}(hj:j<t.length)(h:okB (t.getD j 0)=false):kF t i=false:=by
 unfold kF
 grind
theorem Yu{t i:B}{j:Nat}(hj:j<=t.length)(h:∀q,q<j->okB (t.getD q 0)=true)(hg:(decide ((j:Int)<(t.length:Int)) && decide ((j:Int)<=120))=false):kF t i=(decide ((t.length:Int)<=120) && idB i):=by
 unfold kF;rw[aEs];by_cases hl:t.length<=120
 .have hjl:j=t.length:=by
   grind
  have:t.all okB=true:=by
   rw[dI];intro b hb;obtain⟨q,hq,rfl⟩:=bG hb
   grind
  grind
 grind
def g49:List Nat:=[0,12,26,3,1,2]
def c49:aY :=
 .seq (.region g49 [(zo 1 (.box 32 (.s 0))),(zo 2 (.move cF))]) (.seq (.seq (.region g49 [(zo 3 (.move (cj 0)))]) (.block 0 (.loop 0 [4,5,6,7,8,9,10,11,12,15,16,17,18,19,20,21,22,23,24,25,26,2,13,14,3] (.seq (.seq (.region g49 [(mv 4 3),(fa 5 0 1),(ld 6 5),(zo 7 (.lenStr (.s 6))),(zo 8 (.bin (.lss) (.s 4) (.s 7))),(mv 9 8),(mg 10 9 true 3),(zg 11 9 true (.bin (.leq) (.s 10) (cj 120))),(zo 12 (.pick (.s 9) (.s 11) cF))]) (.cond (.s 12) .skip (.exit 0))) (.seq (.block 1 (.seq (.region g49 [(fa 15 0 1),(ld 16 15),(mv 17 3),(zo 18 (.idxStr (.s 16) (.s 17))),(zo 19 (.bin (.lss) (.s 18) (.c (.int (.u8) 32)))),(mv 20 19),(fg 21 20 false 0 1),(lg 22 20 false 21),(mg 23 20 false 3),(zg 24 20 false (.idxStr (.s 22) (.s 23))),(zg 25 20 false (.bin (.gtr) (.s 24) (.c (.int (.u8) 126)))),(zo 26 (.pick (.s 20) cT (.s 25)))]) (.cond (.s 26) (.seq (.region g49 [(zo 2 (.move cF))]) .ret) .skip))) (.region g49 [(mv 13 3),(zo 14 (.bin (.add) (.s 13) (cj 1))),(mv 3 14)])))))) (.seq (.region g49 [(fa 27 0 1),(ld 28 27),(zo 29 (.lenStr (.s 28))),(zo 30 (.bin (.leq) (.s 29) (cj 120))),(mv 31 30),(fg 32 31 true 1 1),(lg 33 31 true 32),(zg 34 31 true (.call (.c (.fn 74)) [.s 33])),(zo 35 (.pick (.s 31) (.s 34) cF)),(mv 2 35)]) .ret))
theorem e49:bO Tryz.prog 49 g49 [] [] []=some (c49,[.slot 2],36):=by kernel_rfl
def aDh:Eng.Spec where
 X:=B×B
 args:=λx=>.cons (.agg (xK x.1 x.2)) .nil
 pre:=λx=>x.1.length<4611686018427387904/\x.2.length<4611686018427387904
 res:=λx=>.bool (kF x.1 x.2)
 inst:=Yt.inst
theorem Ut:aDh.Ok Tryz.prog 49:=by
 refine Eng.Spec.okR e49 .nil (λ_=>[(74,.p nmS)]) (λ_ _=>aO.p aFd aO.nil) ?_;rintro⟨t,i⟩ ⟨(ht:t.length<4611686018427387904),(hi:i.length<4611686018427387904)⟩;refine⟨trivial,?_⟩;refine⟨⟨Nat,λj=>j<=t.length/\∀q,q<j->okB (t.getD q 0)=true,λj=>[(3,.int .i64 (j:Int))],λ_=>[(0,.cells 32 (xK t i))],λj=>t.length-j⟩,0,⟨aS _,(by grind)⟩,?_,?_⟩
 .repeat' (first|apply aA|exact trivial|exact rfl)
 rintro(j:Nat) ⟨(kj:j<=t.length),(kw:∀q,q<j->okB (t.getD q 0)=true)⟩;repeat' (first|refine aA ?_ ?_)
 .refine λ(hg:bN _ _ _ _ _=true)=>?_;rw[bW,aI,decide_eq_true_eq,decide_eq_true_eq]at hg;have hj:j<t.length:=by omega
  have g0:(0:Int)<=(j:Int):=by omega
  have g1:(j:Int)<(t.length:Int):=by omega
  have g2:-9223372036854775808<=(j:Int)+1:=by omega
  have g3:(j:Int)+1<=9223372036854775807:=by omega
  repeat' (first|apply aA|(with_reducible first|exact g0|exact g1))
  .omega
  .refine λ(h:bN _ _ _ _ _=true)=>?_;have hb:false=kF t i:=by
    grind[dL,aFi,Yv]
   repeat' (first|exact hb)
  .refine λ(h:bN _ _ _ _ _=false)=>?_;have hw:∀q,q<j+1->okB (t.getD q 0)=true:=(by grind[dL,aFi]);have k2:j+1<=t.length/\∀q,q<j+1->okB (t.getD q 0)=true:=⟨hj,hw⟩;have k3:t.length-(j+1)<t.length-j:=by omega
   repeat' (first|apply aA|(with_reducible first|exact g2|exact g3))
   refine aB (j+1) ?_;repeat' (first|exact k2|with_reducible exact k3|apply aA|exact trivial|exact rfl)
 .refine λ(hg:bN _ _ _ _ _=false)=>?_;rw[bW]at hg;have e:=Yu (i:=i) kj kw hg;repeat' (first|refine aA ?_ ?_)
  .refine λ(_:decide ((t.length:Int)<=120)=true)=>?_;repeat' (first|exact hi|apply aA|exact trivial|exact rfl)
  .exact (m4:_=(decide ((t.length:Int)<=120) && idB i)).trans e.symm
end Q5
end
