/- A part of the proof. -/
import Derived.Test.YtpiolkcdfgiefaaGreatDoorD7
import Derived.Test.YtpiolkcdfgiefaaGreatDoorT3
section
namespace D8
open Go Go.Eng Go.Proofs Go.RowKit Go.Shelf T1 D3
set_option maxRecDepth 1000000
theorem Kf (w:World):Calls Tryz.prog 148 #[.int .i64 16] w fun e w'=>e=.returned (.bool true)/\w'=w:=by
 go_enter Tryz.func148,Tryz.ntmps148
 go_wp2
 go_ret
 exact ⟨rfl,rfl⟩
theorem K1 (w:World) (hg:GV w):Calls Tryz.prog 172 #[.int .u64 16] w fun e w'=>e=.returned (.int .i64 4)/\w'=w:=by
 obtain ⟨T,fr,hd⟩:=hg.d;have hc:w.cell? ⟨7,15,none⟩=some (.int .u8 4):=by
  have hd':w.heap[7]?=some (.cells (dbr64.map fun z=>Value.int .u8 z).toArray T fr):=hd;simp only [World.cell?,hd'];rfl
 have h16:IntKind.u64.wrap (bits BinOp.and IntKind.u64 16 (IntKind.u64.wrap (-16)) * 285870213051353865) / 288230376151711744=15:=by decide
 clear hd
 go_enter Tryz.func172,Tryz.ntmps172
 go_wp2
 go_ret
 exact ⟨rfl,rfl⟩
theorem S4 (w:World) (hg:GV w):Calls Tryz.prog 149 #[.int .u64 16] w fun e w'=>e=.returned (.int .i64 4)/\w'=w:=by
 have c:=K1 w hg
 go_enter Tryz.func149,Tryz.ntmps149
 go_wp2_with (go_at_call 172; go_fit c; rintro e w' ⟨rfl,hw⟩; rw [hw])
 go_ret
 exact ⟨rfl,rfl⟩
def Row (b:Nat) (acc:List UInt8) (w:World):Prop :=
 (∀ j,j < 65->∃ v,w.cell? ⟨b,j,none⟩=some v)/\(∀ j,w.frozen? ⟨b,j,none⟩=false)/\∀ j,j < acc.length->w.cell? ⟨b,65 - acc.length+j,none⟩=some (.int .u8 ((acc.getD j 0).toNat:Int))
theorem Vf (w:World):Row w.heap.size [] (w.alloc (.cells Tryz.zeroCells177 177)):=by
 refine ⟨fun j hj=>?_,fun j=>World.frozen?_alloc_new ..,fun j hj=>absurd hj (bP _)⟩;rw [World.cell?_alloc_new];exact ⟨_,bA (show j < Tryz.zeroCells177.size from hj)⟩
theorem Mw {b:Nat} {acc:List UInt8} {w:World} (h:Row b acc w) (ha:acc.length < 65) (d:UInt8):Row b (d::acc) (w.setCell ⟨b,65 - acc.length - 1,none⟩ (.int .u8 (d.toNat:Int))):=by
 refine ⟨fun j hj=>?_,fun j=>by rw [World.frozen?_setCell]; exact h.2.1 j,fun j hj=>?_⟩
 ·by_cases e:j=65 - acc.length - 1
  ·subst e;obtain ⟨v,hv⟩:=h.1 _ hj;exact ⟨_,World.cell?_setCell_same _ _ _ hv⟩
  ·obtain ⟨v,hv⟩:=h.1 _ hj;refine ⟨v,?_⟩;rw [World.cell?_setCell_other _ _ _ _ (fun x=>e (by injection x with _ x _; omega))];exact hv
 ·cases j with
  | zero =>
   obtain ⟨v,hv⟩:=h.1 (65 - acc.length - 1) (by omega);rw [aY,show 65 - (acc.length+1)+0=65 - acc.length - 1 by omega,List.getD_cons_zero];exact World.cell?_setCell_same _ _ _ hv
  | succ j =>
   rw [aY] at hj;rw [aY,show 65 - (acc.length+1)+(j+1)=65 - acc.length+j by omega,List.getD_cons_succ,World.cell?_setCell_other _ _ _ _ (fun x=>by injection x with _ x _; omega)];exact h.2.2 j (by omega)
abbrev digs:ByteArray:={ data:=#[48,49,50,51,52,53,54,55,56,57,97,98,99,100,101,102,103,104,105,106,107,108,109,110,111,112,113,114,115,116,117,118,119,120,121,122] }
theorem lt36 {u:Nat} (h:u < 16):u < digs.size:=Nat.lt_trans h (by decide)
theorem Qb (u:Nat) (h:u < 16) (h':u < digs.size):digs[u]=dgt u:=by
 match u,h with
 | 0,_|1,_|2,_|3,_|4,_|5,_|6,_|7,_|8,_|9,_|10,_|11,_|12,_|13,_|14,_|15,_=>rfl
 | u+16,h=>exact absurd h (by omega)
theorem and15 (u:Nat) (hu:u < 18446744073709551616):bits .and .u64 (u:Int) 15=((u % 16:Nat):Int):=by
 have h:=bits_mask .u64 64 (by decide) (fun n h0 h1=>by rw [IntKind.wrap_u64]; omega) 4 (by decide) (u:Int) (by omega) (by omega);have e:((2:Int) ^ 4 - 1)=15:=by decide
 have e2:((2:Int) ^ 4)=16:=by decide
 rw [e,e2] at h;rw [h];omega
theorem Ub (n:Nat) (hn:n < 18446744073709551616) (w:World) (hgv:GV w) :
  Calls Tryz.prog 129 #[.slice none 0 0,.int .u64 n,.int .i64 16,.bool false,.bool false] w fun e w'=>e=.returned (.tuple #[.slice none 0 0,.string ⟨(vM n).toArray⟩])/\RowKit.Below w.heap.size w w':=by
 have b0:RowKit.Below w.heap.size w (w.alloc (.cells Tryz.zeroCells177 177)):=(RowKit.Below.refl _ w).alloc (aL _) _;have cT:=S4 _ (D7.Qy hgv b0)
 go_enter Tryz.func129,Tryz.ntmps129
 go_wp2_with (first
  | (go_at_call 148; refine (Kf _).mono ?_; rintro e w' ⟨rfl,hw⟩; rw [hw])
  | (go_at_call 149; refine cT.mono ?_; rintro e w' ⟨rfl,hw⟩; rw [hw]))
 go_loopg [1,13] 16 (fun g s1 s13 wx=>∃ (u:Nat) (acc:List UInt8),s1=.int .u64 (u:Int)/\s13=.int .i64 (((65 - acc.length:Nat)):Int)/\acc.length+g=16/\Eh g u acc=vM n/\u < 16 ^ g/\1<=g/\Row w.heap.size acc wx/\RowKit.Below w.heap.size w wx)
 case atStart=>exact ⟨n,[],rfl,rfl,rfl,rfl,by omega,by omega,Vf w,b0⟩
 case round =>
  obtain ⟨u,acc,rfl,rfl,hag,hV,hu,hg1,hr,hbx⟩:=hrel;obtain ⟨g,rfl⟩:∃ g,gk=g+1:=⟨gk - 1,by omega⟩;simp only [Eh] at hV;obtain ⟨p,hp⟩:∃ p,65 - acc.length=p+1:=⟨64 - acc.length,by omega⟩;rw [hp];have hp1:((p+1:Nat):Int) - 1=(p:Int):=by omega
  have hp65:p < 65:=by omega
  have hp65':(p:Int) < 65:=by omega
  obtain ⟨v,hv⟩:=hr.1 p hp65;have hf:=hr.2.1 p;have hn2:u < 18446744073709551616:=bX hu (Nat.pow_le_pow_right (n:=16) (j:=16) (by decide) (by omega));by_cases h16:u < 16
  ·have h16':¬ ((u:Int)>=16):=by omega
   have h36':(u:Int) < 36:=by omega
   have hal:Tryz.prog.arrayLen 177=65:=by simp [Program.arrayLen,Tryz.underlying177]
   have hsl:∀ W,(Instr.sliceAt 177 (.pointer (some ⟨w.heap.size,0,none⟩)) (some (.int .i64 (p:Int))) none none).run Tryz.prog W=.ok (.slice (some ⟨w.heap.size,p,none⟩) (65 - p) (65 - p)) W:=fun W=>by
    rw [run_sliceAt_array_l W 177 ⟨w.heap.size,0,none⟩ (by simp [Program.arrayLen,Program.elem,Tryz.underlying177]) .i64 (p:Int) (by omega) (by rw [hal]; omega)]
    go_simp
    omega
   clear hal;have hr2:Row w.heap.size (dgt (u)::acc) (wr.setCell ⟨w.heap.size,p,none⟩ (.int .u8 ((digs[u]'(lt36 h16)).toNat:Int))):=by
    rw [Qb _ h16 (lt36 h16)];have h:=Mw hr (by omega) (dgt (u));rw [hp,jG] at h;exact h
   rw [if_pos h16] at hV;have hcv:(convert 87 9 (.slice (some ⟨w.heap.size,p,none⟩) (65 - p) (65 - p))).run Tryz.prog (wr.setCell ⟨w.heap.size,p,none⟩ (.int .u8 ((digs[u]'(lt36 h16)).toNat:Int)))=.ok (.string ⟨(vM n).toArray⟩) (wr.setCell ⟨w.heap.size,p,none⟩ (.int .u8 ((digs[u]'(lt36 h16)).toNat:Int))):=by
    have hl:(dgt u::acc).length=65 - p:=by rw [aY]; omega
    have h:=run_convert_bytes_back (P:=Tryz.prog) (wr.setCell ⟨w.heap.size,p,none⟩ (.int .u8 ((digs[u]'(lt36 h16)).toNat:Int))) 87 9 5 ⟨w.heap.size,p,none⟩ (65 - p) (dgt u::acc) Tryz.underlying87 Tryz.underlying5 Tryz.underlying9 (fun j hj=>by
     have h:=hr2.2.2 j hj;rw [hl,show 65 - (65 - p)+j=p+j by omega,aE,aH hj,bZ] at h;rw [Lib.add_plain];exact h)
    rw [hl,hV] at h;exact h
   have hb2:RowKit.Below w.heap.size w (wr.setCell ⟨w.heap.size,p,none⟩ (.int .u8 ((digs[u]'(lt36 h16)).toNat:Int))):=hbx.setCell (aL _) _;unfold digs at hcv hb2
   go_wp2
   go_ret2
   exact ⟨rfl,hb2⟩
  ·have h16':(u:Int)>=16:=by omega
   have hm:u % 16 < 16:=Nat.mod_lt _ (by decide);have hmk:bits .and .u64 (u:Int) 15=((u % 16:Nat):Int):=and15 u hn2;have hr2:Row w.heap.size (dgt (u % 16)::acc) (wr.setCell ⟨w.heap.size,p,none⟩ (.int .u8 ((digs[u % 16]'(lt36 hm)).toNat:Int))):=by
    rw [Qb _ hm (lt36 hm)];have h:=Mw hr (by omega) (dgt (u % 16));rw [hp,jG] at h;exact h
   rw [if_neg h16] at hV;have h4:∀ g,u < 16 ^ (g+1)->u / 16 < 16 ^ g:=fun g h=>Nat.div_lt_of_lt_mul (by rw [Nat.pow_succ] at h; omega)
   go_wp2
   go_roundg g
   case measure=>omega
   case rel =>
    refine ⟨u / 16,dgt (u % 16)::acc,?_,?_,?_,hV,h4 _ hu,?_,hr2,hbx.setCell (aL _) _⟩
    ·rw [Int.natCast_ediv]; rfl
    ·rw [aY,show 65 - (acc.length+1)=p by omega]
    ·rw [aY]; omega
    ·cases g with
     | zero=>exact absurd hu (by omega)
     | succ g=>omega
theorem Qq (n:Nat) (hn:n < 18446744073709551616) (w:World) (hgv:GV w) :
  Calls Tryz.prog 110 #[.int .u64 n,.int .i64 16] w fun e w'=>e=.returned (.string ⟨(vM n).toArray⟩)/\RowKit.Below w.heap.size w w':=by
 have c:=Ub n hn w hgv
 go_enter Tryz.func110,Tryz.ntmps110
 go_wp2_with (go_at_call 129; go_fit c; rintro e w' ⟨rfl,hb⟩)
 go_ret
 exact ⟨rfl,hb⟩
theorem Qr (n:Nat) (hn:n < 18446744073709551616) (w:World) (hgv:GV w) :
  Calls Tryz.prog 91 #[.int .u64 n,.int .i64 16] w fun e w'=>e=.returned (.string ⟨(vM n).toArray⟩)/\RowKit.Below w.heap.size w w':=by
 have c:=Qq n hn w hgv
 go_enter Tryz.func91,Tryz.ntmps91
 go_wp2_with (go_at_call 110; go_fit c; rintro e w' ⟨rfl,hb⟩)
 go_ret
 exact ⟨rfl,hb⟩
theorem X7:fmtS.Ok Tryz.prog 91:=by
 refine uV (enters_of Tryz.func91 (by kernel_rfl) rfl) ?_;rintro (x:Int) w vs U hg ⟨(h1:0<=x),(h2:x < 18446744073709551616)⟩ hR;simp only [fmtS,R] at hR;obtain ⟨v1,r1,rfl,e1,v2,r2,rfl,e2,rfl⟩:=hR;obtain rfl:=aC.1 e1;obtain rfl:=aC.1 e2;obtain ⟨n,rfl⟩:∃ n:Nat,x=(n:Int):=⟨x.toNat,by omega⟩;exact ⟨_,(Qr n (by omega) w hg).mono fun e w' h=>⟨h.1,D7.blw h.2⟩,fun E=>by simp only [fmtS,R]⟩
theorem Kw:S0.Ok Tryz.prog 62:=D3.Kw X7 D4.Zg
theorem zR:D6.A2.Ok Tryz.prog 35:=D7.zR Kw
theorem I2:D6.Xz.Ok Tryz.prog 19:=D6.I2 zR
end D8
end
section
open Go Go.Eng Go.Proofs T1 T2 T3 T4 T5 T6 T7 T8 T9 T10 T11 T12 T13 T14 T15 T16 T17 T18 T19 T24
set_option maxRecDepth 100000
namespace T26
theorem _root_.T18.Tr.mono {D:Dg} {T:TT} {N:Nat->NO} {c r:Nat} {K K':Int} (h:Tr D T N c r K) (hK:K<=K'):Tr D T N c r K':=by
 refine ⟨h.rep,⟨h.ok.cl,h.ok.nd,?_⟩,h.wf,h.val,h.sz⟩;intro j a n m sz mk hj;have:=h.ok.bd _ _ _ _ _ _ hj;omega
def sE (T:TT) (k:Ky):TT:=if Bt T k.1 k.2=true then qV k.2 k.1 T else T
def oB (T:TT) (k:Ky):TT:=if pcT T k=0 then nG k.2 k.1 T else T
def opT (T:TT) (a:Ac):TT:=bif a.1 then sE T a.2 else oB T a.2
def doT (l:List Ac) (T:TT):TT:=l.foldl opT T
theorem _root_.T18.Tr.drop1 {D:Dg} {T:TT} {N:Nat->NO} {c r:Nat} {K:Int} (h:Tr D T N c r K) (hK:0<=K) (k:Ky):Tr D (sE T k) (T12.nO ⟨false,N,c,r,k.1,k.2⟩) c r (K+1000):=by
 unfold sE;split
 ·rename_i hm;exact h.drop hK (pL.1 hm)
 ·rename_i hm;have:HX.has ⟨false,N,c,r,k.1,k.2⟩=false:=by
   rw [iE];intro h';exact hm (pL.2 (h.has.1 h'))
  have e:T12.nO ⟨false,N,c,r,k.1,k.2⟩=N:=by unfold T12.nO; rw [this]; rfl
  rw [e];exact h.mono (by omega)
theorem _root_.T18.Tr.put1 {D:Dg} {T:TT} {N:Nat->NO} {c r:Nat} {K:Int} (h:Tr D T N c r K) (hK:0<=K) (k:Ky) {y:Nat} (hy:HX.puts ⟨true,N,c,r,k.1,k.2⟩=true->chS.post ⟨true,N,c,r,k.1,k.2⟩ y) :
  Tr D (oB T k) (sL ⟨true,N,c,r,k.1,k.2⟩ y) (putc ⟨true,N,c,r,k.1,k.2⟩) r (K+1000):=by
 unfold oB;have hp:=h.puts0 (t:=k.1) (i:=k.2);split
 ·rename_i hm;have hp':HX.puts ⟨true,N,c,r,k.1,k.2⟩=true:=by rw [hp]; exact decide_eq_true hm
  exact h.put hK hp' (hy hp')
 ·rename_i hm;have hp':HX.puts ⟨true,N,c,r,k.1,k.2⟩=false:=by rw [hp]; exact decide_eq_false hm
  have e:sL ⟨true,N,c,r,k.1,k.2⟩ y=N:=by unfold sL; rw [hp']; rfl
  have e2:putc ⟨true,N,c,r,k.1,k.2⟩=c:=by unfold putc; rw [hp']; rfl
  rw [e,e2];exact h.mono (by omega)
structure DX where
 T:TT
 N:Nat->NO
 c:Nat
 r:Nat
 K:Int
 l:List Ac
structure DY where
 N:Nat->NO
 c:Nat
 K:Int
def g33:List Nat:=[8,15,0,1,4]
def c33:bH :=
 .seq (.region g33 [(zo 4 (.move (cj 0)))]) (.block 0 (.loop 0 [5,6,7,8,11,12,13,14,15,16,17,18,19,20,21,22,23,24,25,26,27,28,29,9,10,4] (.seq (.seq (.region g33 [(mv 5 4),(mv 6 1),(zo 7 (.lenSl (.s 6))),(zo 8 (.bin (.lss) (.s 5) (.s 7)))]) (.cond (.s 8) .skip (.exit 0))) (.seq (.block 1 (.seq (.region g33 [(mv 11 1),(mv 12 4),(zo 13 (.idxSl 3 (.s 11) (.s 12))),(fa 14 0 13),(ld 15 14)]) (.cond (.s 15) (.region g33 [(mv 16 0),(mv 17 1),(mv 18 4),(zo 19 (.idxSl 3 (.s 17) (.s 18))),(fa 20 1 19),(zo 21 (.load 2 true (.s 20))),(zo 22 (.call (.c (.fn 14)) [.s 16,.s 21]))]) (.region g33 [(mv 23 0),(mv 24 1),(mv 25 4),(zo 26 (.idxSl 3 (.s 24) (.s 25))),(fa 27 1 26),(zo 28 (.load 2 true (.s 27))),(zo 29 (.call (.c (.fn 15)) [.s 23,.s 28]))])))) (.region g33 [(mv 9 4),(zo 10 (.bin (.add) (.s 9) (cj 1))),(mv 4 10)])))))
theorem e33:cR Tryz.prog 33 g33 [] [] []=some (c33,[],30):=by kernel_rfl
def doS (D:Dg):bU where
 X:=DX
 Y:=DY
 args:=fun x=>.cons (.own 0 0) (.cons (acE x.l) .nil)
 pre:=fun x=>Tr D x.T x.N x.c x.r x.K/\(0<=x.K/\x.K<=100000000000)/\x.l.length<=1000000/\∀ j,j < x.l.length->(x.l.getD j a0).2.1.length < 4611686018427387904
 h0:=fun x=>tH 0 1 x.r x.N
 nx0:=2
 post:=fun x y=>Tr D (doT x.l x.T) y.N y.c x.r y.K/\0<=y.K/\y.K<=x.K+1000 * (x.l.length:Int)
 res:=fun _ _=>.tup .nil
 h1:=fun x y=>tH 0 1 x.r y.N
 nx1:=2
theorem aAd (D:Dg):(doS D).Ok Tryz.prog 33:=by
 refine Eng.bU.okR e33 .nil (fun _=>[(14,.m Lo),(15,.m R5)]) (fun _ _=>aZ.m Lp (aZ.m Kg aZ.nil)) ?_;rintro ⟨T,N,c,r,K,l⟩ ⟨(h0:Tr D T N c r K),⟨(hK0:0<=K),(hK1:K<=100000000000)⟩,(hn:l.length<=1000000),(ht:∀ j,j < l.length->(l.getD j a0).2.1.length < 4611686018427387904)⟩;refine ⟨trivial,?_⟩;refine ⟨⟨Nat×TT×(Nat->NO)×Nat×Int,fun s=>s.1<=l.length/\doT (l.drop s.1) s.2.1=doT l T/\Tr D s.2.1 s.2.2.1 s.2.2.2.1 r s.2.2.2.2/\0<=s.2.2.2.2/\s.2.2.2.2<=K+1000 * (s.1:Int),fun s=>[(4,.int .i64 (s.1:Int))],fun s=>[(1,.fam fun q=>noO 1 (s.2.2.1 q))],fun s=>l.length - s.1⟩,(0,T,N,c,K),?_,?_,?_⟩
 ·exact ⟨bB _,rfl,h0,hK0,by show K<=K+1000 * ((0:Nat):Int); omega⟩
 ·repeat' (first|apply aA|exact trivial|exact rfl|exact fun (j:Nat) (hj:j < _)=>Or.inl (nX _ _ _ _)|exact fun i=>nB (by exact rfl) (N i)|fail)
 rintro ⟨j,S,M,d,Q⟩ ⟨(kj:j<=l.length),(k1:doT (l.drop j) S=doT l T),(k2:Tr D S M d r Q),(k3:0<=Q),(k4:Q<=K+1000 * (j:Int))⟩;have g0:(0:Int)<=(j:Int):=by omega
 repeat' (first|refine aA ?_ ?_)
 ·refine fun (hg:decide ((j:Int) < (l.length:Int))=true)=>?_;have hj:j < l.length:=by have:=of_decide_eq_true hg; omega
  have g1:(j:Int) < (l.length:Int):=by omega
  have g2:-9223372036854775808<=(j:Int)+1:=by omega
  have g3:(j:Int)+1<=9223372036854775807:=by omega
  have hdr:l.drop j=l.getD j a0::l.drop (j+1):=by rw [dG hj]; simp [hj]
  have hQ:Q<=1000000000000:=by omega
  have hp1:=k2.E5 (t:=(l.getD j a0).2.1) (i:=(l.getD j a0).2.2) hQ (ht j hj);have hp2:=k2.F8 (t:=(l.getD j a0).2.1) (i:=(l.getD j a0).2.2) hQ (ht j hj);have kj':j+1<=l.length:=hj;have k7:0<=Q+1000:=by omega
  have k8:Q+1000<=K+1000 * ((j+1:Nat):Int):=by omega
  have k9:l.length - (j+1) < l.length - j:=by omega
  repeat' (first|apply aA|(with_reducible first|exact g0|exact g1))
  ·refine fun (hb:(l.getD j a0).1=true)=>?_;have k6:doT (l.drop (j+1)) (sE S (l.getD j a0).2)=doT l T:=by
    rw [<- k1,hdr];show _=doT (l.drop (j+1)) (opT S (l.getD j a0));unfold opT;rw [hb];rfl
   repeat' (first|apply aA|(with_reducible first|exact g0|exact g1))
   refine aB (HX.mk false M d r (l.getD j a0).2.1 (l.getD j a0).2.2) (aB [0,1] ?_);repeat' (first|exact hp2|apply aA|exact trivial|exact rfl|exact fun i=>nB (by exact rfl) (M i)|fail)
   refine fun (_:Unit) (_:True)=>?_;have k5:=k2.drop1 k3 (l.getD j a0).2;repeat' (first|apply aA|(with_reducible first|exact g2|exact g3))
   refine aB (j+1,sE S (l.getD j a0).2,T12.nO ⟨false,M,d,r,(l.getD j a0).2.1,(l.getD j a0).2.2⟩,d,Q+1000) ?_;repeat' (first|(with_reducible first|exact kj'|exact k6|exact k5|exact k7|exact k8|exact k9)|apply aA|exact trivial|exact rfl|exact fun (j:Nat) (hj:j < _)=>Or.inl (nX _ _ _ _)|exact fun i=>mO (by exact rfl) (by exact rfl) _|fail)
  ·refine fun (hb:(l.getD j a0).1=false)=>?_;have k6:doT (l.drop (j+1)) (oB S (l.getD j a0).2)=doT l T:=by
    rw [<- k1,hdr];show _=doT (l.drop (j+1)) (opT S (l.getD j a0));unfold opT;rw [hb];rfl
   repeat' (first|apply aA|(with_reducible first|exact g0|exact g1))
   refine aB (HX.mk true M d r (l.getD j a0).2.1 (l.getD j a0).2.2) (aB [0,1] ?_);repeat' (first|exact hp1|apply aA|exact trivial|exact rfl|exact fun i=>nB (by exact rfl) (M i)|fail)
   refine fun (y:Nat) (hy:HX.puts ⟨true,M,d,r,(l.getD j a0).2.1,(l.getD j a0).2.2⟩=true->chS.post ⟨true,M,d,r,(l.getD j a0).2.1,(l.getD j a0).2.2⟩ y)=>?_;have k5:=k2.put1 k3 (l.getD j a0).2 hy;repeat' (first|apply aA|(with_reducible first|exact g2|exact g3))
   refine aB (j+1,oB S (l.getD j a0).2,sL ⟨true,M,d,r,(l.getD j a0).2.1,(l.getD j a0).2.2⟩ y,putc ⟨true,M,d,r,(l.getD j a0).2.1,(l.getD j a0).2.2⟩,Q+1000) ?_;repeat' (first|(with_reducible first|exact kj'|exact k6|exact k5|exact k7|exact k8|exact k9)|apply aA|exact trivial|exact rfl|exact fun (j:Nat) (hj:j < _)=>Or.inl (nX _ _ _ _)|exact fun i=>mO (by exact rfl) (by exact rfl) _|fail)
 ·refine fun (hg:decide ((j:Int) < (l.length:Int))=false)=>?_;have hj:j=l.length:=by have:=of_decide_eq_false hg; omega
  subst hj;have k5:Tr D (doT l T) M d r Q:=by rw [<- k1,gM]; exact k2
  refine aB (DY.mk M d Q) ?_;repeat' (first|exact k5|exact k3|exact k4|apply aA|exact trivial|exact rfl|exact fun i=>nB (by exact rfl) (M i)|fail)
end T26
end
section
open Go Go.Eng Go.Proofs T1 T2 T3 T4 T5 T6 T10 T11
set_option maxRecDepth 100000
namespace T27
def zF:List Ky:=[([97,98,99],[115,49]),([97,98],[115,50]),([97,98],[115,49])]
def ksH (i:Nat) (l:List Ky):Nat×aT:=(i,.arr 32 2 l.length fun j=>Ep (l.getD j k0))
def g34:List Nat:=[0]
def c34:bH :=
 .seq (.region g34 [(zo 0 (.move (.c (.nilsl))))]) (.seq (.region g34 [(zo 1 (.build (.cons (.str []) (.cons (.str []) .nil)) [(0,1,.c (.str [97,98,99])),(1,1,.c (.str [115,49]))])),(zo 2 (.build (.cons (.str []) (.cons (.str []) .nil)) [(0,1,.c (.str [97,98])),(1,1,.c (.str [115,50]))])),(zo 3 (.build (.cons (.str []) (.cons (.str []) .nil)) [(0,1,.c (.str [97,98])),(1,1,.c (.str [115,49]))])),(zo 4 (.buildSl 32 2 3 (.cons (.str []) (.cons (.str []) .nil)) [(0,2,.s 1),(2,2,.s 2),(4,2,.s 3)])),(mv 0 4)]) .ret)
theorem e34:cR Tryz.prog 34 g34 [] [] []=some (c34,[.slot 0],5):=by kernel_rfl
def Wr:bU where
 X:=Unit
 Y:=Unit
 args:=fun _=>.nil
 pre:=fun _=>True
 h0:=fun _=>[]
 nx0:=0
 post:=fun _ _=>True
 res:=fun _ _=>.lsl 0 2 3
 h1:=fun _ _=>[ksH 0 zF]
 nx1:=1
theorem Vh:Wr.Ok Tryz.prog 34:=by
 refine Eng.bU.okR e34 .nil (fun _=>[(2097152,.own)]) (fun _ _=>aZ.o aZ.nil) ?_;rintro ⟨⟩ _;refine ⟨trivial,?_⟩;refine aB () ?_;repeat' (first|apply aA|exact trivial|exact rfl|(refine fun (j:Nat) (hj:j < 3)=>?_; rcases (by omega:j=0\/j=1\/j=2) with rfl|rfl|rfl; exact Or.inl (gJ _ _ _ ([97,98,99],[115,49])); exact Or.inl (gJ _ _ _ ([97,98],[115,50])); exact Or.inl (gJ _ _ _ ([97,98],[115,49])))|fail)
end T27
end
section
open Go Go.Eng
set_option maxRecDepth 100000
namespace A0
def lc {α:Type} (enc:α->SV) (d:α) (l:List α) (i:Nat):SV:=enc (l.getD i d)
section
variable {α:Type} {enc:α->SV} {d:α} {k:Keep} {hp:List (Nat×aT)} {m:Nat}
theorem dC (h:∀ a,sub k hp m (enc a) (enc a)) {l:List α} {n:Nat}:∀ j,j < n->oP k (sub k hp m) (lc enc d l j) (lc enc d l j):=fun _ _=>Or.inl (h _)
theorem Vo (h:∀ a,sub k hp m (enc a) (enc a)) {l:List α} {x:α} {e:Nat->SV} (he:e 0=enc x) {n:Nat} (hn:n=l.length+1):∀ j,j < n->oP k (sub k hp m) (kO l.length (lc enc d l) e j) (lc enc d (l++[x]) j):=by
 intro j hj;subst hn;have e:kO l.length (lc enc d l) e j=lc enc d (l++[x]) j:=by
  unfold kO lc;rw [aE,aE];by_cases e:j < l.length
  ·have hb:Nat.blt j l.length=true:=by rw [lC]; exact e
   rw [hb,cond_true,aU e]
  ·have hb:Nat.blt j l.length=false:=by
    cases h:Nat.blt j l.length with
    | false=>rfl
    | true=>exact absurd (by rw [lC] at h; exact h) e
   have hj':j=l.length:=by omega
   subst hj';rw [hb,cond_false,eM,he];simp
 rw [e];exact Or.inl (h _)
theorem Uw {l:List α} {x:α}:l.length+1=(l++[x]).length:=by simp
end
theorem J8 {V:Type} {l:List (cC×V×Nat)} (hn:(l.map (·.2.2)).Nodup) {a b:cC×V×Nat} (ha:a∈l) (hb:b∈l) (e:a.2.2=b.2.2):a=b:=by
 induction l with
 | nil=>cases ha
 | cons z t ih =>
  simp only [bL,dX] at hn;rcases aI.1 ha with a1|a1
  ·rcases aI.1 hb with b1|b1
   ·rw [a1,b1]
   ·subst a1; exact (hn.1 (bF.2 ⟨b,b1,e.symm⟩)).elim
  ·rcases aI.1 hb with b1|b1
   ·subst b1; exact (hn.1 (bF.2 ⟨a,a1,e⟩)).elim
   ·exact ih hn.2 a1 b1
def left {V:Type} (il:List (cC×V×Nat)) (seen:List Nat):Nat:=(il.filter fun y=>!eE seen y.2.2).length
theorem Oh {V:Type} {il:List (cC×V×Nat)} {seen:List Nat} {y:cC×V×Nat} (hy:y∈il) (hs:y.2.2 ∉ seen):left il (seen++[y.2.2]) < left il seen:=by
 unfold left;have hm:∀ z:cC×V×Nat,eE (seen++[y.2.2]) z.2.2=(eE seen z.2.2 || decide (z.2.2=y.2.2)):=by
  intro z;rw [cA,fW,iD,iD,decide_eq_true_eq,bM,dH]
 have hsub:(il.filter fun z=>!eE (seen++[y.2.2]) z.2.2)=(il.filter fun z=>!eE seen z.2.2).filter fun z=>!decide (z.2.2=y.2.2):=by
  rw [List.filter_filter];congr 1;funext z;rw [hm z];cases eE seen z.2.2 <;> cases decide (z.2.2=y.2.2) <;> rfl
 rw [hsub];have hyl:y∈il.filter fun z=>!eE seen z.2.2:=by
  refine dI.2 ⟨hy,?_⟩;cases h:eE seen y.2.2 with
  | true=>exact absurd (iD.1 h) hs
  | false=>rfl
 refine lF (List.length_filter_le _ _) fun e=>?_;have:=List.length_filter_eq_length_iff.1 e y hyl;simp at this
end A0
end
section
open Go Go.Eng Go.Proofs A0 T1 T2 T3 T4 T5 T6
set_option maxRecDepth 100000
namespace T28
def bE (n:Int):SV:=.cons (.int .u8 n) .nil
theorem dV (k:Keep) (hp:List (Nat×aT)) (m:Nat) (n:Int):sub k hp (m+3) (bE n) (bE n):=⟨⟨rfl,rfl⟩,trivial⟩
abbrev IL:=List (cC×Nat×Nat)
def Yu:cC->Int
 | .i _ n=>n
 | _=>0
def mN (l:IL):List Int:=l.map fun x=>Yu x.1
def FSn (l:IL) (seen:List Nat) (L:List Int):Prop:=L.Perm (mN (l.filter fun x=>eE seen x.2.2))/\∀ t∈seen,∃ x∈l,x.2.2=t
theorem Qt (l:IL):FSn l [] []:=by
 refine ⟨?_,fun t h=>by cases h⟩;have:(l.filter fun x=>eE [] x.2.2)=[]:=List.filter_eq_nil_iff.2 fun x _=>by simp [eE]
 rw [this];exact List.Perm.refl _
theorem Yc {l:IL} {seen:List Nat} {L:List Int} (h:FSn l seen L):L.length<=l.length:=by
 rw [h.1.length_eq];unfold mN;rw [cO];exact List.length_filter_le _ _
theorem Ug {l:IL} (hn:(l.map (·.2.2)).Nodup) {seen:List Nat} {L:List Int} (h:FSn l seen L) {k:IntKind} {s:Int} {b t:Nat} (hy:(cC.i k s,b,t)∈l) (hs:t ∉ seen):FSn l (seen++[t]) (L++[s]):=by
 refine ⟨?_,fun u hu=>?_⟩
 ·have key:∀ {l:IL},(l.map (·.2.2)).Nodup->(cC.i k s,b,t)∈l->(mN (l.filter fun x=>eE (seen++[t]) x.2.2)).Perm (s::mN (l.filter fun x=>eE seen x.2.2)):=by
   intro l;induction l with
   | nil=>intro _ h; cases h
   | cons x r ih =>
    intro hn hm;simp only [bL,dX] at hn;have hmem:∀ z:Nat,eE (seen++[t]) z=(eE seen z || decide (z=t)):=by
     intro z;rw [cA,fW,iD,iD,decide_eq_true_eq,bM,dH]
    have hst:eE seen t=false:=by
     cases h:eE seen t with
     | true=>exact absurd (iD.1 h) hs
     | false=>rfl
    rcases aI.1 hm with e|e
    ·subst e;have hr:(r.filter fun x=>eE (seen++[t]) x.2.2)=r.filter fun x=>eE seen x.2.2:=by
      refine List.filter_congr fun z hz=>?_;rw [hmem];have:z.2.2≠t:=fun e=>hn.1 (bF.2 ⟨z,hz,e⟩);simp [this]
     rw [jB (by simp [hmem]),jA (by simp [hst]),hr];exact List.Perm.refl _
    ·have hxt:x.2.2≠t:=fun e'=>hn.1 (bF.2 ⟨_,e,e'.symm⟩);cases hx:eE seen x.2.2 with
     | true =>
      rw [jB (by simp [hmem,hx]),jB (by simp [hx])];exact ((ih hn.2 e).cons (Yu x.1)).trans (List.Perm.swap _ _ _)
     | false =>
      rw [jA (by simp [hmem,hx,hxt]),jA (by simp [hx])];exact ih hn.2 e
  refine List.Perm.trans ?_ (key hn hy).symm;exact (List.perm_append_comm (l₁:=L) (l₂:=[s])).trans (h.1.cons s)
 ·rcases bM.1 hu with hu|hu
  ·exact h.2 u hu
  ·exact ⟨_,hy,(dH.1 hu).symm⟩
theorem Uf {l:IL} {seen:List Nat} {L:List Int} (h:FSn l seen L) (hall:∀ x∈l,x.2.2∈seen):L.Perm (mN l):=by
 have:(l.filter fun x=>eE seen x.2.2)=l:=List.filter_eq_self.2 fun x hx=>iD.2 (hall x hx);rw [<- this];exact h.1
theorem Zy {l:IL} (hk:∀ x∈l,x.1.kind=.i .u8) {seen:List Nat} {Q:cC×Nat×Nat->Prop} (h:∀ (s:Int) (b t:Nat),(cC.i .u8 s,b,t)∈l->t ∉ seen->Q (cC.i .u8 s,b,t)):∀ y∈l,y.2.2 ∉ seen->Q y:=by
 rintro ⟨ky,b,t⟩ hy hs;have hks:ky.kind=.i .u8:=hk _ hy;cases ky with
 | i k n=>cases hks; exact h n b t hy hs
 | s _=>cases hks
 | a _ _=>cases hks
 | t _=>cases hks
structure KX where
 N:Nat->NO
 m:Nat
 l:IL
 q:Nat
structure KOk (x:KX):Prop where
 at_:x.N x.m=.map x.l x.q
 tk:Tk x.l x.q
 kd:∀ y∈x.l,y.1.kind=.i .u8
 ln:x.l.length<=20000
def clo (m:Nat):SV:=.fn 124 (.cons (.cptr (.cons (.fmref 0 m) .nil)) .nil)
def g100:List Nat:=[0,1,2]
def c100:bH :=
 .seq (.region g100 [(zo 1 (.box 68 (.s 0))),(zo 2 (.move (.c (.nilfn))))]) (.seq (.region g100 [(zo 3 (.mkfn 124 [.s 1])),(mv 2 3)]) .ret)
theorem e100:cR Tryz.prog 100 g100 [] [] []=some (c100,[.slot 2],4):=by kernel_rfl
def Rr:bU where
 X:=KX
 Y:=Unit
 args:=fun x=>.cons (.fmref 0 x.m) .nil
 pre:=fun _=>True
 h0:=fun x=>[(0,.fam fun q=>noO 0 (x.N q))]
 nx0:=1
 post:=fun _ _=>True
 res:=fun x _=>clo x.m
 h1:=fun x _=>[(0,.fam fun q=>noO 0 (x.N q))]
 nx1:=1
theorem Rs:Rr.Ok Tryz.prog 100:=by
 refine Eng.bU.okR e100 .nil (fun _=>[]) (fun _ _=>aZ.nil) ?_;rintro ⟨N,m,l,q⟩ _;refine ⟨trivial,?_⟩;refine aB () ?_;repeat' (first|apply aA|exact trivial|exact rfl|exact zm N rfl|fail)
def g124:List Nat:=[1,7,5,0,3,13]
def c124:bH :=
 .seq (.region g124 [(ld 4 1),(zo 5 (.mrange (.s 4)))]) (.block 0 (.loop 0 [6,7,8,9,3,10,11,12,13] (.seq (.region g124 [(zo 6 (.mnext (.s 5))),(zo 7 (.extract 0 (.s 6)))]) (.seq (.cond (.s 7) .skip (.exit 0)) (.block 1 (.seq (.region g124 [(zo 8 (.mentry (.s 5))),(zo 9 (.extract 0 (.s 8))),(mv 3 9)]) (.seq (.region g124 [(mv 10 0),(mv 11 3),(zo 12 (.call (.s 10) [.s 11])),(zo 13 (.not (.s 12)))]) (.cond (.s 13) .ret .skip))))))))
theorem e124:cR Tryz.prog 124 g124 [] [] []=some (c124,[],14):=by kernel_rfl
def g142:List Nat:=[0,1,6,7,5,2,4]
def c142:bH :=
 .seq (.region g142 [(zo 2 (.box 87 (.s 0))),(zo 4 (.move (.c (.nilsl))))]) (.seq (.seq (.region g142 [(mv 6 1)]) (.block 0 (.range 0 (.s 6) 124 (c124) 14 [7] (.region g142 [(mv 5 7)]) (.block 1 (.region g142 [(ld 8 2),(mv 9 5),(zo 10 (.buildSl 5 1 1 (.cons (.int (.u8) 0) .nil) [(0,1,.s 9)])),(zo 11 (.app 5 1 1 (.s 8) (.s 10))),⟨none,none,.store 1 (.s 2) (.s 11),[]⟩]))))) (.seq (.region g142 [(ld 12 2),(mv 4 12)]) .ret))
def r142:List mD:=[.slot 4]
def k142:List (Nat×Nat×bH×Nat):=[(0,124,c124,14)]
theorem e142:cR Tryz.prog 142 g142 [] [] k142=some (c142,r142,13):=by kernel_rfl
theorem q142:lP Tryz.prog k142:=lP.cons (lP.nil) .nil e124
def Z0:bU where
 X:=KX
 Y:=List Int
 args:=fun x=>.cons .nilsl (.cons (clo x.m) .nil)
 pre:=KOk
 h0:=fun x=>[(0,.fam fun q=>noO 0 (x.N q))]
 nx0:=1
 post:=fun x y=>y.Perm (mN x.l)
 res:=fun _ y=>.lsl 1 1 y.length
 h1:=fun x y=>[(0,.fam fun q=>noO 0 (x.N q)),(1,.arr 5 1 y.length (lc bE 0 y))]
 nx1:=2
structure XS where
 seen:List Nat
 L:List Int
theorem Xd:Z0.Ok Tryz.prog 142:=by
 refine Eng.bU.okR e142 q142 (fun _=>[]) (fun _ _=>aZ.nil) ?_;rintro ⟨N,m,l,q⟩ ⟨(hat:N m=.map l q),(htk:Tk l q),(hkd:∀ y∈l,y.1.kind=.i .u8),(hln:l.length<=20000)⟩;refine ⟨trivial,?_⟩;repeat' (first|apply aA|exact trivial)
 refine aB (noO 0 (.map l q)) (aA (congrArg (noO 0) hat) ?_);refine ⟨⟨XS,fun x=>FSn l x.seen x.L,fun _=>[(5,.own 60 0)],fun x=>[(60,.iter (.fmref 0 m) q x.seen q),(1,.cells 87 (.cons (.lsl 40 1 x.L.length) .nil)),(40,.arr 5 1 x.L.length (lc bE 0 x.L))],fun x=>left l x.seen⟩,⟨[],[]⟩,Qt l,?_,?_⟩
 ·repeat' (first|apply aA|exact trivial|exact rfl|exact zm N rfl|fail)
 rintro ⟨seen,L⟩ hF;replace hF:FSn l seen L:=hF;have hlen:=Yc hF;refine aB (noO 0 (.map l q)) (aA (congrArg (noO 0) hat) ?_);repeat' (first|refine aA ?_ ?_)
 ·exact htk.1
 ·exact aL _
 ·refine Zy hkd (fun (s:Int) (b t:Nat) hy hns=>?_);have hF2:=Ug htk.2 hF hy hns;repeat' (first|apply aA|exact zh|refine zt ?_|fail)
  refine aB (noO 0 (.map l q)) (aA (congrArg (noO 0) hat) ?_);refine aA rfl (aB _ (aA hy (aA (fun z hz hzt=>J8 htk.2 hz hy hzt) (aA ⟨_,rfl⟩ ?_))));repeat' (first|apply aA|exact rfl|exact zf|refine zt ?_|fail)
  ·show L.length+1<=9223372036854775807;omega
  ·show (L.length+1) * 1<=140737488355328;omega
  refine aB (XS.mk (seen++[t]) (L++[s])) (aA hF2 (aA ?_ ?_))
  ·repeat' (first|apply aA|exact trivial|exact rfl|exact zm N rfl|exact Uw|exact Vo (fun a=>dV _ _ _ a) rfl rfl|fail)
  ·exact Oh hy hns
 ·intro hall;repeat' (first|apply aA|exact zf|refine zt ?_|fail)
  refine aB L (aA (Uf hF hall) ?_);repeat' (first|apply aA|exact trivial|exact rfl|exact zm N rfl|exact dC (fun a=>dV _ _ _ a)|fail)
def g122:List Nat:=[0,2]
def c122:bH :=
 .seq (.region g122 [(zo 2 (.move (.c (.nilsl))))]) (.seq (.region g122 [(mv 3 0),(zo 4 (.call (.c (.fn 142)) [.c (.nilsl),.s 3])),(mv 2 4)]) .ret)
theorem e122:cR Tryz.prog 122 g122 [] [] []=some (c122,[.slot 2],5):=by kernel_rfl
def V1:bU where
 X:=KX
 Y:=List Int
 args:=fun x=>.cons (clo x.m) .nil
 pre:=KOk
 h0:=fun x=>[(0,.fam fun q=>noO 0 (x.N q))]
 nx0:=1
 post:=fun x y=>y.Perm (mN x.l)
 res:=fun _ y=>.lsl 1 1 y.length
 h1:=fun x y=>[(0,.fam fun q=>noO 0 (x.N q)),(1,.arr 5 1 y.length (lc bE 0 y))]
 nx1:=2
theorem Tu:V1.Ok Tryz.prog 122:=by
 refine Eng.bU.okR e122 .nil (fun _=>[(142,.m Z0)]) (fun _ _=>aZ.m Xd aZ.nil) ?_;rintro ⟨N,m,l,q⟩ (h:KOk ⟨N,m,l,q⟩);refine ⟨trivial,?_⟩;refine aB ⟨N,m,l,q⟩ (aB [0] ?_);repeat' (first|exact h|apply aA|exact trivial|exact rfl|exact zm N rfl|fail)
 refine fun (y:List Int) (hy:y.Perm (mN l))=>?_;refine aB y (aA hy ?_);repeat' (first|apply aA|exact trivial|exact rfl|exact zr N rfl rfl|exact dC (fun a=>dV _ _ _ a)|fail)
end T28
end
section
open Go Go.Eng Go.Proofs A0 T1 T2 T3 T4 T5 T6 T28
set_option maxRecDepth 100000
namespace T29
def g181:List Nat:=[0,2]
def c181:bH :=
 .seq (.region g181 [(zo 2 (.move cF))]) (.seq (.region g181 [(mv 3 0),(mv 4 0),(zo 5 (.bin (.neq) (.s 3) (.s 4))),(mv 2 5)]) .ret)
theorem e181:cR Tryz.prog 181 g181 [] [] []=some (c181,[.slot 2],6):=by kernel_rfl
def J4:Eng.Spec where
 X:=Int
 args:=fun n=>.cons (.int .u8 n) .nil
 pre:=fun _=>True
 res:=fun _=>.bool false
 inst:=fun
  | .cons (.int _ n) _=>some n
  | _=>none
theorem Y4:J4.Ok Tryz.prog 181:=by
 refine Eng.Spec.okR e181 .nil (fun _=>[]) (fun _ _=>aZ.nil) ?_;rintro (n:Int) _;refine ⟨trivial,?_⟩
 ·show (!decide (n=n))=false;simp
def g167:List Nat:=[0,1,4]
def c167:bH :=
 .seq (.region g167 [(zo 4 (.move cF))]) (.seq (.region g167 [(mv 5 0),(zo 6 (.call (.c (.fn 181)) [.s 5])),(mv 7 6),(mg 8 7 true 1),(zg 9 7 true (.call (.c (.fn 181)) [.s 8])),(zg 10 7 true (.not (.s 9))),(zo 11 (.pick (.s 7) (.s 10) cF)),(mv 12 11),(mg 13 12 false 0),(mg 14 12 false 1),(zg 15 12 false (.bin (.lss) (.s 13) (.s 14))),(zo 16 (.pick (.s 12) cT (.s 15))),(mv 4 16)]) .ret)
theorem e167:cR Tryz.prog 167 g167 [] [] []=some (c167,[.slot 4],17):=by kernel_rfl
def wR:Eng.Spec where
 X:=Int×Int
 args:=fun x=>.cons (.int .u8 x.1) (.cons (.int .u8 x.2) .nil)
 pre:=fun _=>True
 res:=fun x=>.bool (decide (x.1 < x.2))
 inst:=fun
  | .cons (.int _ n) (.cons (.int _ m) _)=>some (n,m)
  | _=>none
theorem rS:wR.Ok Tryz.prog 167:=by
 refine Eng.Spec.okR e167 .nil (fun _=>[(181,.p J4)]) (fun _ _=>aZ.p Y4 aZ.nil) ?_;rintro ⟨a,b⟩ _;refine ⟨trivial,?_⟩;repeat' (first|apply aA|exact trivial|exact rfl|exact zf|fail)
def g146:List Nat:=[4,8,14,0,2]
def c146:bH :=
 .seq (.region g146 [(zo 2 (.move (cj 0)))]) (.seq (.seq (.region g146 [(mv 3 0),(zo 4 (.bin (.geq) (.s 3) (.c (.int (.u64) 4294967296))))]) (.cond (.s 4) (.seq (.region g146 [(mv 5 0),(zo 6 (.bin (.shr) (.s 5) (.c (.int (.u64) 32)))),(mv 0 6)]) (.region g146 [(zo 2 (.move (cj 32)))])) .skip)) (.seq (.seq (.region g146 [(mv 7 0),(zo 8 (.bin (.geq) (.s 7) (.c (.int (.u64) 65536))))]) (.cond (.s 8) (.seq (.region g146 [(mv 9 0),(zo 10 (.bin (.shr) (.s 9) (.c (.int (.u64) 16)))),(mv 0 10)]) (.region g146 [(mv 11 2),(zo 12 (.bin (.add) (.s 11) (cj 16))),(mv 2 12)])) .skip)) (.seq (.seq (.region g146 [(mv 13 0),(zo 14 (.bin (.geq) (.s 13) (.c (.int (.u64) 256))))]) (.cond (.s 14) (.seq (.region g146 [(mv 15 0),(zo 16 (.bin (.shr) (.s 15) (.c (.int (.u64) 8)))),(mv 0 16)]) (.region g146 [(mv 17 2),(zo 18 (.bin (.add) (.s 17) (cj 8))),(mv 2 18)])) .skip)) (.seq (.region g146 [(mv 19 2),(mv 20 0),(zo 21 (.cnv (.u8) (.s 20))),(zo 22 (.idxStr (.c (.str [0,1,2,2,3,3,3,3,4,4,4,4,4,4,4,4,5,5,5,5,5,5,5,5,5,5,5,5,5,5,5,5,6,6,6,6,6,6,6,6,6,6,6,6,6,6,6,6,6,6,6,6,6,6,6,6,6,6,6,6,6,6,6,6,7,7,7,7,7,7,7,7,7,7,7,7,7,7,7,7,7,7,7,7,7,7,7,7,7,7,7,7,7,7,7,7,7,7,7,7,7,7,7,7,7,7,7,7,7,7,7,7,7,7,7,7,7,7,7,7,7,7,7,7,7,7,7,7,8,8,8,8,8,8,8,8,8,8,8,8,8,8,8,8,8,8,8,8,8,8,8,8,8,8,8,8,8,8,8,8,8,8,8,8,8,8,8,8,8,8,8,8,8,8,8,8,8,8,8,8,8,8,8,8,8,8,8,8,8,8,8,8,8,8,8,8,8,8,8,8,8,8,8,8,8,8,8,8,8,8,8,8,8,8,8,8,8,8,8,8,8,8,8,8,8,8,8,8,8,8,8,8,8,8,8,8,8,8,8,8,8,8,8,8,8,8,8,8,8,8,8,8,8,8,8,8])) (.s 21))),(zo 23 (.cnv .i64 (.s 22))),(zo 24 (.bin (.add) (.s 19) (.s 23))),(mv 2 24)]) .ret))))
def r146:List mD:=[.slot 2]
def k146:List (Nat×Nat×bH×Nat):=[]
theorem e146:cR Tryz.prog 146 g146 [] [] k146=some (c146,r146,25):=by kernel_rfl
theorem q146:lP Tryz.prog k146:=lP.nil
def g144:List Nat:=[0,2]
def c144:bH :=
 .seq (.region g144 [(zo 2 (.move (cj 0)))]) (.seq (.cond cF (.seq (.region g144 [(mv 3 0),(zo 4 (.cnv (.u32) (.s 3))),(zo 5 (.call (.c (.fn 170)) [.s 4])),(mv 2 5)]) .ret) .skip) (.seq (.region g144 [(mv 6 0),(zo 7 (.call (.c (.fn 146)) [.s 6])),(mv 2 7)]) .ret))
def r144:List mD:=[.slot 2]
def k144:List (Nat×Nat×bH×Nat):=[]
theorem e144:cR Tryz.prog 144 g144 [] [] k144=some (c144,r144,8):=by kernel_rfl
theorem q144:lP Tryz.prog k144:=lP.nil
def Srd (L:List Int) (i:Nat):Prop:=∀ a b,a < b->b < i->L.getD a 0<=L.getD b 0
theorem ext0 {T:Tb} {g:Option (Nat×Bool)} {fr:List (Nat×SV)} {r:List (Nat×aT)} {tyq sz n nx:Nat} {enc enc':Nat->SV} {K:SV->St->Prop} {o:SOp} (he:∀ j,enc j=enc' j) (h:Eng.evE T g ⟨fr,(0,.arr tyq sz n enc')::r,nx⟩ K o):Eng.evE T g ⟨fr,(0,.arr tyq sz n enc)::r,nx⟩ K o:=by
 rw [show enc=enc' from funext he]; exact h
theorem P0 {α:Type} (a b:Nat) (x y:α):(bif Nat.beq a b then x else y)=if a=b then x else y:=by
 by_cases h:a=b
 ·subst h; simp
 ·have:Nat.beq a b=false:=by
   cases hb:Nat.beq a b with
   | false=>rfl
   | true=>exact absurd (cQ hb) h
  simp [this,h]
def g143:List Nat:=[23,29,35,50,12,68,72,87,13,11,15,9,10,113,16,1,17,18,8,0,3,14,2]
def c143:bH :=
 .seq (.region g143 [(zo 8 (.move cT))]) (.seq (.region g143 [(zo 9 (.move cT))]) (.block 0 (.loop 0 [19,20,21,10,22,23,24,25,26,27,28,29,30,31,32,33,34,35,36,37,38,39,40,41,3,43,44,45,46,42,47,48,49,50,51,52,53,54,55,56,57,58,59,60,11,12,61,62,63,64,65,66,67,68,69,70,71,72,73,74,75,76,77,78,79,80,81,82,83,84,85,86,87,88,89,90,91,92,13,93,95,96,97,98,99,94,100,101,14,15,102,9,103,104,105,106,107,108,16,17,109,110,18,111,112,113,114,115,116,117,118,119,120,121,122,123,1,124,125,126,8,127,128,129,130,131,132,133,2] (.block 1 (.seq (.region g143 [(mv 19 2),(mv 20 1),(zo 21 (.bin (.sub) (.s 19) (.s 20))),(mv 10 21)]) (.seq (.seq (.region g143 [(mv 22 10),(zo 23 (.bin (.leq) (.s 22) (cj 12)))]) (.cond (.s 23) (.seq (.region g143 [(mv 24 0),(mv 25 1),(mv 26 2),(zo 27 (.call (.c (.fn 161)) [.s 24,.s 25,.s 26]))]) .ret) .skip)) (.seq (.seq (.region g143 [(mv 28 3),(zo 29 (.bin (.eql) (.s 28) (cj 0)))]) (.cond (.s 29) (.seq (.region g143 [(mv 30 0),(mv 31 1),(mv 32 2),(zo 33 (.call (.c (.fn 162)) [.s 30,.s 31,.s 32]))]) .ret) .skip)) (.seq (.seq (.region g143 [(mv 34 8),(zo 35 (.not (.s 34)))]) (.cond (.s 35) (.seq (.region g143 [(mv 36 0),(mv 37 1),(mv 38 2),(zo 39 (.call (.c (.fn 163)) [.s 36,.s 37,.s 38]))]) (.region g143 [(mv 40 3),(zo 41 (.bin (.sub) (.s 40) (cj 1))),(mv 3 41)])) .skip)) (.seq (.region g143 [(mv 43 0),(mv 44 1),(mv 45 2),(zo 46 (.call (.c (.fn 164)) [.s 43,.s 44,.s 45])),(mv 42 46),(zo 47 (.extract 0 (.s 42))),(zo 48 (.extract 1 (.s 42))),(mv 11 47),(mv 12 48)]) (.seq (.seq (.region g143 [(mv 49 12),(zo 50 (.bin (.eql) (.s 49) (cj 2)))]) (.cond (.s 50) (.seq (.region g143 [(mv 51 0),(mv 52 1),(mv 53 2),(zo 54 (.call (.c (.fn 165)) [.s 51,.s 52,.s 53]))]) (.seq (.region g143 [(mv 55 2),(zo 56 (.bin (.sub) (.s 55) (cj 1))),(mv 57 11),(mv 58 1),(zo 59 (.bin (.sub) (.s 57) (.s 58))),(zo 60 (.bin (.sub) (.s 56) (.s 59))),(mv 11 60)]) (.region g143 [(zo 12 (.move (cj 1)))]))) .skip)) (.seq (.seq (.region g143 [(mv 61 8),(mv 62 61),(mg 63 62 true 9),(zo 64 (.pick (.s 62) (.s 63) cF)),(mv 65 64),(mg 66 65 true 12),(zg 67 65 true (.bin (.eql) (.s 66) (cj 1))),(zo 68 (.pick (.s 65) (.s 67) cF))]) (.cond (.s 68) (.seq (.region g143 [(mv 69 0),(mv 70 1),(mv 71 2),(zo 72 (.call (.c (.fn 166)) [.s 69,.s 70,.s 71]))]) (.cond (.s 72) .ret .skip)) .skip)) (.seq (.seq (.drawn g143 (.pure 0 (mv 73 1) (.pure 1 (zo 74 (.bin (.gtr) (.s 73) (cj 0))) (.pure 2 (mv 75 74) (.pure 3 (mg 76 75 true 0) (.pure 4 (mg 77 75 true 1) (.pure 5 (zg 78 75 true (.bin (.sub) (.s 77) (cj 1))) (.pure 6 (zg 79 75 true (.idxSl 1 (.s 76) (.s 78))) (.pure 7 (lg 80 75 true 79) (.pure 8 (mg 81 75 true 0) (.pure 9 (mg 82 75 true 11) (.pure 10 (zg 83 75 true (.idxSl 1 (.s 81) (.s 82))) (.pure 11 (lg 84 75 true 83) (.pure 12 (zg 85 75 true (.call (.c (.fn 167)) [.s 80,.s 84])) (.pure 13 (zg 86 75 true (.not (.s 85))) (.pure 14 (zo 87 (.pick (.s 75) (.s 86) cF)) .done)))))))))))))))) (.cond (.s 87) (.seq (.region g143 [(mv 88 0),(mv 89 1),(mv 90 2),(mv 91 11),(zo 92 (.call (.c (.fn 168)) [.s 88,.s 89,.s 90,.s 91])),(mv 13 92)]) (.seq (.region g143 [(mv 93 13),(mv 1 93)]) (.exit 1))) .skip)) (.seq (.region g143 [(mv 95 0),(mv 96 1),(mv 97 2),(mv 98 11),(zo 99 (.call (.c (.fn 169)) [.s 95,.s 96,.s 97,.s 98])),(mv 94 99),(zo 100 (.extract 0 (.s 94))),(zo 101 (.extract 1 (.s 94))),(mv 14 100),(mv 15 101)]) (.seq (.region g143 [(mv 102 15),(mv 9 102)]) (.seq (.region g143 [(mv 103 14),(mv 104 1),(zo 105 (.bin (.sub) (.s 103) (.s 104))),(mv 106 2),(mv 107 14),(zo 108 (.bin (.sub) (.s 106) (.s 107))),(mv 16 105),(mv 17 108)]) (.seq (.region g143 [(mv 109 10),(zo 110 (.bin (.quo) (.s 109) (cj 8))),(mv 18 110)]) (.seq (.region g143 [(mv 111 16),(mv 112 17),(zo 113 (.bin (.lss) (.s 111) (.s 112)))]) (.cond (.s 113) (.seq (.region g143 [(mv 114 16),(mv 115 18),(zo 116 (.bin (.geq) (.s 114) (.s 115))),(mv 8 116)]) (.seq (.region g143 [(mv 117 0),(mv 118 1),(mv 119 14),(mv 120 3),(zo 121 (.call (.c (.fn 143)) [.s 117,.s 118,.s 119,.s 120]))]) (.region g143 [(mv 122 14),(zo 123 (.bin (.add) (.s 122) (cj 1))),(mv 1 123)]))) (.seq (.region g143 [(mv 124 17),(mv 125 18),(zo 126 (.bin (.geq) (.s 124) (.s 125))),(mv 8 126)]) (.seq (.region g143 [(mv 127 0),(mv 128 14),(zo 129 (.bin (.add) (.s 128) (cj 1))),(mv 130 2),(mv 131 3),(zo 132 (.call (.c (.fn 143)) [.s 127,.s 129,.s 130,.s 131]))]) (.region g143 [(mv 133 14),(mv 2 133)])))))))))))))))))))))
def r143:List mD:=[]
def k143:List (Nat×Nat×bH×Nat):=[]
theorem e143:cR Tryz.prog 143 g143 [] [] k143=some (c143,r143,134):=by kernel_rfl
theorem q143:lP Tryz.prog k143:=lP.nil
def g123:List Nat:=[0,2]
def c123:bH :=
 .seq (.region g123 [(mv 3 0),(zo 4 (.lenSl (.s 3))),(mv 2 4)]) (.region g123 [(mv 5 0),(mv 6 2),(mv 7 2),(zo 8 (.cnv (.u64) (.s 7))),(zo 9 (.call (.c (.fn 144)) [.s 8])),(zo 10 (.call (.c (.fn 143)) [.s 5,cj 0,.s 6,.s 9]))])
def r123:List mD:=[]
def k123:List (Nat×Nat×bH×Nat):=[]
theorem e123:cR Tryz.prog 123 g123 [] [] k123=some (c123,r123,11):=by kernel_rfl
theorem q123:lP Tryz.prog k123:=lP.nil
def g99:List Nat:=[0,3,2]
def c99:bH :=
 .seq (.region g99 [(zo 2 (.move (.c (.nilsl))))]) (.seq (.region g99 [(mv 4 0),(zo 5 (.call (.c (.fn 122)) [.s 4])),(mv 3 5)]) (.seq (.region g99 [(mv 6 3),(zo 7 (.call (.c (.fn 123)) [.s 6]))]) (.seq (.region g99 [(mv 8 3),(mv 2 8)]) .ret)))
def r99:List mD:=[.slot 2]
def k99:List (Nat×Nat×bH×Nat):=[]
theorem e99:cR Tryz.prog 99 g99 [] [] k99=some (c99,r99,9):=by kernel_rfl
theorem q99:lP Tryz.prog k99:=lP.nil
end T29
end
section
open Go Go.Eng Go.Proofs A0 T1 T28 T29
set_option maxRecDepth 100000
namespace T50
structure PR (a b:Nat) (L M:List Int):Prop where
 perm:M.Perm L
 out:∀ i,¬ (a<=i/\i < b)->M.getD i 0=L.getD i 0
theorem PR.refl (a b:Nat) (L:List Int):PR a b L L:=⟨.refl _,fun _ _=>rfl⟩
theorem PR.trans {a b:Nat} {L M N:List Int} (h:PR a b L M) (k:PR a b M N):PR a b L N:=⟨k.perm.trans h.perm,fun i hi=>(k.out i hi).trans (h.out i hi)⟩
theorem PR.mono {a b a' b':Nat} {L M:List Int} (h:PR a b L M) (ha:a'<=a) (hb:b<=b'):PR a' b' L M:=⟨h.perm,fun i hi=>h.out i fun k=>hi ⟨by omega,by omega⟩⟩
theorem PR.len {a b:Nat} {L M:List Int} (h:PR a b L M):M.length=L.length:=h.perm.length_eq
def xch (L:List Int) (i j:Nat):List Int:=(L.set i (L.getD j 0)).set j (L.getD i 0)
theorem uF {L:List Int} {i j p:Nat} (hi:i < L.length) (hj:j < L.length):(xch L i j).getD p 0=if p=j then L.getD i 0 else if p=i then L.getD j 0 else L.getD p 0:=by
 simp only [xch,aE,gD,kW];by_cases e1:p=j
 ·subst e1;simp only [if_true,hj];rfl
 ·by_cases e2:p=i
  ·subst e2;simp only [if_neg (dY e1),if_neg e1,if_true,hi];rfl
  ·simp only [if_neg (dY e1),if_neg e1,if_neg (dY e2),if_neg e2]
theorem Td {L:List Int} {i j:Nat} (hi:i < L.length) (hj:j < L.length):(xch L i j).Perm L:=by
 rw [List.perm_iff_count];intro x;unfold xch;have e1:L.getD i 0=L[i]:=by rw [aE,aH hi]; rfl
 have e2:L.getD j 0=L[j]:=by rw [aE,aH hj]; rfl
 rw [List.count_set (by rw [kW]; exact hj),List.count_set hi,e1,e2,List.getElem_set];have h1:L[i]=x->0 < L.count x:=fun e=>List.count_pos_iff.2 (e ▸ dN hi);have h2:L[j]=x->0 < L.count x:=fun e=>List.count_pos_iff.2 (e ▸ dN hj);by_cases e:i=j
 ·subst e;rw [if_pos rfl];by_cases hx:L[i]=x
  ·have:=h1 hx;simp [hx];omega
  ·simp [hx]
 ·rw [if_neg e];by_cases hx:L[i]=x <;> by_cases hy:L[j]=x
  ·have:=h1 hx;simp [hx,hy];omega
  ·have:=h1 hx;simp [hx,hy];omega
  ·have:=h2 hy;simp [hx,hy]
  ·simp [hx,hy]
theorem PR.xch {a b i j:Nat} {L M:List Int} (h:PR a b L M) (hi:a<=i/\i < b) (hj:a<=j/\j < b) (hb:b<=M.length):PR a b L (xch M i j):=by
 refine ⟨(Td (by omega) (by omega)).trans h.perm,fun p hp=>?_⟩;rw [uF (by omega) (by omega),if_neg (fun e=>hp (by omega)),if_neg (fun e=>hp (by omega))];exact h.out p hp
theorem PR.all {a b:Nat} {L M:List Int} (h:PR a b L M) (hb:b<=L.length) {P:Int->Prop} (hp:∀ i,a<=i->i < b->P (L.getD i 0)):∀ i,a<=i->i < b->P (M.getD i 0):=by
 intro i hai hib;have hl:=h.len;have e1:∀ (N:List Int),N.length=L.length->N=N.take a++((N.drop a).take (b - a)++N.drop b):=fun N hN=>by
  have:N.drop b=(N.drop a).drop (b - a):=by rw [lK]; congr 1; omega
  rw [this,dQ,dQ]
 have ht:M.take a=L.take a:=by
  refine kB (by simp [hl]) fun n h1 h2=>?_;rw [eY,eY];have:=h.out n (by rw [cG] at h1; omega);rw [cG] at h1 h2
  rwa [aE,aE,aH (by omega),aH (by omega)] at this
 have hd:M.drop b=L.drop b:=by
  refine kB (by simp [hl]) fun n h1 h2=>?_;rw [gC,gC];rw [cN] at h1 h2;have:=h.out (b+n) (by omega)
  rwa [aE,aE,aH (by omega),aH (by omega)] at this
 have hq:((M.drop a).take (b - a)).Perm ((L.drop a).take (b - a)):=by
  have hp:=h.perm;rw [e1 M hl,e1 L rfl,ht,hd] at hp;exact (List.perm_append_right_iff _).1 ((List.perm_append_left_iff _).1 hp)
 have hm:M.getD i 0∈(M.drop a).take (b - a):=by
  rw [aE,aH (by omega:i < M.length)];refine List.mem_iff_getElem.2 ⟨i - a,by simp; omega,?_⟩;rw [eY,gC];simp only [bZ];congr 1;omega
 obtain ⟨n,hn,e⟩:=List.mem_iff_getElem.1 (hq.mem_iff.1 hm);rw [eY,gC] at e;rw [cG,cN] at hn;have h3:=hp (a+n) (by omega) (by omega);rw [aE,aH (by omega:a+n < L.length)] at h3;rw [<- e];exact h3
def SR (a b:Nat) (L:List Int):Prop:=∀ i j,a<=i->i < j->j < b->L.getD i 0 < L.getD j 0
def OR (n a b:Nat) (L:List Int):Prop:=∀ i j,i < j->j < n->(i < a\/b<=j)->L.getD i 0 < L.getD j 0
theorem OR.perm {n a b:Nat} {L M:List Int} (h:OR n a b L) (k:PR a b L M) (hb:b<=n) (hn:n<=L.length):OR n a b M:=by
 intro i j hij hj hc;by_cases hi:a<=i/\i < b
 ·have hbj:b<=j:=by omega
  rw [k.out j (by omega)];exact k.all (bC hb hn) (P:=fun x=>x < L.getD j 0) (fun p h1 h2=>h p j (by omega) hj (.inr hbj)) i hi.1 hi.2
 ·rw [k.out i hi];by_cases hj2:a<=j/\j < b
  ·exact k.all (bC hb hn) (P:=fun x=>L.getD i 0 < x) (fun p h1 h2=>h i p (by omega) (by omega) (.inl (by omega))) j hj2.1 hj2.2
  ·rw [k.out j hj2];exact h i j hij hj hc
theorem OR.done {n a b:Nat} {L:List Int} (h:OR n a b L) (k:SR a b L):SR 0 n L:=by
 intro i j _ hij hj;by_cases hc:i < a\/b<=j
 ·exact h i j hij hj hc
 ·exact k i j (by omega) hij (by omega)
structure Par (a b m:Nat) (L:List Int):Prop where
 lo:a<=m
 hi:m < b
 lt:∀ i,a<=i->i < m->L.getD i 0 < L.getD m 0
 gt:∀ i,m < i->i < b->L.getD m 0 < L.getD i 0
theorem Par.right {n a b m:Nat} {L M:List Int} (h:OR n a b L) (p:Par a b m L) (k:PR a m L M) (s:SR a m M) (hb:b<=n) (hn:n<=L.length):OR n (m+1) b M:=by
 have hm:=p.lo;have hm2:=p.hi;have hO:OR n a b M:=h.perm (k.mono (aL _) (Nat.le_of_lt hm2)) hb hn;have em:M.getD m 0=L.getD m 0:=k.out m (by omega);have hlt:∀ i,a<=i->i < m->M.getD i 0 < M.getD m 0:=by
  rw [em];exact k.all (by omega) (P:=fun x=>x < L.getD m 0) p.lt
 have hgt:∀ i,m < i->i < b->M.getD m 0 < M.getD i 0:=fun i h1 h2=>by rw [em,k.out i (by omega)]; exact p.gt i h1 h2
 intro i j hij hj hc;by_cases ho:i < a\/b<=j
 ·exact hO i j hij hj ho
 ·rcases hc with hc|hc
  ·by_cases hi:i=m
   ·subst hi; exact hgt j hij (by omega)
   ·by_cases hjm:j < m
    ·exact s i j (by omega) hij hjm
    ·by_cases hj2:j=m
     ·subst hj2; exact hlt i (by omega) (by omega)
     ·exact Int.lt_trans (hlt i (by omega) (by omega)) (hgt j (by omega) (by omega))
  ·exact absurd (.inr hc) ho
theorem Par.left {n a b m:Nat} {L M:List Int} (h:OR n a b L) (p:Par a b m L) (k:PR (m+1) b L M) (s:SR (m+1) b M) (hb:b<=n) (hn:n<=L.length):OR n a m M:=by
 have hm:=p.lo;have hm2:=p.hi;have hO:OR n a b M:=h.perm (k.mono (by omega) (aL _)) hb hn;have em:M.getD m 0=L.getD m 0:=k.out m (by omega);have hgt:∀ i,m+1<=i->i < b->M.getD m 0 < M.getD i 0:=by
  rw [em];exact k.all (by omega) (P:=fun x=>L.getD m 0 < x) fun i h1 h2=>p.gt i (by omega) h2
 have hlt:∀ i,a<=i->i < m->M.getD i 0 < M.getD m 0:=fun i h1 h2=>by rw [em,k.out i (by omega)]; exact p.lt i h1 h2
 intro i j hij hj hc;by_cases ho:i < a\/b<=j
 ·exact hO i j hij hj ho
 ·rcases hc with hc|hc
  ·exact absurd (.inl hc) ho
  ·by_cases hi:i=m
   ·subst hi; exact hgt j hij (by omega)
   ·by_cases him:m < i
    ·exact s i j (by omega) hij (by omega)
    ·by_cases hj2:j=m
     ·subst hj2; exact hlt i (by omega) (by omega)
     ·exact Int.lt_trans (hlt i (by omega) (by omega)) (hgt j (by omega) (by omega))
end T50
end
