/- A part of the proof. -/
import Derived.Test.YtpiolkcdfgiefaaGreatDoorV2
import Derived.Test.YtpiolkcdfgiefaaGreatDoorT4
import Derived.Shelf.Strings.IndexAnyAll
import Derived.Shelf.Small.Utf8
import Derived.Laws.Runes
import Derived.Shelf.RegionOpenPlain
import Derived.Deep.DeepBigQuietO
set_option maxHeartbeats 10000000
namespace Go.Proofs
open Go.Shelf Go.RowKit Go.Lib
variable {P:Program} {ρ:Ren}
def qn:ByteArray:=⟨#[34,10]⟩
set_option maxHeartbeats 4000000 in
set_option maxRecDepth 1000000 in
theorem Any.Bs(L:Lays.n153 P ρ)(w:World) :
  Calls P (ρ.f 152) #[.string qn,.int .i32 65533] w λe w'=>e=.returned (.int .i64 (-1))/\∃pos,w'=w.iter qn pos:=by
 have t3:=L.t3; have a3:=L.a3; have z3:=L.z3; have v3:=L.v3;have t4:=L.t4; have a4:=L.a4; have z4:=L.z4; have v4:=L.v4;have t5:=L.t5; have a5:=L.a5; have z5:=L.z5; have v5:=L.v5;have t9:=L.t9; have a9:=L.a9; have z9:=L.z9; have v9:=L.v9;have t21:=L.t21; have a21:=L.a21; have z21:=L.z21; have v21:=L.v21
 go_enter L.f152,Body.n152_ntmps ρ
 go_wp2
 go_loopg [5,6] 2 (λg _ _ wx=>∃i:Nat,i+g=2/\wx=w.iter qn i)
 case atStart=>simp
 case round =>
  obtain⟨i,hig,rfl⟩:=hrel;cases gk with
  |zero =>
   obtain rfl:i=2:=by omega
   have hnx:=λty=>run_next_end (P:=P) w qn 2 ty (by decide)
   go_wp2
   go_ret
   exact⟨rfl,_,rfl⟩
  |succ g =>
   obtain⟨x,hx,hx128⟩:∃x:UInt8,(∃hi:i<qn.size,qn[i]'hi=x)/\x.toNat<128:=by
    have:i=0\/i=1:=by omega
    rcases this with rfl|rfl
    .exact ⟨34,⟨by decide,rfl⟩,by decide⟩
    .exact ⟨10,⟨by decide,rfl⟩,by decide⟩
   obtain⟨hi,hx⟩:=hx;have hnx:=λty=>run_next_ascii (P:=P) w qn i ty hi (by rw[hx]; exact hx128);rw[hx]at hnx;clear hx
   go_wp2
   go_roundg g
   case measure=>omega
   grind
theorem aA6{r:Int}(h0:128<=r)(hv:Utf8.valid r=true):(∃a b:UInt8,Utf8.encode r=⟨#[a,b]⟩/\128<=b.toNat)\/(∃a b c:UInt8,Utf8.encode r=⟨#[a,b,c]⟩)\/(∃a b c d:UInt8,Utf8.encode r=⟨#[a,b,c,d]⟩):=by
 have hc:∀c:Nat,(UInt8.ofNat (0x80+c%64)).toNat=128+c%64:=by
  grind[UInt8.toNat_ofNat']
 have hn0:¬r.toNat<0x80:=by omega
 unfold Utf8.encode;simp only[hv,if_true,hn0,if_false];by_cases h2:r.toNat<2048
 .left;simp only[h2,if_true]
  grind
 .simp only [h2,if_false];right;by_cases h3:r.toNat<65536
  .simp [*]
  simp[*]
theorem xA(L:Lays.n153 P ρ){r:Int}{rs:ByteArray}(h:Utf8.encode r=rs)(w:World):(convert (ρ.t 21) (ρ.t 9) (.int .i32 r)).run P w=.ok (.string rs) w:=by
 rw[<- h];simp[convert,run_underlying L.t21,run_underlying L.t9,Conv.intToString]
set_option maxHeartbeats 400000 in
set_option maxRecDepth 1000000 in
theorem Any.Bt(L:Lays.n153 P ρ)(r:Int)(h0:128<=r)(h1:r<=1114111)(hn:¬r=65533)(hv:Lib.validRune r=true)(s rs:ByteArray)(hs:s.size=2)(hr:rs.size=2)
  (hcv:∀w,(convert (ρ.t 21) (ρ.t 9) (.int .i32 r)).run P w=.ok (.string rs) w) (x y:UInt8) (hx:s[1]'(by omega)=x) (hy:rs[1]'(by omega)=y) (hxy:¬(x.toNat:Int)=(y.toNat:Int)) (w:World) :
  Calls P (ρ.f 152) #[.string s,.int .i32 r] w λe w'=>e=.returned (.int .i64 (-1))/\∃n,w'=w.drewN n:=by
 have t3:=L.t3; have a3:=L.a3; have z3:=L.z3; have v3:=L.v3;have t4:=L.t4; have a4:=L.a4; have z4:=L.z4; have v4:=L.v4;have t5:=L.t5; have a5:=L.a5; have z5:=L.z5; have v5:=L.v5;have t9:=L.t9; have a9:=L.a9; have z9:=L.z9; have v9:=L.v9;have t21:=L.t21; have a21:=L.a21; have z21:=L.z21; have v21:=L.v21;have e119:∀args w,(callFunc (ρ.f 119) args).run P w=.ok (.enter (ρ.f 119) args) w:=enters_of L.f119 (by kernel_rfl) rfl;have c1:decide (r<128)=false:=decide_eq_false (by omega);have c2:(r == 65533)=false:=beq_eq_false_iff_ne.2 hn;have e137:∀args w,(callFunc (ρ.f 137) args).run P w=.ok (.enter (ρ.f 137) args) w:=enters_of L.f137 (by kernel_rfl) rfl;have hi1:∀w,(Instr.index (ρ.t 9) (.string s) (.int .i64 1)).run P w=.ok (.int .u8 x.toNat) w:=λw=>by
  simp_all[run_index_string,Int.toNat_one]
 have hi2:∀w,(Instr.index (ρ.t 9) (.string rs) (.int .i64 1)).run P w=.ok (.int .u8 y.toNat) w:=λw=>by
  simp_all[run_index_string,Int.toNat_one]
 have hxy1:((x.toNat:Int) == (y.toNat:Int))=false:=beq_eq_false_iff_ne.2 hxy;have hcall:∀(c:Int) (w:World),Calls P (ρ.f 137) #[.string ByteArray.empty,.int .u8 c] w λe w'=>e=.returned (.int .i64 (-1))/\w'=w:=by
  intro c w;refine(Any.strings_IndexByte { L with } _ _ _).mono ?_;rintro e w' ⟨rfl,hw⟩;exact⟨rfl,hw⟩
 clear hx hy
 go_enter L.f152,Body.n152_ntmps ρ
 go_wp2_with (go_at_fn (ρ.f 119); refine(Any.utf8_ValidRune { L with } _ _).mono ?_; rintro e w' ⟨rfl,hw⟩; rw[hw,hv])
 go_wp2
 go_step3
 go_wp2
 go_loopg [9,10,11,12] 0 (λg v9 v10 _ _ wx=>v9=.int .i64 1/\v10=.int .i64 0/\g=0/\wx=w)
 case atStart=>simp
 case round =>
  obtain⟨rfl,rfl,rfl,rfl⟩:=hrel
  go_wp2
  go_step3
  go_wp2
  go_wp2_with (fail)
  have mixed:=L.mixed
  go_big_quiet_o (fail)
  clear mixed
  go_wp2
  obtain⟨w1,hw1⟩:∃w1,wr.drewN nq=w1:=⟨_,rfl⟩;rw[hw1];have mixed:=L.mixed
  go_big_quiet_o ((go_at_fn (ρ.f 137); exact Calls.quiet_of_same (hcall _ _)))
  clear mixed
  go_wp2
  rw[Exit.noGoto_ret]
  go_wp2
  first|rw[Exit.noGoto_ret]|skip
  go_ret
  exact⟨rfl,_,by rw[<- hw1]; exact World.drewN_drewN _ _ _⟩
set_option maxHeartbeats 4000000 in
set_option maxRecDepth 1000000 in
theorem Any.sG(L:Lays.n153 P ρ)(r:Int)(h0:128<=r)(h1:r<=1114111)(hn:¬r=65533)(hv:Lib.validRune r=true)(s rs:ByteArray)(hs:s.size=2)(k:Int)(hr:(rs.size:Int)=k)(hk:3<=k)(hk4:k<=4)
  (hcv:∀w,(convert (ρ.t 21) (ρ.t 9) (.int .i32 r)).run P w=.ok (.string rs) w) (w:World) :
  Calls P (ρ.f 152) #[.string s,.int .i32 r] w λe w'=>e=.returned (.int .i64 (-1))/\∃n,w'=w.drewN n:=by
 have t3:=L.t3; have a3:=L.a3; have z3:=L.z3; have v3:=L.v3;have t4:=L.t4; have a4:=L.a4; have z4:=L.z4; have v4:=L.v4;have t5:=L.t5; have a5:=L.a5; have z5:=L.z5; have v5:=L.v5;have t9:=L.t9; have a9:=L.a9; have z9:=L.z9; have v9:=L.v9;have t21:=L.t21; have a21:=L.a21; have z21:=L.z21; have v21:=L.v21;have e119:∀args w,(callFunc (ρ.f 119) args).run P w=.ok (.enter (ρ.f 119) args) w:=enters_of L.f119 (by kernel_rfl) rfl;have c1:decide (r<128)=false:=decide_eq_false (by omega);have c2:(r == 65533)=false:=beq_eq_false_iff_ne.2 hn;have c3:decide (k-1<2)=false:=decide_eq_false (by omega);have c4:(s.size:Int)=2:=by rw[hs]; rfl
 go_enter L.f152,Body.n152_ntmps ρ
 go_wp2_with (go_at_fn (ρ.f 119); refine(Any.utf8_ValidRune { L with } _ _).mono ?_; rintro e w' ⟨rfl,hw⟩; rw[hw,hv])
 go_wp2
 go_step3
 go_wp2
 go_loopg [9,10,11,12] 0 (λg v9 v10 _ _ wx=>v9=.int .i64 (k-1)/\v10=.int .i64 0/\g=0/\wx=w)
 case atStart=>simp
 case round =>
  obtain⟨rfl,rfl,rfl,rfl⟩:=hrel
  go_wp2
  rw[Exit.noGoto_ret]
  go_wp2
  first|rw[Exit.noGoto_ret]|skip
  go_ret
  exact⟨rfl,0,rfl⟩
theorem vr{c:Nat}(h:c<55296\/(57344<=c/\c<=1114111)):Lib.validRune c=true:=by
 grind[Lib.validRune]
set_option maxHeartbeats 1000000 in
theorem aA0{n b0 b1 b2 b3:Nat}(h:128<=b0)(hb:b0<256)(hn:1<=n):128<=(decodeN n b0 b1 b2 b3).1/\(decodeN n b0 b1 b2 b3).1<=1114111/\Lib.validRune (decodeN n b0 b1 b2 b3).1=true /\
  1<=(decodeN n b0 b1 b2 b3).2/\(decodeN n b0 b1 b2 b3).2<=n/\(2<=(decodeN n b0 b1 b2 b3).2->128<=b1)/\(3<=(decodeN n b0 b1 b2 b3).2->128<=b2)/\(4<=(decodeN n b0 b1 b2 b3).2->128<=b3)/\(decodeN n b0 b1 b2 b3).2<=4:=by
 have err:128<=((65533,1):Nat×Nat).1/\((65533,1):Nat×Nat).1<=1114111/\Lib.validRune ((65533,1):Nat×Nat).1=true /\
  1<=((65533,1):Nat×Nat).2/\((65533,1):Nat×Nat).2<=n/\(2<=((65533,1):Nat×Nat).2->128<=b1)/\(3<=((65533,1):Nat×Nat).2->128<=b2)/\(4<=((65533,1):Nat×Nat).2->128<=b3)/\((65533,1):Nat×Nat).2<=4 :=
  ⟨by decide,by decide,vr (by grind),by decide,hn,(by grind),(by grind),(by grind),by decide⟩
 unfold decodeN;rw[if_neg (by omega)]
 grind[vr]
theorem get_at(s:ByteArray)(i:Nat)(h:i<s.size):s.data.toList[i]?=some (s.get! i):=by
 have:s.get! i=s[i]'h:=by
  show s.data.get!Internal i=_;simp[getElem!_pos,h];rfl
 grind[Lib.data_getElem?]
theorem aAz(s:ByteArray)(i:Nat)(hi:i<s.size)(b:UInt8)(hb:s.data.toList[i]?=some b)(h:128<=b.toNat):∃c wd,Utf8.decode s i=(c,wd)/\128<=c/\c<=1114111/\Lib.validRune c=true/\1<=wd/\i+wd<=s.size /\
  ∀k,k<wd->∃x,s.data.toList[i+k]?=some x/\128<=x.toNat:=by
 have hb0:(s.get! i)=b:=by
  grind[get_at]
 have:=aA0 (n:=s.size-i) (b0:=(s.get! i).toNat) (b1:=(s.get! (i+1)).toNat) (b2:=(s.get! (i+2)).toNat) (b3:=(s.get! (i+3)).toNat) (by rw[hb0]; exact h) (UInt8.toNat_lt _) (by omega);rw[<- decode_at]at this;generalize Utf8.decode s i=p at this;obtain⟨c,wd⟩:=p;simp only at this;obtain⟨d1,d2,d3,d4,d5,d6,d7,d8,d9⟩:=this;refine⟨c,wd,rfl,d1,d2,d3,d4,by omega,λk hk=>?_⟩;have hk4:k=0\/k=1\/k=2\/k=3:=by omega
 rcases hk4 with rfl|rfl|rfl|rfl
 .grind
 .grind [get_at]
 .grind [get_at]
 grind[get_at]
theorem uD{w:World}{B:Nat}{s:ByteArray}{pos c wd:Nat}(hw:w.heap[B]?=some (.stringIter s pos))(h:pos<s.size)(hd:Utf8.decode s pos=(c,wd))(ty:TypeId) :
  (Instr.next (.pointer (some ⟨B,0,none⟩)) true ty).run P w=.ok (.tuple #[.bool true,.int .i64 pos,.int .i32 c]) (w.putObj B (.stringIter s (pos+wd))):=by
 simp[Instr.next,getObj,setObj,Sem.run,hw,h,hd,goInt,Result.andThen];rfl
theorem Bu{w:World}{B:Nat}{s:ByteArray}{pos:Nat}(hw:w.heap[B]?=some (.stringIter s pos))(h:¬pos<s.size)(ty:TypeId) :
  (Instr.next (.pointer (some ⟨B,0,none⟩)) true ty).run P w=.ok (.tuple #[.bool false]) w:=by
 simp[*,Instr.next,getObj,Sem.run]
theorem wW{w w':World}{B:Nat}{o:Obj}(h:Go.Eng.Below B w w'):Go.Eng.Below B w (w'.putObj B o) :=
 ⟨h.os,h.tape,h.output,by rw[World.putObj_size]; exact h.size,λk hk=>by rw[World.putObj_heap_other (by omega)]; exact h.block k hk,h.drawn⟩
theorem Po(hD:Go.Eng.DRN=false)(L:Lays.n153 P ρ)(c:Nat)(h0:128<=c)(h1:c<=1114111)(hv:Lib.validRune c=true)(w:World) :
  Calls P (ρ.f 152) #[.string qn,.int .i32 c] w λe w'=>e=.returned (.int .i64 (-1))/\RowKit.Below w.heap.size w w':=by
 by_cases he:(c:Int)=65533
 .rw [he];refine(Any.Bs L w).mono ?_;rintro e w' ⟨rfl,pos,rfl⟩;exact⟨rfl,((Go.Eng.Below.refl w.heap.size w).alloc (aN _) _).row⟩
 .have hv':Utf8.valid (c:Int)=true:=by
   unfold Lib.validRune at hv;have:=of_decide_eq_true hv;unfold Utf8.valid
   grind
  have fin:∀{e:Ending} {w':World},(e=.returned (.int .i64 (-1))/\∃n,w'=w.drewN n)->e=.returned (.int .i64 (-1))/\RowKit.Below w.heap.size w w':=by
   rintro e w' ⟨h,n,rfl⟩;exact⟨h,(Go.Eng.below_drewN hD w n).row⟩
  rcases aA6 (r:=(c:Int)) (by omega) hv' with⟨a,b,hrs,hb⟩|⟨a,b,d,hrs⟩|⟨a,b,d,e,hrs⟩
  .exact (Any.Bt L c (by omega) (by omega) he hv qn ⟨#[a,b]⟩ rfl rfl (xA L hrs) 10 b rfl rfl (by simp; omega) w).mono λ_ _ h=>fin h
  .exact (Any.sG L c (by omega) (by omega) he hv qn ⟨#[a,b,d]⟩ rfl 3 rfl (by decide) (by decide) (xA L hrs) w).mono λ_ _ h=>fin h
  .exact (Any.sG L c (by omega) (by omega) he hv qn ⟨#[a,b,d,e]⟩ rfl 4 rfl (by decide) (by decide) (xA L hrs) w).mono λ_ _ h=>fin h
theorem Ka{s:ByteArray}{i wd:Nat}(h:Lib.NoAny s.data.toList [34,10] i)(hw:∀k,k<wd->∃x,s.data.toList[i+k]?=some x/\128<=x.toNat):Lib.NoAny s.data.toList [34,10] (i+wd):=by
 intro x b hj hx;by_cases hlt:x<i
 .exact h x b hlt hx
 .obtain ⟨y,e1,e2⟩:=hw (x-i) (by omega);rw[show i+(x-i)=x by omega,hx]at e1;obtain rfl:=eG e1;have n1:b≠34:=by rintro rfl; grind
  have n2:b≠10:=by rintro rfl; grind
  grind
set_option maxHeartbeats 8000000 in
set_option maxRecDepth 1000000 in
theorem Any.Gj(hD:Go.Eng.DRN=false)(L:Lays.n153 P ρ)(s:ByteArray)(w:World)(h8:s.size<=8) :
  Calls P (ρ.f 153) #[.string s,.string qn] w λe w'=>e=.returned (.int .i64 (Lib.indexAny s.data.toList [34,10]))/\RowKit.Below w.heap.size w w':=by
 have hemp:qn.toList.isEmpty=false:=by rw[Lib.toList_data]; rfl
 have hn1:((qn.size:Int) == 1)=false:=rfl;have h8z:decide ((8:Int)<(s.size:Int))=false:=decide_eq_false (by omega);have t3:=L.t3; have a3:=L.a3; have z3:=L.z3; have v3:=L.v3;have t4:=L.t4; have a4:=L.a4; have z4:=L.z4; have v4:=L.v4;have t5:=L.t5; have a5:=L.a5; have z5:=L.z5; have v5:=L.v5;have t9:=L.t9; have a9:=L.a9; have z9:=L.z9; have v9:=L.v9;have t21:=L.t21; have a21:=L.a21; have z21:=L.z21; have v21:=L.v21;have e152:∀args w,(callFunc (ρ.f 152) args).run P w=.ok (.enter (ρ.f 152) args) w:=enters_of L.f152 (by kernel_rfl) rfl;have e226:∀args w,(callFunc (ρ.f 226) args).run P w=.ok (.enter (ρ.f 226) args) w:=enters_of L.f226 (by kernel_rfl) rfl
 go_enter L.f153,Body.n153_ntmps ρ
 go_wp2_with (go_at_fn (ρ.f 226); refine(Any.strings_shouldUseASCIISet { L with } _ _).mono ?_; rintro e w' ⟨rfl,hw⟩; rw[hw,h8z])
 go_loopg [9,10] s.size (λg _ _ wx=>∃i:Nat,i+g=s.size/\Go.Eng.Below w.heap.size w wx/\wx.heap[w.heap.size]?=some (.stringIter s i)/\Lib.NoAny s.data.toList [34,10] i)
 case atStart=>exact⟨0,by omega,(Go.Eng.Below.refl w.heap.size w).alloc (aN _) _,World.iter_heap w s 0,Lib.NoAny.zero _ _⟩
 case round =>
  obtain⟨i,hig,hbl,hit,hno⟩:=hrel;have HN:Aside (Lib.NoAny s.data.toList [34,10] i):=hno;clear hno;cases gk with
  |zero =>
   have hnx:=Bu (P:=P) hit (by omega)
   go_wp2
   go_ret
   exact⟨by rw[Lib.indexAny_none (by rw[<- Lib.size_eq]; have:=HN.out; grind)]; rfl,hbl.row⟩
  |succ g =>
   have hi:i<s.size:=by omega
   obtain⟨x,hx⟩:∃x:UInt8,s[i]'hi=x:=⟨_,rfl⟩;have hxl:s.data.toList[i]?=some x:=by grind[Lib.data_getElem?]
   have Hx:Aside (s.data.toList[i]?=some x):=hxl;by_cases h128:x.toNat<128
   .have hnx:=uD (P:=P) hit hi (decode_ascii s i hi (by rw[hx]; exact h128));rw[hx]at hnx;clear hxl hx;have hcon:=Lib.contains_iff_indexByte [34,10] x;have hback:((x.toNat:Int)).toNat.toUInt8=x:=by simp
    cases hin:([34,10]:List UInt8).contains x
    .rw [hin]at hcon;have hlt:¬((0:Int)<=Lib.indexByte [34,10] x):=of_decide_eq_false hcon.symm;clear hcon;have hcall:∀w,Calls P (ρ.f 152) #[.string qn,.int .i32 x.toNat] w λe w'=>e=.returned (.int .i64 (Lib.indexByte [34,10] x))/\w'=w:=λw=>by
      have:=Any.strings_IndexRune_ascii (P:=P) (ρ:=ρ) { L with } qn x.toNat w (by omega) (by omega)
      rwa [hback]at this
     go_wp2_with (go_at_fn (ρ.f 152); refine(hcall _).mono ?_; rintro e w' ⟨rfl,hw⟩; rw[hw])
     go_roundg g
     case measure=>omega
     case rel=>exact⟨i+1,by omega,wW hbl,World.putObj_heap_same (aU.1 hit).1,HN.out.succ Hx.out hin⟩
    .rw [hin]at hcon;have hge:(0:Int)<=Lib.indexByte [34,10] x:=of_decide_eq_true hcon.symm;clear hcon;have hcall:∀w,Calls P (ρ.f 152) #[.string qn,.int .i32 x.toNat] w λe w'=>e=.returned (.int .i64 (Lib.indexByte [34,10] x))/\w'=w:=λw=>by
      have:=Any.strings_IndexRune_ascii (P:=P) (ρ:=ρ) { L with } qn x.toNat w (by omega) (by omega)
      rwa [hback]at this
     go_wp2_with (go_at_fn (ρ.f 152); refine(hcall _).mono ?_; rintro e w' ⟨rfl,hw⟩; rw[hw])
     go_ret
     exact⟨by rw[Lib.indexAny_hit HN.out Hx.out hin]; rfl,(wW hbl).row⟩
   .obtain ⟨c,wd,hd,q0,q1,q2,q3,q4,q5⟩:=aAz s i hi x hxl (by omega);have hnx:=uD (P:=P) hit hi hd;clear hxl hx hd;have Q5:Aside (∀k,k<wd->∃x,s.data.toList[i+k]?=some x/\128<=x.toNat):=q5;clear q5;obtain⟨w1,hw1⟩:∃w1,wr.putObj w.heap.size (.stringIter s (i+wd))=w1:=⟨_,rfl⟩;rw[hw1]at hnx;have hbl1:Go.Eng.Below w.heap.size w w1:=by grind[wW]
    have hit1:w1.heap[w.heap.size]?=some (.stringIter s (i+wd)):=by grind[World.putObj_heap_same]
    have hcall:=Po hD L c q0 q1 q2 w1;clear hw1
    go_wp2_with (go_at_fn (ρ.f 152); refine hcall.mono ?_; rintro e w2 ⟨rfl,hb2⟩)
    have hb3:Go.Eng.Below w.heap.size w w2:=hbl1.trans (.sQ ⟨hb2.os,hb2.tape,hb2.output,hb2.size,λk hk=>hb2.block k (bM hk hbl1.size)⟩ (Go.Eng.DLe.no hD));have hit2:w2.heap[w.heap.size]?=some (.stringIter s (i+wd)):=by rw[hb2.block _ (aU.1 hit1).1]; exact hit1
    go_roundg (s.size-(i+wd))
    case measure=>omega
    case rel=>exact⟨i+wd,by omega,hb3,hit2,Ka HN.out Q5.out⟩
end Go.Proofs
namespace Go.Eng
open Go Go.RowKit Go.Proofs Go.Shelf
def tF:Spec where
 X:=List UInt8
 args:=λx=>.cons (.str x) (.cons (.str [34,10]) .nil)
 pre:=λx=>x.length<=1000000
 res:=λx=>.int .i64 (Lib.indexAny x [34,10])
 inst:=λs=>match s with
  |.cons (.str t) _=>some t
  |_=>none
theorem Gi(hD:DRN=false){P:Program}{ρ:Ren}(L:Lays.n153 P ρ)(h116:(P.info? (ρ.t 116)).map (λi=>(i.zero,i.size))=some (some (.agg (Array.replicate 256 (.bool false))),256))
  (hc:∀args w,(callFunc (ρ.f 153) args).run P w=.ok (.enter (ρ.f 153) args) w):tF.Ok P (ρ.f 153):=by
 refine pI hc ?_;intro t w vs U hU hg hp hR;replace hp:t.length<=1000000:=hp;simp only[tF,R]at hR;obtain⟨v1,r1,rfl,e1,v2,r2,rfl,e2,rfl⟩:=hR;obtain rfl:=aC.1 e1;obtain rfl:=aC.1 e2;have hsz:ByteArray.size ⟨t.toArray⟩=t.length:=by rw[Lib.size_eq]
 by_cases h8:t.length<=8
 .refine (Any.Gj hD L ⟨t.toArray⟩ w (by rw[hsz]; exact h8)).mono ?_;rintro e w' ⟨rfl,hb⟩;exact⟨_,rfl,.sQ hb (DLe.no hD),by rfl⟩
 .refine (Any.strings_IndexAny_long L (zero_of_info h116).1 (zero_of_info h116).2 ⟨t.toArray⟩ qn w (by decide) (by omega) (by omega) (by decide) ?_).mono ?_
  .intro j b hj;have:b=34\/b=10:=by
    match j,hj with
    |0,hj=>exact .inl (eG hj).symm
    |1,hj=>exact .inr (eG hj).symm
   rcases this with rfl|rfl<;>decide
  rintro e w' ⟨rfl,rfl⟩;exact⟨_,rfl,((Below.refl w.heap.size w).alloc (aN _) _).alloc (by simp) _,by rfl⟩
end Go.Eng
open Go Go.Eng Go.Proofs
namespace V3
theorem indexAny:tF.Ok Tryz.prog 120:=Gi rfl Tryz.lays153 (by kernel_rfl) (enters_of Tryz.lays153.f153 (by kernel_rfl) rfl)
end V3
