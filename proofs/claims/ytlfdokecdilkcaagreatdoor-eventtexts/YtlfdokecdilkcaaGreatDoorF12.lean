/- A part of the proof. -/
import Derived.Test.YtlfdokecdilkcaaGreatDoorF10
open Go Go.Eng Go.Proofs G1 G2 G3 G4 G6 G7 EV0 N1 N2 F1 F2 F3 F4 F5 F6 F7 F8 F9 F10
set_option maxRecDepth 100000
namespace F12
theorem bD {e:Ev} (h:aS e=true):(1<=e.kind/\e.kind<=15)/\(0<=e.day/\e.day<=100000)/\zB (bA e)=false/\emB (bA e)=true/\ndK e=true:=by
 unfold aS at h
 split at h
 ·cases h
 ·rename_i h1
  split at h
  ·cases h
  ·rename_i h2
   rw [Bool.not_eq_true] at h1 h2
   rw [Bool.or_eq_false_iff,Bool.not_eq_false',Bool.not_eq_false'] at h1
   rw [Bool.and_eq_true] at h
   unfold cJ at h1
   simp only [Bool.and_eq_true,decide_eq_true_eq] at h1
   exact ⟨h1.1,h1.2,h2,h.1,h.2⟩
theorem Cf {x y:Hn} (h1:x.n=y.n) (h2:x.l=y.l) (h3:x.num=y.num) (h4:x.den=y.den):x=y:=by
 cases x; cases y; simp_all
structure ZF (x:Ev):Prop where
 a:x.a=0
 b:x.b=0
 off:x.off=0
 id:x.id=[]
 oth:x.oth=[]
 txt:x.txt=[]
 num:x.num=⟨0,[],0,0⟩
 pt:x.pt=(0,0)
theorem D2 {x:Ev}:zB x=false ↔ ZF x:=by
 unfold zB
 simp only [Bool.or_eq_false_iff,Bool.not_eq_false',Bool.and_eq_true,Bool.and_true,decide_eq_true_eq,List.append_eq_nil_iff]
 constructor
 ·rintro ⟨⟨⟨⟨⟨h1,h2⟩,h3⟩,⟨h4,h5⟩,h6⟩,h7,h8,h9,h10⟩,h11,h12⟩
  refine ⟨h1,h2,h3,h4,h5,h6,?_,Prod.ext h11 h12⟩
  exact Cf h7 h8 h9 h10
 ·intro h
  rw [h.num,h.pt]
  exact ⟨⟨⟨⟨⟨h.a,h.b⟩,h.off⟩,⟨h.id,h.oth⟩,h.txt⟩,rfl,rfl,rfl,rfl⟩,rfl,rfl⟩
theorem oG {x:Ev}:emB x=true ↔ x.ids.n=0/\x.names.n=0/\x.path.n=0/\x.list.n=0:=by
 unfold emB
 rw [decide_eq_true_eq]
 omega
theorem eO {s:B} (h:L10.dF s=true):s≠[]:=by
 rintro rfl
 exact absurd h (by decide)
theorem fI {r:Sq B} (h:jS r=true) {i:Nat} (hi:i < r.n):L10.dF (r.f i)=true:=by
 unfold jS at h
 rw [Bool.and_eq_true,Bool.not_eq_true'] at h
 have:=bE.1 h.2 i hi
 unfold nS at this
 simpa using this
theorem Rq {e:Ev} (h:e.kind=1):ndK e=nd1 e:=by unfold ndK; rw [h]; rfl
theorem Rr {e:Ev} (h:e.kind=2):ndK e=nd2 e:=by unfold ndK; rw [h]; rfl
theorem Rs {e:Ev} (h:e.kind=3):ndK e=nd3 e:=by unfold ndK; rw [h]; rfl
theorem Rt {e:Ev} (h:e.kind=4):ndK e=nd4 e:=by unfold ndK; rw [h]; rfl
theorem Ru {e:Ev} (h:e.kind=5):ndK e=nd5 e:=by unfold ndK; rw [h]; rfl
theorem Nj {e:Ev} (h:e.kind=6):ndK e=nd6 e:=by unfold ndK; rw [h]; rfl
theorem Rv {e:Ev} (h:e.kind=7):ndK e=nd7 e:=by unfold ndK; rw [h]; rfl
theorem Nk {e:Ev} (h:e.kind=8):ndK e=nd8 e:=by unfold ndK; rw [h]; rfl
theorem Rw {e:Ev} (h:e.kind=9):ndK e=nd9 e:=by unfold ndK; rw [h]; rfl
theorem Ap {e:Ev} (h:e.kind=10):ndK e=nd10 e:=by unfold ndK; rw [h]; rfl
theorem Pe {e:Ev} (h:e.kind=11):ndK e=nd0 e:=by unfold ndK; rw [h]; rfl
theorem Pf {e:Ev} (h:e.kind=12):ndK e=nd0 e:=by unfold ndK; rw [h]; rfl
theorem U4 {e:Ev} (h:e.kind=13):ndK e=nd13 e:=by unfold ndK; rw [h]; rfl
theorem U5 {e:Ev} (h:e.kind=14):ndK e=nd13 e:=by unfold ndK; rw [h]; rfl
theorem Jv {e:Ev} (h:e.kind=15):ndK e=nd15 e:=by unfold ndK; rw [h]; rfl
theorem kinds {k:Int} (h1:1<=k) (h2:k<=15):k=1\/k=2\/k=3\/k=4\/k=5\/k=6\/k=7\/k=8\/k=9\/k=10\/k=11\/k=12\/k=13\/k=14\/k=15:=by omega
theorem Cv {x:B} {l:List B} (hl:jS (bQ (x::l))=true):L10.dF x=true:=fI (r:=bQ (x::l)) (i:=0) hl (by show 0 < (rG (x::l)).len; rw [tG]; simp)
theorem fX {e:Ev} (h:aS e=true) (h3:e.kind≠13) (h4:e.kind≠14):L10.dF e.id=true:=by
 obtain ⟨⟨k1,k2⟩,_,_,_,hn⟩:=bD h
 rcases kinds k1 k2 with k|k|k|k|k|k|k|k|k|k|k|k|k|k|k
 ·rw [Rq k] at hn; unfold nd1 nd0 at hn
  simp only [Bool.and_eq_true] at hn
  exact hn.1.1
 ·rw [Rr k] at hn; unfold nd2 nd0 at hn
  simp only [Bool.and_eq_true] at hn
  exact hn.1
 ·rw [Rs k] at hn; unfold nd3 nd0 at hn
  simp only [Bool.and_eq_true] at hn
  exact hn.1
 ·rw [Rt k] at hn; unfold nd4 at hn
  exact Cv hn
 ·rw [Ru k] at hn; unfold nd5 nd0 at hn
  simp only [Bool.and_eq_true] at hn
  exact hn.1
 ·rw [Nj k] at hn; unfold nd6 at hn
  simp only [Bool.and_eq_true] at hn
  exact Cv hn.1.1
 ·rw [Rv k] at hn; unfold nd7 at hn
  simp only [Bool.and_eq_true] at hn
  exact Cv hn.1
 ·rw [Nk k] at hn; unfold nd8 nd0 at hn
  simp only [Bool.and_eq_true] at hn
  exact hn.1.1.1
 ·rw [Rw k] at hn; unfold nd9 iP at hn
  simp only [Bool.and_eq_true] at hn
  have:=fI (i:=0) hn.1.2.2.1 (by show 0 < 1+_; omega)
  simpa [mF] using this
 ·rw [Ap k] at hn; unfold nd10 at hn
  simp only [Bool.and_eq_true] at hn
  have:=fI (i:=0) hn.1.1.2 (by show 0 < 1+_; omega)
  simpa [jnF] using this
 ·rw [Pe k] at hn; unfold nd0 at hn
  exact hn
 ·rw [Pf k] at hn; unfold nd0 at hn
  exact hn
 ·exact absurd k h3
 ·exact absurd k h4
 ·rw [Jv k] at hn; unfold nd15 nd0 at hn
  simp only [Bool.and_eq_true] at hn
  exact hn.1.1
theorem oM {e:Ev} (h:aS e=true) (hk:e.kind=13\/e.kind=14):e.id=[]:=by
 obtain ⟨_,_,hz,_⟩:=bD h
 have:=(D2.1 hz).id
 unfold bA at this
 dsimp only at this
 rw [if_pos hk] at this
 exact this
theorem As {q:Pt} (h:onB q=true):(-9223372036854775808<=q.1/\q.1<=9223372036854775807)/\(-9223372036854775808<=q.2/\q.2<=9223372036854775807):=by
 have:=iE.1 h
 omega
theorem tF {r:Pts} (h:tE r=true):(∀ i,i < r.n->onB (r.p i)=true)/\2<=r.n/\r.n<=40:=by
 unfold tE at h
 simp only [Bool.and_eq_true,Bool.not_eq_true',decide_eq_true_eq] at h
 refine ⟨fun i hi=>?_,by omega,by omega⟩
 have:=bE.1 h.1 i hi
 unfold uL at this
 rw [Bool.or_eq_false_iff,Bool.not_eq_false'] at this
 exact this.1
structure FF (e:Ev):Prop where
 day:0<=e.day/\e.day<=100000
 names:e.names.n<=8
 list:e.list.n<=40
 path:e.path.n<=40
 ids:e.ids.n<=8
 a:0<=e.a/\e.a<=63
 b:0<=e.b/\e.b<=63
 off:0<=e.off/\e.off<=63
 pt:onB e.pt=true
 scr:∀ i,i < e.names.n->0<=(e.names.f i).script/\(e.names.f i).script<=7
 pth:∀ i,i < e.path.n->onB (e.path.p i)=true
 lst:∀ i,i < e.list.n->onB (e.list.f i).pt=true
theorem gO {n a b:Int}:cJ n a b=true ↔ a<=n/\n<=b:=by
 unfold cJ
 simp only [Bool.and_eq_true,decide_eq_true_eq]
theorem Ex {r:Sq Nm} (h:pY r=true):(∀ i,i < r.n->0<=(r.f i).script/\(r.f i).script<=7)/\1<=r.n/\r.n<=8:=by
 unfold pY at h
 simp only [Bool.and_eq_true,Bool.not_eq_true',gO] at h
 refine ⟨fun i hi=>?_,by omega,by omega⟩
 have:=bE.1 h.1 i hi
 unfold nbad at this
 simp only [Bool.or_eq_false_iff,Bool.not_eq_false',gO] at this
 exact this.1.2
theorem J7 {l:Sq En} {z:Bool} (h:uS l z=true):∀ i,i < l.n->onB (l.f i).pt=true:=by
 intro i hi
 unfold uS at h
 rw [Bool.not_eq_true'] at h
 have:=bE.1 h i hi
 unfold pbad at this
 rw [Bool.or_eq_false_iff,Bool.not_eq_false'] at this
 exact this.1
theorem dC {e:Ev} (h:aS e=true):FF e:=by
 obtain ⟨⟨k1,k2⟩,hd,hz,hm,hn⟩:=bD h
 have hz:=D2.1 hz
 have hm:=oG.1 hm
 have za:=hz.a
 have zb:=hz.b
 have zo:=hz.off
 have zp:=hz.pt
 obtain ⟨m1,m2,m3,m4⟩:=hm
 unfold bA at za zb zo zp m1 m2 m3 m4
 dsimp only at za zb zo zp m1 m2 m3 m4
 have none:∀ {T:Prop} {i n:Nat},n=0->i < n->T:=fun h1 h2=>by omega
 rcases kinds k1 k2 with k|k|k|k|k|k|k|k|k|k|k|k|k|k|k
 ·rw [Rq k] at hn; unfold nd1 nd0 at hn
  simp [k] at za zb zo zp m1 m2 m3 m4
  simp only [Bool.and_eq_true,gO] at hn
  exact ⟨hd,by omega,by omega,by have:=(qK hn.2).2.1; omega,by omega,by omega,by omega,by omega,by rw [zp]; decide,fun i hi=>none m2 hi,fun i hi=>(qK hn.2).1.2 i hi,fun i hi=>none m4 hi⟩
 ·rw [Rr k] at hn; unfold nd2 nd0 at hn
  simp [k] at za zb zo zp m1 m2 m3 m4
  simp only [Bool.and_eq_true] at hn
  exact ⟨hd,by omega,by omega,by have:=(tF hn.2).2; omega,by omega,by omega,by omega,by omega,by rw [zp]; decide,fun i hi=>none m2 hi,fun i hi=>(tF hn.2).1 i hi,fun i hi=>none m4 hi⟩
 ·rw [Rs k] at hn; unfold nd3 nd0 at hn
  simp [k] at za zb zo zp m1 m2 m3 m4
  simp only [Bool.and_eq_true] at hn
  exact ⟨hd,by have:=(Ex hn.2).2; omega,by omega,by omega,by omega,by omega,by omega,by omega,by rw [zp]; decide,(Ex hn.2).1,fun i hi=>none m3 hi,fun i hi=>none m4 hi⟩
 ·rw [Rt k] at hn; unfold nd4 at hn
  simp [k] at za zb zo zp m1 m2 m3 m4
  exact ⟨hd,by omega,by omega,by omega,by omega,by omega,by omega,by omega,by rw [zp]; decide,fun i hi=>none m2 hi,fun i hi=>none m3 hi,fun i hi=>none m4 hi⟩
 ·rw [Ru k] at hn; unfold nd5 nd0 at hn
  simp [k] at za zb zo zp m1 m2 m3 m4
  simp only [Bool.and_eq_true] at hn
  exact ⟨hd,by omega,by omega,by have:=(qK hn.2).2.1; omega,by omega,by omega,by omega,by omega,by rw [zp]; decide,fun i hi=>none m2 hi,fun i hi=>(qK hn.2).1.2 i hi,fun i hi=>none m4 hi⟩
 ·rw [Nj k] at hn; unfold nd6 at hn
  simp [k] at za zb zo zp m1 m2 m3 m4
  simp only [Bool.and_eq_true] at hn
  exact ⟨hd,by omega,by omega,by omega,by omega,by omega,by omega,by omega,hn.2,fun i hi=>none m2 hi,fun i hi=>none m3 hi,fun i hi=>none m4 hi⟩
 ·rw [Rv k] at hn; unfold nd7 at hn
  simp [k] at za zb zo zp m1 m2 m3 m4
  simp only [Bool.and_eq_true] at hn
  exact ⟨hd,by omega,by omega,by omega,by omega,by omega,by omega,by omega,by rw [zp]; decide,fun i hi=>none m2 hi,fun i hi=>none m3 hi,fun i hi=>none m4 hi⟩
 ·rw [Nk k] at hn; unfold nd8 nd0 at hn
  simp [k] at za zb zo zp m1 m2 m3 m4
  simp only [Bool.and_eq_true,gO] at hn
  exact ⟨hd,by omega,by omega,by omega,by omega,by omega,by omega,by omega,by rw [zp]; decide,fun i hi=>none m2 hi,fun i hi=>none m3 hi,J7 hn.2⟩
 ·rw [Rw k] at hn; unfold nd9 at hn
  simp [k] at za zb zo zp m1 m2 m3 m4
  simp only [Bool.and_eq_true,gO] at hn
  exact ⟨hd,by omega,by omega,by omega,by omega,by omega,by omega,by omega,by rw [zp]; decide,fun i hi=>none m2 hi,fun i hi=>none m3 hi,J7 hn.2⟩
 ·rw [Ap k] at hn; unfold nd10 at hn
  simp [k] at za zb zo zp m1 m2 m3 m4
  simp only [Bool.and_eq_true,gO] at hn
  exact ⟨hd,by omega,by omega,by omega,by omega,by omega,by omega,by omega,hn.2,fun i hi=>none m2 hi,fun i hi=>none m3 hi,fun i hi=>none m4 hi⟩
 ·rw [Pe k] at hn; unfold nd0 at hn
  simp [k] at za zb zo zp m1 m2 m3 m4
  exact ⟨hd,by omega,by omega,by omega,by omega,by omega,by omega,by omega,by rw [zp]; decide,fun i hi=>none m2 hi,fun i hi=>none m3 hi,fun i hi=>none m4 hi⟩
 ·rw [Pf k] at hn; unfold nd0 at hn
  simp [k] at za zb zo zp m1 m2 m3 m4
  exact ⟨hd,by omega,by omega,by omega,by omega,by omega,by omega,by omega,by rw [zp]; decide,fun i hi=>none m2 hi,fun i hi=>none m3 hi,fun i hi=>none m4 hi⟩
 ·rw [U4 k] at hn; unfold nd13 H8 at hn
  simp [k] at za zb zo zp m1 m2 m3 m4
  simp only [Bool.and_eq_true,gO] at hn
  exact ⟨hd,by omega,by omega,by omega,by omega,by omega,by omega,by omega,by rw [zp]; decide,fun i hi=>none m2 hi,fun i hi=>none m3 hi,fun i hi=>none m4 hi⟩
 ·rw [U5 k] at hn; unfold nd13 H8 at hn
  simp [k] at za zb zo zp m1 m2 m3 m4
  simp only [Bool.and_eq_true,gO] at hn
  exact ⟨hd,by omega,by omega,by omega,by omega,by omega,by omega,by omega,by rw [zp]; decide,fun i hi=>none m2 hi,fun i hi=>none m3 hi,fun i hi=>none m4 hi⟩
 ·rw [Jv k] at hn; unfold nd15 nd0 at hn
  simp [k] at za zb zo zp m1 m2 m3 m4
  simp only [Bool.and_eq_true,gO] at hn
  exact ⟨hd,by omega,by omega,by omega,by omega,by omega,by omega,by omega,by rw [zp]; decide,fun i hi=>none m2 hi,fun i hi=>none m3 hi,fun i hi=>none m4 hi⟩
end F12
