/- A part of the proof. -/
import Derived.Test.YtpiolkcdfgiefaaGreatDoorD11
import Derived.Shelf.Strings.SlTrimAscii
namespace Go.Proofs
open Go.Shelf
set_option maxRecDepth 100000
def Tryz.Gv:Go.Shelf.Ren:=⟨fun|160=>59|232=>82|231=>81|227=>83|234=>85|233=>84|236=>87|235=>86|228=>105|271=>108|151=>107|197=>106|120=>132|152=>131|260=>130|137=>118|119=>150|224=>151|225=>152|217=>138|266=>155|n=>n,fun|9=>9|4=>4|3=>3|5=>5|117=>114|116=>113|0=>0|124=>117|21=>21|105=>139|46=>103|119=>178|139=>181|138=>180|n=>n,fun|3=>1|4=>2|n=>n⟩
theorem Tryz.Mj:Go.Proofs.Lays.n160 Tryz.prog Tryz.Gv:={
 mixed:=by kernel_rfl
 f119:=Tryz.func150.trans (congrArg some (by kernel_rfl))
 f120:=Tryz.func132.trans (congrArg some (by kernel_rfl))
 f137:=Tryz.func118.trans (congrArg some (by kernel_rfl))
 f151:=Tryz.func107.trans (congrArg some (by kernel_rfl))
 f152:=Tryz.func131.trans (congrArg some (by kernel_rfl))
 f160:=Tryz.func59.trans (congrArg some (by kernel_rfl))
 f197:=Tryz.func106.trans (congrArg some (by kernel_rfl))
 f217:=Tryz.func138.trans (congrArg some (by kernel_rfl))
 f224:=Tryz.func151.trans (congrArg some (by kernel_rfl))
 f225:=Tryz.func152.trans (congrArg some (by kernel_rfl))
 f227:=Tryz.func83.trans (congrArg some (by kernel_rfl))
 f228:=Tryz.func105.trans (congrArg some (by kernel_rfl))
 f231:=Tryz.func81.trans (congrArg some (by kernel_rfl))
 f232:=Tryz.func82.trans (congrArg some (by kernel_rfl))
 f233:=Tryz.func84.trans (congrArg some (by kernel_rfl))
 f234:=Tryz.func85.trans (congrArg some (by kernel_rfl))
 f235:=Tryz.func86.trans (congrArg some (by kernel_rfl))
 f236:=Tryz.func87.trans (congrArg some (by kernel_rfl))
 f260:=Tryz.func130.trans (congrArg some (by kernel_rfl))
 f266:=Tryz.func155.trans (congrArg some (by kernel_rfl))
 f271:=Tryz.func108.trans (congrArg some (by kernel_rfl))
 t0:=Tryz.underlying0
 a0:=Tryz.isAgg0
 z0:=Tryz.sizeOf0
 v0:=Tryz.zeroValue0
 t3:=Tryz.underlying3
 a3:=Tryz.isAgg3
 z3:=Tryz.sizeOf3
 v3:=Tryz.zeroValue3
 t4:=Tryz.underlying4
 a4:=Tryz.isAgg4
 z4:=Tryz.sizeOf4
 v4:=Tryz.zeroValue4
 t5:=Tryz.underlying5
 a5:=Tryz.isAgg5
 z5:=Tryz.sizeOf5
 v5:=Tryz.zeroValue5
 t9:=Tryz.underlying9
 a9:=Tryz.isAgg9
 z9:=Tryz.sizeOf9
 v9:=Tryz.zeroValue9
 t21:=Tryz.underlying21
 a21:=Tryz.isAgg21
 z21:=Tryz.sizeOf21
 v21:=Tryz.zeroValue21
 t46:=Tryz.underlying103
 a46:=Tryz.isAgg103
 z46:=Tryz.sizeOf103
 v46:=Tryz.zeroValue103
 t105:=Tryz.underlying139
 a105:=Tryz.isAgg139
 z105:=Tryz.sizeOf139
 v105:=Tryz.zeroValue139
 t116:=Tryz.underlying113
 a116:=Tryz.isAgg113
 z116:=Tryz.sizeOf113
 t117:=Tryz.underlying114
 a117:=Tryz.isAgg114
 z117:=Tryz.sizeOf114
 v117:=Tryz.zeroValue114
 t119:=Tryz.underlying178
 a119:=Tryz.isAgg178
 z119:=Tryz.sizeOf178
 t124:=Tryz.underlying117
 a124:=Tryz.isAgg117
 z124:=Tryz.sizeOf117
 v124:=Tryz.zeroValue117
 t138:=Tryz.underlying180
 a138:=Tryz.isAgg180
 z138:=Tryz.sizeOf180
 v138:=Tryz.zeroValue180
 t139:=Tryz.underlying181
 a139:=Tryz.isAgg181
 z139:=Tryz.sizeOf181
 v139:=Tryz.zeroValue181
 g3:=by kernel_rfl
 g4:=by kernel_rfl }
end Go.Proofs
open Go Go.Eng Go.Proofs Go.Shelf T1 T13 T23 D1 D2 D3 D6 D9
namespace D15
abbrev hxT:B:=[48,49,50,51,52,53,54,55,56,57,97,98,99,100,101,102]
theorem S3 {x:B} (h:∀ b∈x,b∈hxT):Lib.trimS x hxT=[]:=by
 have h1:∀ (l:B),(∀ b∈l,b∈hxT)->l.dropWhile (hxT.contains ·)=[]:=by
  intro l;induction l with
  | nil=>intro _; rfl
  | cons b l ih =>
   intro h;rw [List.dropWhile_cons_of_pos (by simpa using h b aQ)];exact ih fun c hc=>h c (aK _ hc)
 have h2:Lib.trimRightS x hxT=[]:=by
  unfold Lib.trimRightS;rw [h1 _ fun b hb=>h b (List.mem_reverse.1 hb)];rfl
 unfold Lib.trimS;rw [h2];rfl
def Fj:Eng.Spec where
 X:=B
 args:=fun x=>.cons (.str x) (.cons (.str [48,49,50,51,52,53,54,55,56,57,97,98,99,100,101,102]) .nil)
 pre:=fun x=>x.length<=1000000/\∀ b∈x,b∈hxT
 res:=fun _=>.str []
 inst:=fun s=>match s with
  | .cons (.str t) _=>some t
  | _=>none
theorem S2:Fj.Ok Tryz.prog 59:=by
 refine oD (enters_of Tryz.Mj.f160 (by kernel_rfl) rfl) ?_;intro (t:B) w vs U hU hg hp hR;obtain ⟨(hp1:t.length<=1000000),(hp2:∀ b∈t,b∈hxT)⟩:=hp;simp only [Fj,R] at hR;obtain ⟨v1,r1,rfl,e1,v2,r2,rfl,e2,rfl⟩:=hR;obtain rfl:=aC.1 e1;obtain rfl:=aC.1 e2;refine (Any.strings_Trim_laid Tryz.Mj (by kernel_rfl) ⟨t.toArray⟩ ⟨hxT.toArray⟩ w (by rw [Lib.size_eq]; simp; omega) (by rw [Lib.size_eq]; simp [hxT]) ?_).mono ?_
 ·intro j b hj;have hm:b∈hxT:=eV hj;have:hxT.all (fun b=>decide (b.toNat < 128))=true:=by decide
  exact of_decide_eq_true (fI.1 this b hm)
 rintro e w' ⟨rfl,hb⟩;refine ⟨_,rfl,.rU hb (DLe.no rfl),?_⟩;simp only [Fj,R];show [Value.string ⟨(Lib.trimS t hxT).toArray⟩]=_;rw [S3 hp2]
theorem pkm {a z:Bool} {n:Nat} (h1:a=true) (h2:z=true):cS a (.s n) cF z false=true:=by rw [dE,h1,h2]; rfl
def g32:List Nat:=[0,2]
def c32:bH :=
 .seq (.region g32 [(zo 2 (.move cF))]) (.seq (.region g32 [(mv 3 0),(zo 4 (.lenStr (.s 3))),(zo 5 (.bin (.eql) (.s 4) (cj 16))),(mv 6 5),(mg 7 6 true 0),(zg 8 6 true (.call (.c (.fn 59)) [.s 7,.c (.str [48,49,50,51,52,53,54,55,56,57,97,98,99,100,101,102])])),(zg 9 6 true (.bin (.eql) (.s 8) (.c (.str [])))),(zo 10 (.pick (.s 6) (.s 9) cF)),(mv 2 10)]) .ret)
theorem e32:cR Tryz.prog 32 g32 [] [] []=some (c32,[.slot 2],11):=by kernel_rfl
def isS:Eng.Spec where
 X:=B
 args:=fun x=>.cons (.str x) .nil
 pre:=fun x=>x.length=16/\∀ b∈x,b∈hxT
 res:=fun _=>.bool true
 inst:=fun s=>match s with
  | .cons (.str t) _=>some t
  | _=>none
theorem aAp:isS.Ok Tryz.prog 32:=by
 refine Eng.Spec.okR e32 .nil (fun _=>[(59,.p Fj)]) (fun _ _=>aZ.p S2 aZ.nil) ?_;rintro (x:B) ⟨(h1:x.length=16),(h2:∀ b∈x,b∈hxT)⟩;refine ⟨trivial,?_⟩;have e:decide ((x.length:Int)=16)=true:=decide_eq_true (by rw [h1]; rfl);have hp:x.length<=1000000/\∀ b∈x,b∈hxT:=⟨by omega,h2⟩;repeat' (first|refine aA ?_ ?_)
 ·refine fun _=>?_;repeat' (first|exact hp|apply aA|exact trivial|exact rfl)
 ·exact (pkm e rfl:cS _ _ _ _ _=true)
theorem P9 {n:Nat} (h:n < 16):dgt n∈hxT:=by
 have:∀ m,m < 16->dgt m∈hxT:=by decide
 exact this n h
theorem L7:∀ (f n:Nat) (acc:List UInt8),(∀ b∈acc,b∈hxT)->∀ b∈Eh f n acc,b∈hxT
 | 0,_,_,h=>h
 | f+1,n,acc,h=>by
  simp only [Eh];split
  ·rename_i hn;intro b hb;rcases aI.1 hb with rfl|hb
   ·exact P9 hn
   ·exact h b hb
  ·refine L7 f _ _ fun b hb=>?_;rcases aI.1 hb with rfl|hb
   ·exact P9 (Nat.mod_lt _ (by decide))
   ·exact h b hb
theorem Zp (t:B):(H7 t).length=16/\∀ b∈H7 t,b∈hxT:=by
 unfold H7;have:=Ei (rM t (qH t) (t.length / 8+1));have e:∀ n:Nat,((List.replicate n ([48]:B)).flatten).length=n:=fun n=>by simp
 refine ⟨by rw [aV,e]; omega,fun b hb=>?_⟩;rcases bM.1 hb with h|h
 ·obtain ⟨l,hl,hb⟩:=List.mem_flatten.1 h;rw [(List.mem_replicate.1 hl).2] at hb;rw [dH.1 hb];decide
 ·exact L7 _ _ _ (fun _ h=>by cases h) b h
theorem X0 (T:TT):(pH Dd T).length=16/\∀ b∈pH Dd T,b∈hxT:=by
 rw [wC];unfold pI;have:(ndT T).bys.length=(ndT T).kids.length:=by
  cases T;simp only [ndT,cO]
 rw [if_pos this];exact Zp _
end D15
