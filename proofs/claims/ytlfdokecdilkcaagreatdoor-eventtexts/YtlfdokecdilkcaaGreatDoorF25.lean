/- A part of the proof. -/
import Derived.Test.YtlfdokecdilkcaaGreatDoorF18
import Derived.Test.YtlfdokecdilkcaaGreatDoorF13g
import Derived.Test.YtlfdokecdilkcaaGreatDoorL10
import Derived.Test.YtlfdokecdilkcaaGreatDoorF23
import Derived.Lib.ItoaMem
section
open Go Go.Eng Go.Proofs G1 G2 G3 G4 G6 G7 EV0 N1 N2 F1 F7 F9 F16 F17 F18
set_option maxRecDepth 100000
namespace F18g
def ji (k:Int):Nat:=if k=13\/k=14 then 1 else 2
def evI (k:Int) (s:Sq B):Ev:=⟨k,aM (w s 0),0,0,0,if k=13\/k=14 then [] else w s 1,[],[],⟨0,fun _=>[]⟩,⟨0,fun _=>⟨[],0,[]⟩⟩,⟨0,[],0,0⟩,(0,0),⟨0,fun _=>(0,0)⟩,⟨0,fun _=>⟨[],⟨0,[],0,0⟩,(0,0)⟩⟩⟩
set_option maxHeartbeats 8000000 in
theorem Qv {k:Int} {s:Sq B} (k1:0<=k) (k2:k<=15) (h0:okS s okT):sL (upto 1) tab41 c41 r41 (B6.args (k,s)) (B6.h0 (k,s)) 1 fun sv st=>∃ y,B6.post (k,s) y/\yL (upto 1) false sv st (B6.res (k,s) y) (B6.h1 (k,s) y) 1:=by
 have g0:hdW s=w s 0:=by unfold w; rw [adv0]
 have g0a:=congrArg aM g0
 repeat' (first|apply And.intro|exact trivial|exact rfl)
 refine Exists.intro s (Exists.intro [0] ?_)
 refine And.intro h0 ?_
 repeat' (first|apply And.intro|exact trivial|exact rfl|exact lz fun _=>rfl)
 refine fun (y1:Sq B) (hy1:y1=adv s 1)=>?_
 have o1:okS y1 okT:=by rw [hy1]; exact bF h0
 have g1:hdW y1=w s 1:=by rw [hy1]; rfl
 repeat' (first|apply And.intro|exact trivial|exact rfl)
 refine Exists.intro ⟨Sq B,fun y=>y=adv s (ji k),fun _=>[],fun y=>[(0,.cells 69 (.cons (stE y) .nil)),(1,.cells 31 (Bq (evI k s) .nilsl .nilsl .nilsl .nilsl))],fun _=>0⟩ ?_
 refine And.intro ?_ ?_
 ·repeat' (first|apply And.intro|exact trivial|exact rfl)
  ·refine fun (hc:aG (!decide (k=13)) (.s 14) (.c (.bool false)) (!decide (k=14)) false=true)=>?_
   have hn:¬ (k=13\/k=14):=by rw [aJ] at hc; simpa using hc
   have ei:hdW y1=(evI k s).id:=g1.trans (if_neg hn).symm
   repeat' (first|apply And.intro|exact trivial|exact rfl)
   refine Exists.intro y1 (Exists.intro [0] ?_)
   refine And.intro o1 ?_
   repeat' (first|apply And.intro|exact trivial|exact rfl|exact lz fun _=>rfl)
   refine fun (y2:Sq B) (hy2:y2=adv y1 1)=>?_
   have hy2:y2=adv s (ji k):=by rw [hy2,hy1,bL]; unfold ji; rw [if_neg hn]
   repeat' (first|apply And.intro|exact trivial|exact rfl)
   refine Exists.intro y2 (And.intro hy2 ?_)
   repeat' (first|exact g0a|exact ei|apply And.intro|exact trivial|exact rfl|exact lz fun _=>rfl)
  ·refine fun (hc:aG (!decide (k=13)) (.s 14) (.c (.bool false)) (!decide (k=14)) false=false)=>?_
   have hn:k=13\/k=14:=by rw [aJ] at hc; simp at hc; omega
   have ei:[]=(evI k s).id:=(if_pos hn).symm
   have hy:y1=adv s (ji k):=by rw [hy1]; unfold ji; rw [if_pos hn]
   repeat' (first|apply And.intro|exact trivial|exact rfl)
   refine Exists.intro y1 (And.intro hy ?_)
   repeat' (first|exact g0a|exact ei|apply And.intro|exact trivial|exact rfl|exact lz fun _=>rfl)
 refine fun (y:Sq B) (hy:y=adv s (ji k))=>?_
 have oy:okS y okT:=by rw [hy]; exact bF h0
 repeat' (first|apply And.intro|exact trivial|exact rfl|exact lz fun _=>rfl)
 refine Exists.intro ⟨Sq B,fun z=>z=adv s (j0 k),fun _=>[],fun z=>[(0,.cells 69 (.cons (stE z) .nil)),(1,.cells 31 (Bq (aW k s) .nilsl .nilsl .nilsl .nilsl))],fun _=>0⟩ ?_
 refine And.intro ?_ ?_
 ·repeat' (first|apply And.intro|exact trivial|exact rfl|exact lz fun _=>rfl)
  ·refine fun (hc:decide (k=1)=true)=>?_
   obtain rfl:k=1:=of_decide_eq_true hc
   repeat' (first|apply And.intro|exact trivial|exact rfl|exact lz fun _=>rfl)
   have hy:y=adv s 2:=hy
   have g0:hdW y=w s 2:=by rw [hy]; rfl
   refine Exists.intro y (Exists.intro [0] ?_)
   refine And.intro oy ?_
   repeat' (first|apply And.intro|exact trivial|exact rfl|exact lz fun _=>rfl)
   refine fun (z0:Sq B) (hz0:z0=adv y 1)=>?_
   have hz0:z0=adv s 3:=by rw [hz0,hy]; exact bL
   have oz0:okS z0 okT:=by rw [hz0]; exact bF h0
   repeat' (first|apply And.intro|exact trivial|exact rfl|exact lz fun _=>rfl)
   refine Exists.intro z0 (And.intro hz0 ?_)
   repeat' (first|apply And.intro|exact trivial|exact rfl|exact lz fun _=>rfl|exact congrArg aM g0)
  refine fun (hc1:decide (k=1)=false)=>?_
  repeat' (first|apply And.intro|exact trivial|exact rfl|exact lz fun _=>rfl)
  ·refine fun (hc:decide (k=4)=true)=>?_
   obtain rfl:k=4:=of_decide_eq_true hc
   repeat' (first|apply And.intro|exact trivial|exact rfl|exact lz fun _=>rfl)
   have hy:y=adv s 2:=hy
   have g0:hdW y=w s 2:=by rw [hy]; rfl
   refine Exists.intro y (Exists.intro [0] ?_)
   refine And.intro oy ?_
   repeat' (first|apply And.intro|exact trivial|exact rfl|exact lz fun _=>rfl)
   refine fun (z0:Sq B) (hz0:z0=adv y 1)=>?_
   have hz0:z0=adv s 3:=by rw [hz0,hy]; exact bL
   have oz0:okS z0 okT:=by rw [hz0]; exact bF h0
   repeat' (first|apply And.intro|exact trivial|exact rfl|exact lz fun _=>rfl)
   refine Exists.intro z0 (And.intro hz0 ?_)
   repeat' (first|apply And.intro|exact trivial|exact rfl|exact lz fun _=>rfl|exact g0)
  refine fun (hc4:decide (k=4)=false)=>?_
  repeat' (first|apply And.intro|exact trivial|exact rfl|exact lz fun _=>rfl)
  ·refine fun (hc:decide (k=6)=true)=>?_
   obtain rfl:k=6:=of_decide_eq_true hc
   repeat' (first|apply And.intro|exact trivial|exact rfl|exact lz fun _=>rfl)
   have hy:y=adv s 2:=hy
   have g0:hdW y=w s 2:=by rw [hy]; rfl
   refine Exists.intro y (Exists.intro [0] ?_)
   refine And.intro oy ?_
   repeat' (first|apply And.intro|exact trivial|exact rfl|exact lz fun _=>rfl)
   refine fun (z0:Sq B) (hz0:z0=adv y 1)=>?_
   have hz0:z0=adv s 3:=by rw [hz0,hy]; exact bL
   have oz0:okS z0 okT:=by rw [hz0]; exact bF h0
   repeat' (first|apply And.intro|exact trivial|exact rfl|exact lz fun _=>rfl)
   have g1:hdW z0=w s 3:=by rw [hz0]; rfl
   refine Exists.intro z0 (Exists.intro [0] ?_)
   refine And.intro oz0 ?_
   repeat' (first|apply And.intro|exact trivial|exact rfl|exact lz fun _=>rfl)
   refine fun (z1:Sq B) (hz1:z1=adv z0 1)=>?_
   have hz1:z1=adv s 4:=by rw [hz1,hz0]; exact bL
   have oz1:okS z1 okT:=by rw [hz1]; exact bF h0
   repeat' (first|apply And.intro|exact trivial|exact rfl|exact lz fun _=>rfl)
   have g2:hdW z1=w s 4:=by rw [hz1]; rfl
   refine Exists.intro z1 (Exists.intro [0] ?_)
   refine And.intro oz1 ?_
   repeat' (first|apply And.intro|exact trivial|exact rfl|exact lz fun _=>rfl)
   refine fun (z2:Sq B) (hz2:z2=adv z1 1)=>?_
   have hz2:z2=adv s 5:=by rw [hz2,hz1]; exact bL
   have oz2:okS z2 okT:=by rw [hz2]; exact bF h0
   repeat' (first|apply And.intro|exact trivial|exact rfl|exact lz fun _=>rfl)
   have g3:hdW z2=w s 5:=by rw [hz2]; rfl
   refine Exists.intro z2 (Exists.intro [0] ?_)
   refine And.intro oz2 ?_
   repeat' (first|apply And.intro|exact trivial|exact rfl|exact lz fun _=>rfl)
   refine fun (z3:Sq B) (hz3:z3=adv z2 1)=>?_
   have hz3:z3=adv s 6:=by rw [hz3,hz2]; exact bL
   have oz3:okS z3 okT:=by rw [hz3]; exact bF h0
   repeat' (first|apply And.intro|exact trivial|exact rfl|exact lz fun _=>rfl)
   refine Exists.intro z3 (And.intro hz3 ?_)
   repeat' (first|apply And.intro|exact trivial|exact rfl|exact lz fun _=>rfl|exact g0|exact g1|exact congrArg (fun x=>(cH x).n) g2|exact congrArg (fun x=>(cH x).l) g2|exact congrArg (fun x=>(cH x).num) g2|exact congrArg (fun x=>(cH x).den) g2|exact congrArg (fun x=>(ptP x).1) g3|exact congrArg (fun x=>(ptP x).2) g3)
  refine fun (hc6:decide (k=6)=false)=>?_
  repeat' (first|apply And.intro|exact trivial|exact rfl|exact lz fun _=>rfl)
  ·refine fun (hc:decide (k=7)=true)=>?_
   obtain rfl:k=7:=of_decide_eq_true hc
   repeat' (first|apply And.intro|exact trivial|exact rfl|exact lz fun _=>rfl)
   have hy:y=adv s 2:=hy
   have g0:hdW y=w s 2:=by rw [hy]; rfl
   refine Exists.intro y (Exists.intro [0] ?_)
   refine And.intro oy ?_
   repeat' (first|apply And.intro|exact trivial|exact rfl|exact lz fun _=>rfl)
   refine fun (z0:Sq B) (hz0:z0=adv y 1)=>?_
   have hz0:z0=adv s 3:=by rw [hz0,hy]; exact bL
   have oz0:okS z0 okT:=by rw [hz0]; exact bF h0
   repeat' (first|apply And.intro|exact trivial|exact rfl|exact lz fun _=>rfl)
   have g1:hdW z0=w s 3:=by rw [hz0]; rfl
   refine Exists.intro z0 (Exists.intro [0] ?_)
   refine And.intro oz0 ?_
   repeat' (first|apply And.intro|exact trivial|exact rfl|exact lz fun _=>rfl)
   refine fun (z1:Sq B) (hz1:z1=adv z0 1)=>?_
   have hz1:z1=adv s 4:=by rw [hz1,hz0]; exact bL
   have oz1:okS z1 okT:=by rw [hz1]; exact bF h0
   repeat' (first|apply And.intro|exact trivial|exact rfl|exact lz fun _=>rfl)
   refine Exists.intro z1 (And.intro hz1 ?_)
   repeat' (first|apply And.intro|exact trivial|exact rfl|exact lz fun _=>rfl|exact g0|exact g1)
  refine fun (hc7:decide (k=7)=false)=>?_
  repeat' (first|apply And.intro|exact trivial|exact rfl|exact lz fun _=>rfl)
  ·refine fun (hc:decide (k=10)=true)=>?_
   obtain rfl:k=10:=of_decide_eq_true hc
   repeat' (first|apply And.intro|exact trivial|exact rfl|exact lz fun _=>rfl)
   have hy:y=adv s 2:=hy
   have g0:hdW y=w s 2:=by rw [hy]; rfl
   refine Exists.intro y (Exists.intro [0] ?_)
   refine And.intro oy ?_
   repeat' (first|apply And.intro|exact trivial|exact rfl|exact lz fun _=>rfl)
   refine fun (z0:Sq B) (hz0:z0=adv y 1)=>?_
   have hz0:z0=adv s 3:=by rw [hz0,hy]; exact bL
   have oz0:okS z0 okT:=by rw [hz0]; exact bF h0
   repeat' (first|apply And.intro|exact trivial|exact rfl|exact lz fun _=>rfl)
   have g1:hdW z0=w s 3:=by rw [hz0]; rfl
   refine Exists.intro z0 (Exists.intro [0] ?_)
   refine And.intro oz0 ?_
   repeat' (first|apply And.intro|exact trivial|exact rfl|exact lz fun _=>rfl)
   refine fun (z1:Sq B) (hz1:z1=adv z0 1)=>?_
   have hz1:z1=adv s 4:=by rw [hz1,hz0]; exact bL
   have oz1:okS z1 okT:=by rw [hz1]; exact bF h0
   repeat' (first|apply And.intro|exact trivial|exact rfl|exact lz fun _=>rfl)
   refine Exists.intro z1 (And.intro hz1 ?_)
   repeat' (first|apply And.intro|exact trivial|exact rfl|exact lz fun _=>rfl|exact congrArg (fun x=>(cH x).n) g0|exact congrArg (fun x=>(cH x).l) g0|exact congrArg (fun x=>(cH x).num) g0|exact congrArg (fun x=>(cH x).den) g0|exact congrArg (fun x=>(ptP x).1) g1|exact congrArg (fun x=>(ptP x).2) g1)
  refine fun (hc10:decide (k=10)=false)=>?_
  repeat' (first|apply And.intro|exact trivial|exact rfl|exact lz fun _=>rfl)
  ·refine fun (hc:decide (k=13)=true)=>?_
   obtain rfl:k=13:=of_decide_eq_true hc
   repeat' (first|apply And.intro|exact trivial|exact rfl|exact lz fun _=>rfl)
   ·refine fun _=>?_
    repeat' (first|apply And.intro|exact trivial|exact rfl|exact lz fun _=>rfl)
    have hy:y=adv s 1:=hy
    have g0:hdW y=w s 1:=by rw [hy]; rfl
    refine Exists.intro y (Exists.intro [0] ?_)
    refine And.intro oy ?_
    repeat' (first|apply And.intro|exact trivial|exact rfl|exact lz fun _=>rfl)
    refine fun (z0:Sq B) (hz0:z0=adv y 1)=>?_
    have hz0:z0=adv s 2:=by rw [hz0,hy]; exact bL
    have oz0:okS z0 okT:=by rw [hz0]; exact bF h0
    repeat' (first|apply And.intro|exact trivial|exact rfl|exact lz fun _=>rfl)
    have g1:hdW z0=w s 2:=by rw [hz0]; rfl
    refine Exists.intro z0 (Exists.intro [0] ?_)
    refine And.intro oz0 ?_
    repeat' (first|apply And.intro|exact trivial|exact rfl|exact lz fun _=>rfl)
    refine fun (z1:Sq B) (hz1:z1=adv z0 1)=>?_
    have hz1:z1=adv s 3:=by rw [hz1,hz0]; exact bL
    have oz1:okS z1 okT:=by rw [hz1]; exact bF h0
    repeat' (first|apply And.intro|exact trivial|exact rfl|exact lz fun _=>rfl)
    refine Exists.intro z1 (And.intro hz1 ?_)
    repeat' (first|apply And.intro|exact trivial|exact rfl|exact lz fun _=>rfl|exact congrArg aM g0|exact congrArg aM g1)
   ·exact fun (h:decide ((13:Int)=13)=false)=>absurd h (by decide)
  refine fun (hc13:decide (k=13)=false)=>?_
  repeat' (first|apply And.intro|exact trivial|exact rfl|exact lz fun _=>rfl)
  ·refine fun (hc:decide (k=14)=true)=>?_
   obtain rfl:k=14:=of_decide_eq_true hc
   repeat' (first|apply And.intro|exact trivial|exact rfl|exact lz fun _=>rfl)
   have hy:y=adv s 1:=hy
   have g0:hdW y=w s 1:=by rw [hy]; rfl
   refine Exists.intro y (Exists.intro [0] ?_)
   refine And.intro oy ?_
   repeat' (first|apply And.intro|exact trivial|exact rfl|exact lz fun _=>rfl)
   refine fun (z0:Sq B) (hz0:z0=adv y 1)=>?_
   have hz0:z0=adv s 2:=by rw [hz0,hy]; exact bL
   have oz0:okS z0 okT:=by rw [hz0]; exact bF h0
   repeat' (first|apply And.intro|exact trivial|exact rfl|exact lz fun _=>rfl)
   have g1:hdW z0=w s 2:=by rw [hz0]; rfl
   refine Exists.intro z0 (Exists.intro [0] ?_)
   refine And.intro oz0 ?_
   repeat' (first|apply And.intro|exact trivial|exact rfl|exact lz fun _=>rfl)
   refine fun (z1:Sq B) (hz1:z1=adv z0 1)=>?_
   have hz1:z1=adv s 3:=by rw [hz1,hz0]; exact bL
   have oz1:okS z1 okT:=by rw [hz1]; exact bF h0
   repeat' (first|apply And.intro|exact trivial|exact rfl|exact lz fun _=>rfl)
   refine Exists.intro z1 (And.intro hz1 ?_)
   repeat' (first|apply And.intro|exact trivial|exact rfl|exact lz fun _=>rfl|exact congrArg aM g0|exact congrArg aM g1)
  refine fun (hc14:decide (k=14)=false)=>?_
  repeat' (first|apply And.intro|exact trivial|exact rfl|exact lz fun _=>rfl)
  ·refine fun (hc:decide (k=15)=true)=>?_
   obtain rfl:k=15:=of_decide_eq_true hc
   repeat' (first|apply And.intro|exact trivial|exact rfl|exact lz fun _=>rfl)
   have hy:y=adv s 2:=hy
   have g0:hdW y=w s 2:=by rw [hy]; rfl
   refine Exists.intro y (Exists.intro [0] ?_)
   refine And.intro oy ?_
   repeat' (first|apply And.intro|exact trivial|exact rfl|exact lz fun _=>rfl)
   refine fun (z0:Sq B) (hz0:z0=adv y 1)=>?_
   have hz0:z0=adv s 3:=by rw [hz0,hy]; exact bL
   have oz0:okS z0 okT:=by rw [hz0]; exact bF h0
   repeat' (first|apply And.intro|exact trivial|exact rfl|exact lz fun _=>rfl)
   have g1:hdW z0=w s 3:=by rw [hz0]; rfl
   refine Exists.intro z0 (Exists.intro [0] ?_)
   refine And.intro oz0 ?_
   repeat' (first|apply And.intro|exact trivial|exact rfl|exact lz fun _=>rfl)
   refine fun (z1:Sq B) (hz1:z1=adv z0 1)=>?_
   have hz1:z1=adv s 4:=by rw [hz1,hz0]; exact bL
   have oz1:okS z1 okT:=by rw [hz1]; exact bF h0
   repeat' (first|apply And.intro|exact trivial|exact rfl|exact lz fun _=>rfl)
   refine Exists.intro z1 (And.intro hz1 ?_)
   repeat' (first|apply And.intro|exact trivial|exact rfl|exact lz fun _=>rfl|exact congrArg aM g0|exact g1)
  refine fun (hc15:decide (k=15)=false)=>?_
  have n1:=of_decide_eq_false hc1
  have n4:=of_decide_eq_false hc4
  have n6:=of_decide_eq_false hc6
  have n7:=of_decide_eq_false hc7
  have n10:=of_decide_eq_false hc10
  have n13:=of_decide_eq_false hc13
  have n14:=of_decide_eq_false hc14
  have n15:=of_decide_eq_false hc15
  have hz:y=adv s (j0 k):=by rw [hy]; simp [ji,j0,n1,n4,n6,n7,n10,n13,n14,n15]
  have fa:0=(aW k s).a:=by simp [aW,n1,n13,n14]
  have fb:0=(aW k s).b:=by simp [aW,n13,n14]
  have fo:0=(aW k s).off:=by simp [aW,n15]
  have fth:[]=(aW k s).oth:=by simp [aW,n4,n6,n7]
  have ft:[]=(aW k s).txt:=by simp [aW,n6,n7,n15]
  have fn:⟨0,[],0,0⟩=(aW k s).num:=by simp [aW,n6,n10]
  have fp:(0,0)=(aW k s).pt:=by simp [aW,n6,n10]
  have fi:(evI k s).id=(aW k s).id:=rfl
  have fn1:=congrArg Hn.n fn
  have fn2:=congrArg Hn.l fn
  have fn3:=congrArg Hn.num fn
  have fn4:=congrArg Hn.den fn
  have fp1:=congrArg Prod.fst fp
  have fp2:=congrArg Prod.snd fp
  repeat' (first|apply And.intro|exact trivial|exact rfl|exact lz fun _=>rfl)
  refine Exists.intro y (And.intro hz ?_)
  repeat' (first|exact fa|exact fb|exact fo|exact fth|exact ft|exact fn1|exact fn2|exact fn3|exact fn4|exact fp1|exact fp2|exact fi|apply And.intro|exact trivial|exact rfl|exact lz fun _=>rfl)
 refine fun (z:Sq B) (hz:z=adv s (j0 k))=>?_
 have hsn:s.n<=1000000:=h0.1
 repeat' (first|apply And.intro|exact trivial|exact rfl|exact lz fun _=>rfl)
 have:k=3\/k=8\/k=9\/k=10\/(k≠3/\k≠8/\k≠9/\k≠10):=by omega
 rcases this with rfl|rfl|rfl|rfl|⟨n3,n8,n9,n10⟩
 ·refine ⟨⟨Nat×Sq B,fun x=>3 * x.1 < s.n - 2+3/\x.2=adv s (2+3 * x.1),fun _=>[],fun x=>[(0,.cells 69 (.cons (stE x.2) .nil)),(1,.cells 31 (Bq (aW 3 s) .nilsl (.lsl 40 3 x.1) .nilsl .nilsl)),(40,.arr 45 3 x.1 fun j=>nmL ((aW 3 s).names.f j))],fun x=>s.n+3 - 3 * x.1⟩,(0,z),?_,?_,?_⟩
  ·exact ⟨by show 3 * 0 < s.n - 2+3; omega,hz⟩
  ·repeat' (first|apply And.intro|exact trivial|exact rfl|exact lz fun _=>rfl)
  rintro ⟨i,y⟩ ⟨(hi:3 * i < s.n - 2+3),(hy:y=adv s (2+3 * i))⟩
  have oy:okS y okT:=by rw [hy]; exact bF h0
  have hyn:y.n=s.n - (2+3 * i):=by rw [hy]; rfl
  repeat' (first|apply And.intro|exact trivial|exact rfl|exact lz fun _=>rfl)
  ·refine fun (hc:decide ((0:Int) < (y.n:Int))=true)=>?_
   have hpos:0 < y.n:=by have:=of_decide_eq_true hc; omega
   have m1:i+1<=9223372036854775807:=by omega
   have m2:(i+1) * 40<=140737488355328:=by omega
   repeat' (first|apply And.intro|exact trivial|exact rfl|exact lz fun _=>rfl|exact fun (h:decide ((_:Int)=_)=true)=>nof rfl h|exact fun (h:decide ((_:Int)=_)=false)=>jV rfl h|refine fun (_:decide ((_:Int)=_)=true)=>?_|refine fun (_:decide ((_:Int)=_)=false)=>?_)
   refine Exists.intro y (Exists.intro [0] ?_)
   refine And.intro oy ?_
   repeat' (first|apply And.intro|exact trivial|exact rfl|exact lz fun _=>rfl)
   refine fun (z1:Sq B) (hz1:z1=adv y 1)=>?_
   have hz1:z1=adv s (2+3 * i+1):=by rw [hz1,hy,bL]
   have oz1:okS z1 okT:=by rw [hz1]; exact bF h0
   repeat' (first|apply And.intro|exact trivial|exact rfl|exact lz fun _=>rfl|exact fun (h:decide ((_:Int)=_)=true)=>nof rfl h|exact fun (h:decide ((_:Int)=_)=false)=>jV rfl h|refine fun (_:decide ((_:Int)=_)=true)=>?_|refine fun (_:decide ((_:Int)=_)=false)=>?_)
   refine Exists.intro z1 (Exists.intro [0] ?_)
   refine And.intro oz1 ?_
   repeat' (first|apply And.intro|exact trivial|exact rfl|exact lz fun _=>rfl)
   refine fun (z2:Sq B) (hz2:z2=adv z1 1)=>?_
   have hz2:z2=adv s (2+3 * i+2):=by rw [hz2,hz1,bL]
   have oz2:okS z2 okT:=by rw [hz2]; exact bF h0
   repeat' (first|apply And.intro|exact trivial|exact rfl|exact lz fun _=>rfl|exact fun (h:decide ((_:Int)=_)=true)=>nof rfl h|exact fun (h:decide ((_:Int)=_)=false)=>jV rfl h|refine fun (_:decide ((_:Int)=_)=true)=>?_|refine fun (_:decide ((_:Int)=_)=false)=>?_)
   refine Exists.intro z2 (Exists.intro [0] ?_)
   refine And.intro oz2 ?_
   repeat' (first|apply And.intro|exact trivial|exact rfl|exact lz fun _=>rfl)
   refine fun (z3:Sq B) (hz3:z3=adv z2 1)=>?_
   have hz3:z3=adv s (2+3 * i+3):=by rw [hz3,hz2,bL]
   have oz3:okS z3 okT:=by rw [hz3]; exact bF h0
   repeat' (first|apply And.intro|exact trivial|exact rfl|exact lz fun _=>rfl|exact fun (h:decide ((_:Int)=_)=true)=>nof rfl h|exact fun (h:decide ((_:Int)=_)=false)=>jV rfl h|refine fun (_:decide ((_:Int)=_)=true)=>?_|refine fun (_:decide ((_:Int)=_)=false)=>?_)
   ·exact m1
   ·exact m2
   have hz:z3=adv s (2+3 * (i+1)):=by rw [hz3,show 2+3 * i+3=2+3 * (i+1) by omega]
   refine Exists.intro (i+1,z3) (And.intro (And.intro (by show 3 * (i+1) < s.n - 2+3; omega) hz) ?_)
   have ee:(⟨hdW y,aM (hdW z1),hdW z2⟩:Nm)=(aW 3 s).names.f i:=by rw [hy,hz1,hz2]; rfl
   repeat' (first|apply And.intro|exact trivial|exact rfl|exact fun (j:Nat) (hj:j < i+1)=>EL.aY (EL.lE (g:=nmL) (f:=fun j=>(aW 3 s).names.f j) (congrArg nmL ee) hj) (yO ..)|exact lz fun _=>rfl)
   show s.n+3 - 3 * (i+1) < s.n+3 - 3 * i
   omega
  ·refine fun (hc:decide ((0:Int) < (y.n:Int))=false)=>?_
   have hz:y.n=0:=by have:=of_decide_eq_false hc; omega
   have en:i=(aW 3 s).names.n:=by show i=_; first|(show i=s.n - 2; omega)|(show i=(s.n - 2+2) / 3; omega)
   repeat' (first|apply And.intro|exact trivial|exact rfl|exact lz fun _=>rfl|exact fun (h:decide ((_:Int)=_)=true)=>nof rfl h|exact fun (h:decide ((_:Int)=_)=false)=>jV rfl h|refine fun (_:decide ((_:Int)=_)=true)=>?_|refine fun (_:decide ((_:Int)=_)=false)=>?_)
   refine Exists.intro () ?_
   repeat' (first|exact en|apply And.intro|exact trivial|exact rfl|exact lz fun _=>rfl)
   ·exact Nat.le_of_eq (Nat.zero_add _)
   ·exact fun (j:Nat) (_:j < i)=>EL.aY (congrArg (fun j=>nmL ((aW 3 s).names.f j)) (Nat.zero_add j)) (yO _ _ _ _)
 ·refine ⟨⟨Nat×Sq B,fun x=>2 * x.1 < s.n - 2+2/\x.2=adv s (2+2 * x.1),fun _=>[],fun x=>[(0,.cells 69 (.cons (stE x.2) .nil)),(1,.cells 31 (Bq (aW 8 s) .nilsl .nilsl .nilsl (.lsl 40 7 x.1))),(40,.arr 47 7 x.1 fun j=>enL ((aW 8 s).list.f j))],fun x=>s.n+2 - 2 * x.1⟩,(0,z),?_,?_,?_⟩
  ·exact ⟨by show 2 * 0 < s.n - 2+2; omega,hz⟩
  ·repeat' (first|apply And.intro|exact trivial|exact rfl|exact lz fun _=>rfl)
  rintro ⟨i,y⟩ ⟨(hi:2 * i < s.n - 2+2),(hy:y=adv s (2+2 * i))⟩
  have oy:okS y okT:=by rw [hy]; exact bF h0
  have hyn:y.n=s.n - (2+2 * i):=by rw [hy]; rfl
  repeat' (first|apply And.intro|exact trivial|exact rfl|exact lz fun _=>rfl)
  ·refine fun (hc:decide ((0:Int) < (y.n:Int))=true)=>?_
   have hpos:0 < y.n:=by have:=of_decide_eq_true hc; omega
   have m1:i+1<=9223372036854775807:=by omega
   have m2:(i+1) * 72<=140737488355328:=by omega
   repeat' (first|apply And.intro|exact trivial|exact rfl|exact lz fun _=>rfl|exact fun (h:decide ((_:Int)=_)=true)=>nof rfl h|exact fun (h:decide ((_:Int)=_)=false)=>jV rfl h|refine fun (_:decide ((_:Int)=_)=true)=>?_|refine fun (_:decide ((_:Int)=_)=false)=>?_)
   refine Exists.intro y (Exists.intro [0] ?_)
   refine And.intro oy ?_
   repeat' (first|apply And.intro|exact trivial|exact rfl|exact lz fun _=>rfl)
   refine fun (z1:Sq B) (hz1:z1=adv y 1)=>?_
   have hz1:z1=adv s (2+2 * i+1):=by rw [hz1,hy,bL]
   have oz1:okS z1 okT:=by rw [hz1]; exact bF h0
   repeat' (first|apply And.intro|exact trivial|exact rfl|exact lz fun _=>rfl|exact fun (h:decide ((_:Int)=_)=true)=>nof rfl h|exact fun (h:decide ((_:Int)=_)=false)=>jV rfl h|refine fun (_:decide ((_:Int)=_)=true)=>?_|refine fun (_:decide ((_:Int)=_)=false)=>?_)
   refine Exists.intro z1 (Exists.intro [0] ?_)
   refine And.intro oz1 ?_
   repeat' (first|apply And.intro|exact trivial|exact rfl|exact lz fun _=>rfl)
   refine fun (z2:Sq B) (hz2:z2=adv z1 1)=>?_
   have hz2:z2=adv s (2+2 * i+2):=by rw [hz2,hz1,bL]
   have oz2:okS z2 okT:=by rw [hz2]; exact bF h0
   repeat' (first|apply And.intro|exact trivial|exact rfl|exact lz fun _=>rfl|exact fun (h:decide ((_:Int)=_)=true)=>nof rfl h|exact fun (h:decide ((_:Int)=_)=false)=>jV rfl h|refine fun (_:decide ((_:Int)=_)=true)=>?_|refine fun (_:decide ((_:Int)=_)=false)=>?_)
   ·exact m1
   ·exact m2
   have hz:z2=adv s (2+2 * (i+1)):=by rw [hz2,show 2+2 * i+2=2+2 * (i+1) by omega]
   refine Exists.intro (i+1,z2) (And.intro (And.intro (by show 2 * (i+1) < s.n - 2+2; omega) hz) ?_)
   have ee:(⟨hdW y,cH (hdW z1),(0,0)⟩:En)=(aW 8 s).list.f i:=by rw [hy,hz1]; rfl
   repeat' (first|apply And.intro|exact trivial|exact rfl|exact fun (j:Nat) (hj:j < i+1)=>EL.aY (EL.lE (g:=enL) (f:=fun j=>(aW 8 s).list.f j) (congrArg enL ee) hj) (yM ..)|exact lz fun _=>rfl)
   show s.n+2 - 2 * (i+1) < s.n+2 - 2 * i
   omega
  ·refine fun (hc:decide ((0:Int) < (y.n:Int))=false)=>?_
   have hz:y.n=0:=by have:=of_decide_eq_false hc; omega
   have en:i=(aW 8 s).list.n:=by show i=_; first|(show i=s.n - 2; omega)|(show i=(s.n - 2+1) / 2; omega)
   repeat' (first|apply And.intro|exact trivial|exact rfl|exact lz fun _=>rfl|exact fun (h:decide ((_:Int)=_)=true)=>nof rfl h|exact fun (h:decide ((_:Int)=_)=false)=>jV rfl h|refine fun (_:decide ((_:Int)=_)=true)=>?_|refine fun (_:decide ((_:Int)=_)=false)=>?_)
   refine Exists.intro () ?_
   repeat' (first|exact en|apply And.intro|exact trivial|exact rfl|exact lz fun _=>rfl)
   ·exact Nat.le_of_eq (Nat.zero_add _)
   ·exact fun (j:Nat) (_:j < i)=>EL.aY (congrArg (fun j=>enL ((aW 8 s).list.f j)) (Nat.zero_add j)) (yM _ _ _ _)
 ·refine ⟨⟨Nat×Sq B,fun x=>3 * x.1 < s.n - 2+3/\x.2=adv s (2+3 * x.1),fun _=>[],fun x=>[(0,.cells 69 (.cons (stE x.2) .nil)),(1,.cells 31 (Bq (aW 9 s) .nilsl .nilsl .nilsl (.lsl 40 7 x.1))),(40,.arr 47 7 x.1 fun j=>enL ((aW 9 s).list.f j))],fun x=>s.n+3 - 3 * x.1⟩,(0,z),?_,?_,?_⟩
  ·exact ⟨by show 3 * 0 < s.n - 2+3; omega,hz⟩
  ·repeat' (first|apply And.intro|exact trivial|exact rfl|exact lz fun _=>rfl)
  rintro ⟨i,y⟩ ⟨(hi:3 * i < s.n - 2+3),(hy:y=adv s (2+3 * i))⟩
  have oy:okS y okT:=by rw [hy]; exact bF h0
  have hyn:y.n=s.n - (2+3 * i):=by rw [hy]; rfl
  repeat' (first|apply And.intro|exact trivial|exact rfl|exact lz fun _=>rfl)
  ·refine fun (hc:decide ((0:Int) < (y.n:Int))=true)=>?_
   have hpos:0 < y.n:=by have:=of_decide_eq_true hc; omega
   have m1:i+1<=9223372036854775807:=by omega
   have m2:(i+1) * 72<=140737488355328:=by omega
   repeat' (first|apply And.intro|exact trivial|exact rfl|exact lz fun _=>rfl|exact fun (h:decide ((_:Int)=_)=true)=>nof rfl h|exact fun (h:decide ((_:Int)=_)=false)=>jV rfl h|refine fun (_:decide ((_:Int)=_)=true)=>?_|refine fun (_:decide ((_:Int)=_)=false)=>?_)
   refine Exists.intro y (Exists.intro [0] ?_)
   refine And.intro oy ?_
   repeat' (first|apply And.intro|exact trivial|exact rfl|exact lz fun _=>rfl)
   refine fun (z1:Sq B) (hz1:z1=adv y 1)=>?_
   have hz1:z1=adv s (2+3 * i+1):=by rw [hz1,hy,bL]
   have oz1:okS z1 okT:=by rw [hz1]; exact bF h0
   repeat' (first|apply And.intro|exact trivial|exact rfl|exact lz fun _=>rfl|exact fun (h:decide ((_:Int)=_)=true)=>nof rfl h|exact fun (h:decide ((_:Int)=_)=false)=>jV rfl h|refine fun (_:decide ((_:Int)=_)=true)=>?_|refine fun (_:decide ((_:Int)=_)=false)=>?_)
   refine Exists.intro z1 (Exists.intro [0] ?_)
   refine And.intro oz1 ?_
   repeat' (first|apply And.intro|exact trivial|exact rfl|exact lz fun _=>rfl)
   refine fun (z2:Sq B) (hz2:z2=adv z1 1)=>?_
   have hz2:z2=adv s (2+3 * i+2):=by rw [hz2,hz1,bL]
   have oz2:okS z2 okT:=by rw [hz2]; exact bF h0
   repeat' (first|apply And.intro|exact trivial|exact rfl|exact lz fun _=>rfl|exact fun (h:decide ((_:Int)=_)=true)=>nof rfl h|exact fun (h:decide ((_:Int)=_)=false)=>jV rfl h|refine fun (_:decide ((_:Int)=_)=true)=>?_|refine fun (_:decide ((_:Int)=_)=false)=>?_)
   refine Exists.intro z2 (Exists.intro [0] ?_)
   refine And.intro oz2 ?_
   repeat' (first|apply And.intro|exact trivial|exact rfl|exact lz fun _=>rfl)
   refine fun (z3:Sq B) (hz3:z3=adv z2 1)=>?_
   have hz3:z3=adv s (2+3 * i+3):=by rw [hz3,hz2,bL]
   have oz3:okS z3 okT:=by rw [hz3]; exact bF h0
   repeat' (first|apply And.intro|exact trivial|exact rfl|exact lz fun _=>rfl|exact fun (h:decide ((_:Int)=_)=true)=>nof rfl h|exact fun (h:decide ((_:Int)=_)=false)=>jV rfl h|refine fun (_:decide ((_:Int)=_)=true)=>?_|refine fun (_:decide ((_:Int)=_)=false)=>?_)
   ·exact m1
   ·exact m2
   have hz:z3=adv s (2+3 * (i+1)):=by rw [hz3,show 2+3 * i+3=2+3 * (i+1) by omega]
   refine Exists.intro (i+1,z3) (And.intro (And.intro (by show 3 * (i+1) < s.n - 2+3; omega) hz) ?_)
   have ee:(⟨hdW y,cH (hdW z1),ptP (hdW z2)⟩:En)=(aW 9 s).list.f i:=by rw [hy,hz1,hz2]; rfl
   repeat' (first|apply And.intro|exact trivial|exact rfl|exact fun (j:Nat) (hj:j < i+1)=>EL.aY (EL.lE (g:=enL) (f:=fun j=>(aW 9 s).list.f j) (congrArg enL ee) hj) (yM ..)|exact lz fun _=>rfl)
   show s.n+3 - 3 * (i+1) < s.n+3 - 3 * i
   omega
  ·refine fun (hc:decide ((0:Int) < (y.n:Int))=false)=>?_
   have hz:y.n=0:=by have:=of_decide_eq_false hc; omega
   have en:i=(aW 9 s).list.n:=by show i=_; first|(show i=s.n - 2; omega)|(show i=(s.n - 2+2) / 3; omega)
   repeat' (first|apply And.intro|exact trivial|exact rfl|exact lz fun _=>rfl|exact fun (h:decide ((_:Int)=_)=true)=>nof rfl h|exact fun (h:decide ((_:Int)=_)=false)=>jV rfl h|refine fun (_:decide ((_:Int)=_)=true)=>?_|refine fun (_:decide ((_:Int)=_)=false)=>?_)
   refine Exists.intro () ?_
   repeat' (first|exact en|apply And.intro|exact trivial|exact rfl|exact lz fun _=>rfl)
   ·exact Nat.le_of_eq (Nat.zero_add _)
   ·exact fun (j:Nat) (_:j < i)=>EL.aY (congrArg (fun j=>enL ((aW 9 s).list.f j)) (Nat.zero_add j)) (yM _ _ _ _)
 ·refine ⟨⟨Nat×Sq B,fun x=>x.1 < s.n - 4+1/\x.2=adv s (4+x.1),fun _=>[],fun x=>[(0,.cells 69 (.cons (stE x.2) .nil)),(1,.cells 31 (Bq (aW 10 s) (.lsl 40 1 x.1) .nilsl .nilsl .nilsl)),(40,.arr 9 1 x.1 fun j=>stL ((aW 10 s).ids.f j))],fun x=>s.n+1 - x.1⟩,(0,z),?_,?_,?_⟩
  ·exact ⟨by show 0 < s.n - 4+1; omega,hz⟩
  ·repeat' (first|apply And.intro|exact trivial|exact rfl|exact lz fun _=>rfl)
  rintro ⟨i,y⟩ ⟨(hi:i < s.n - 4+1),(hy:y=adv s (4+i))⟩
  have oy:okS y okT:=by rw [hy]; exact bF h0
  have hyn:y.n=s.n - (4+i):=by rw [hy]; rfl
  repeat' (first|apply And.intro|exact trivial|exact rfl|exact lz fun _=>rfl)
  ·refine fun (hc:decide ((0:Int) < (y.n:Int))=true)=>?_
   have hpos:0 < y.n:=by have:=of_decide_eq_true hc; omega
   have m1:i+1<=9223372036854775807:=by omega
   have m2:(i+1) * 16<=140737488355328:=by omega
   repeat' (first|apply And.intro|exact trivial|exact rfl|exact lz fun _=>rfl|exact fun (h:decide ((_:Int)=_)=true)=>nof rfl h|exact fun (h:decide ((_:Int)=_)=false)=>jV rfl h|refine fun (_:decide ((_:Int)=_)=true)=>?_|refine fun (_:decide ((_:Int)=_)=false)=>?_)
   refine Exists.intro y (Exists.intro [0] ?_)
   refine And.intro oy ?_
   repeat' (first|apply And.intro|exact trivial|exact rfl|exact lz fun _=>rfl)
   refine fun (z1:Sq B) (hz1:z1=adv y 1)=>?_
   have hz1:z1=adv s (4+i+1):=by rw [hz1,hy,bL]
   have oz1:okS z1 okT:=by rw [hz1]; exact bF h0
   repeat' (first|apply And.intro|exact trivial|exact rfl|exact lz fun _=>rfl|exact fun (h:decide ((_:Int)=_)=true)=>nof rfl h|exact fun (h:decide ((_:Int)=_)=false)=>jV rfl h|refine fun (_:decide ((_:Int)=_)=true)=>?_|refine fun (_:decide ((_:Int)=_)=false)=>?_)
   ·exact m1
   ·exact m2
   have hz:z1=adv s (4+(i+1)):=by rw [hz1,show 4+i+1=4+(i+1) by omega]
   refine Exists.intro (i+1,z1) (And.intro (And.intro (by show (i+1) < s.n - 4+1; omega) hz) ?_)
   have ee:(hdW y:B)=(aW 10 s).ids.f i:=by rw [hy]; rfl
   repeat' (first|apply And.intro|exact trivial|exact rfl|exact fun (j:Nat) (hj:j < i+1)=>EL.aY (EL.lE (g:=stL) (f:=fun j=>(aW 10 s).ids.f j) (congrArg stL ee) hj) (fD ..)|exact lz fun _=>rfl)
   show s.n+1 - (i+1) < s.n+1 - i
   omega
  ·refine fun (hc:decide ((0:Int) < (y.n:Int))=false)=>?_
   have hz:y.n=0:=by have:=of_decide_eq_false hc; omega
   have en:i=(aW 10 s).ids.n:=by show i=_; first|(show i=s.n - 4; omega)|(show i=(s.n - 4+0) / 1; omega)
   repeat' (first|apply And.intro|exact trivial|exact rfl|exact lz fun _=>rfl|exact fun (h:decide ((_:Int)=_)=true)=>nof rfl h|exact fun (h:decide ((_:Int)=_)=false)=>jV rfl h|refine fun (_:decide ((_:Int)=_)=true)=>?_|refine fun (_:decide ((_:Int)=_)=false)=>?_)
   refine Exists.intro () ?_
   repeat' (first|exact en|apply And.intro|exact trivial|exact rfl|exact lz fun _=>rfl)
   ·exact Nat.le_of_eq (Nat.zero_add _)
   ·exact fun (j:Nat) (_:j < i)=>EL.aY (congrArg (fun j=>stL ((aW 10 s).ids.f j)) (Nat.zero_add j)) (fD _ _ _ _)
 ·refine ⟨⟨Nat×Sq B,fun x=>x.1 < s.n - j0 k+1/\x.2=adv s (j0 k+x.1),fun _=>[],fun x=>[(0,.cells 69 (.cons (stE x.2) .nil)),(1,.cells 31 (Bq (aW k s) .nilsl .nilsl (.lsl 40 2 x.1) .nilsl)),(40,.arr 27 2 x.1 fun j=>ptL ((aW k s).path.p j))],fun x=>s.n+1 - x.1⟩,(0,z),?_,?_,?_⟩
  ·exact ⟨by show 0 < s.n - j0 k+1; omega,hz⟩
  ·repeat' (first|apply And.intro|exact trivial|exact rfl|exact lz fun _=>rfl)
  rintro ⟨i,y⟩ ⟨(hi:i < s.n - j0 k+1),(hy:y=adv s (j0 k+i))⟩
  have oy:okS y okT:=by rw [hy]; exact bF h0
  have hyn:y.n=s.n - (j0 k+i):=by rw [hy]; rfl
  repeat' (first|apply And.intro|exact trivial|exact rfl|exact lz fun _=>rfl)
  ·refine fun (hc:decide ((0:Int) < (y.n:Int))=true)=>?_
   have hpos:0 < y.n:=by have:=of_decide_eq_true hc; omega
   have m1:i+1<=9223372036854775807:=by omega
   have m2:(i+1) * 16<=140737488355328:=by omega
   repeat' (first|apply And.intro|exact trivial|exact rfl|exact lz fun _=>rfl|exact fun (h:decide (k=3)=true)=>absurd (of_decide_eq_true h) n3|exact fun (h:decide (k=8)=true)=>absurd (of_decide_eq_true h) n8|exact fun (h:decide (k=9)=true)=>absurd (of_decide_eq_true h) n9|exact fun (h:decide (k=10)=true)=>absurd (of_decide_eq_true h) n10|refine fun (_:decide ((_:Int)=_)=false)=>?_)
   refine Exists.intro y (Exists.intro [0] ?_)
   refine And.intro oy ?_
   repeat' (first|apply And.intro|exact trivial|exact rfl|exact lz fun _=>rfl)
   refine fun (z1:Sq B) (hz1:z1=adv y 1)=>?_
   have hz1:z1=adv s (j0 k+i+1):=by rw [hz1,hy,bL]
   have oz1:okS z1 okT:=by rw [hz1]; exact bF h0
   repeat' (first|apply And.intro|exact trivial|exact rfl|exact lz fun _=>rfl|exact fun (h:decide (k=3)=true)=>absurd (of_decide_eq_true h) n3|exact fun (h:decide (k=8)=true)=>absurd (of_decide_eq_true h) n8|exact fun (h:decide (k=9)=true)=>absurd (of_decide_eq_true h) n9|exact fun (h:decide (k=10)=true)=>absurd (of_decide_eq_true h) n10|refine fun (_:decide ((_:Int)=_)=false)=>?_)
   ·exact m1
   ·exact m2
   have hz:z1=adv s (j0 k+(i+1)):=by rw [hz1,show j0 k+i+1=j0 k+(i+1) by omega]
   refine Exists.intro (i+1,z1) (And.intro (And.intro (by show (i+1) < s.n - j0 k+1; omega) hz) ?_)
   have ee:(ptP (hdW y):Pt)=(aW k s).path.p i:=by rw [hy]; rfl
   repeat' (first|apply And.intro|exact trivial|exact rfl|exact fun (j:Nat) (hj:j < i+1)=>EL.aY (EL.lE (g:=ptL) (f:=fun j=>(aW k s).path.p j) (congrArg ptL ee) hj) (aL ..)|exact lz fun _=>rfl)
   show s.n+1 - (i+1) < s.n+1 - i
   omega
  ·refine fun (hc:decide ((0:Int) < (y.n:Int))=false)=>?_
   have hz:y.n=0:=by have:=of_decide_eq_false hc; omega
   have en:i=(aW k s).path.n:=by show i=if k=3\/k=8\/k=9\/k=10 then 0 else s.n - j0 k; rw [if_neg (by omega)]; omega
   have z1:(aW k s).ids.n=0:=if_neg n10
   have z2:(aW k s).names.n=0:=if_neg n3
   have z3:(aW k s).list.n=0:=by show (if k=8 then _ else if k=9 then _ else 0)=0; rw [if_neg n8,if_neg n9]
   repeat' (first|apply And.intro|exact trivial|exact rfl|exact lz fun _=>rfl|exact fun (h:decide (k=3)=true)=>absurd (of_decide_eq_true h) n3|exact fun (h:decide (k=8)=true)=>absurd (of_decide_eq_true h) n8|exact fun (h:decide (k=9)=true)=>absurd (of_decide_eq_true h) n9|exact fun (h:decide (k=10)=true)=>absurd (of_decide_eq_true h) n10|refine fun (_:decide ((_:Int)=_)=false)=>?_)
   refine Exists.intro () ?_
   repeat' (first|exact en|exact z1|exact z2|exact z3|apply And.intro|exact trivial|exact rfl|exact lz fun _=>rfl)
   ·exact Nat.le_of_eq (Nat.zero_add _)
   ·exact fun (j:Nat) (_:j < i)=>EL.aY (congrArg (fun j=>ptL ((aW k s).path.p j)) (Nat.zero_add j)) (aL _ _ _ _)
theorem Qw:B6.Ok Tryz.prog 41:=by
 refine Eng.bJ.okR e41 q41 (fun _=>tab41) (fun _ _=>K5) ?_
 rintro ⟨k,s⟩ ⟨⟨(h1:0<=k),(h2:k<=15)⟩,(h0:okS s okT)⟩
 exact ⟨trivial,Qv h1 h2 h0⟩
end F18g
end
section
open Go Go.Eng Go.Proofs G1 G2 G3 G4 G6 G7 EV0 N1 N2 F1 F7 F9 F16 F17 F18 F18g
set_option maxRecDepth 100000
namespace F19
theorem Wr {s:Sq B} (h:okS s okT) (j:Nat):okT (w s j):=xA (bF h)
theorem Vh (t:B):(cH t).l.length<=t.length:=by
 unfold cH
 split
 ·show ((fr t).drop (dg t).length).length<=_
  have:=(kP t [32]).1
  rw [List.length_drop]
  unfold fr
  omega
 ·exact Nat.zero_le _
theorem xX {t:B} (h:okT t):okH (cH t):=by
 have:=Vh t
 have h:t.length<=1000000:=h
 show (cH t).l.length<=1000000
 omega
theorem wV {s:Sq B} (h:okS s okT) (k:Int):okV (aW k s):=by
 have hn:s.n<=1000000:=h.1
 have hw:=Wr h
 have e:okT []:=Nat.zero_le _
 unfold aW
 constructor
 ·dsimp only; split <;> first|exact e|exact hw _
 ·dsimp only; split <;> first|exact e|exact hw _
 ·dsimp only; split <;> first|exact e|exact hw _
 ·refine ⟨?_,fun i _=>hw _⟩
  dsimp only; split <;> omega
 ·refine ⟨?_,fun i _=>⟨hw _,hw _⟩⟩
  dsimp only; split <;> omega
 ·dsimp only
  split
  ·exact xX (hw _)
  ·split
   ·exact xX (hw _)
   ·exact Nat.zero_le _
 ·dsimp only; split <;> omega
 ·refine ⟨?_,fun i _=>?_⟩
  ·dsimp only; repeat' split
   all_goals omega
  ·dsimp only; split <;> exact ⟨hw _,xX (hw _)⟩
end F19
end
section
open Go Go.Eng Go.Proofs G1 G2 G3 G4 G6 G7 EV0 N1 N2 F1 F7 F9 F10 F11 F13 F13g F16 F17 F18 F19
set_option maxRecDepth 100000
namespace F20
def wsq (t:B):Sq B:=⟨(pwV t).length,fun i=>(pwV t).getD i []⟩
def wr1:List B:=[[97,114,101,97],[115,116,114,101,101,116],[110,97,109,101],[101,120,99,104,97,110,103,101],[98,117,105,108,100],[100,111,111,114],[117,110,105,116],[114,101,110,117,109,98,101,114],[115,112,108,105,116],[106,111,105,110],[100,101,109,111,108,105,115,104],[99,108,111,115,101],[109,101,114,103,101],[114,117,108,105,110,103],[115,104,101,108,116,101,114]]
def kdV (v:B):Int:=ixV (bQ wr1) v+1
def cdV (t:B):Ev:=aW (kdV (hdW (wsq t))) (adv (wsq t) 1)
def ev00:Ev:=⟨0,0,0,0,0,[],[],[],⟨0,fun _=>[]⟩,⟨0,fun _=>⟨[],0,[]⟩⟩,⟨0,[],0,0⟩,(0,0),⟨0,fun _=>(0,0)⟩,⟨0,fun _=>⟨[],⟨0,[],0,0⟩,(0,0)⟩⟩⟩
def dN (t:B):Bool:=aS (cdV t) && decide (cB (cdV t)=t)
def fA (t:B):Ev:=if dN t=true then cdV t else ev00
def Wh (k:Int):SV:=.cons (.int .i64 k) (.cons (.int .i64 0) (.cons (.int .i64 0) (.cons (.int .i64 0) (.cons (.int .i64 0) (.cons (.str []) (.cons (.str []) (.cons (.str []) (.cons .nilsl (.cons .nilsl (.cons (.int .i64 0) (.cons (.str []) (.cons (.int .i64 0) (.cons (.int .i64 0) (.cons (.int .i64 0) (.cons (.int .i64 0) (.cons .nilsl (.cons .nilsl .nil)))))))))))))))))
def Fv:Eng.Spec where
 X:=B
 args:=fun t=>.cons (.str t) .nil
 pre:=okT
 res:=fun t=>.tup (.cons (evE (fA t)) (.cons (.int .i64 (if dN t=true then 0 else 5)) .nil))
 inst:=EV0.one yK
 fresh:=false
theorem R7:∀ {m:Nat} {t:B},okT t->∀ x∈pcs m t,okT x:=by
 intro m
 induction m with
 | zero=>intro t _ x hx; cases hx
 | succ m ih =>
  intro t h x hx
  rw [lW] at hx
  split at hx
  ·cases hx
  ·rename_i hne
   rcases List.mem_cons.1 hx with rfl|hx
   ·have h:t.length<=1000000:=h
    have:=(kP (tq t) (stp t)).1
    have h2:(tq t).length<=t.length:=by unfold tq; split <;> simp
    show (Lib.cut (tq t) (stp t)).1.length<=1000000
    omega
   ·have h:t.length<=1000000:=h
    have:=yB hne
    exact ih (by show (rst t).length<=1000000; omega) x hx
theorem D1 {t:B} (h:okT t):okS (wsq t) okT:=by
 refine ⟨?_,fun i hi=>?_⟩
 ·have h:t.length<=1000000:=h
  have:(pwV t).length<=t.length:=E3
  show (pwV t).length<=1000000
  omega
 ·have hi:i < (pwV t).length:=hi
  show okT ((pwV t).getD i [])
  rw [List.getD_eq_getElem?_getD,List.getElem?_eq_getElem hi]
  exact R7 h _ (List.getElem_mem hi)
theorem I2 {f:Nat->Bool} {n:Nat} (h:orB f n=true):bS f n < (n:Int):=by
 induction n with
 | zero=>cases h
 | succ n ih =>
  simp only [bS]
  cases ho:orB f n with
  | true =>
   have:=ih ho
   split
   ·omega
   ·split <;> omega
  | false =>
   rw [dA ho]
   split
   ·omega
   ·split <;> omega
theorem O9 (v:B):0<=kdV v/\kdV v<=15:=by
 have h:-1<=ixV (bQ wr1) v/\ixV (bQ wr1) v<=((bQ wr1).n:Int):=I1
 have e:(bQ wr1).n=15:=rfl
 have h2:ixV (bQ wr1) v < 15\/ixV (bQ wr1) v=-1:=by
  cases ho:orB (fun i=>decide (v=(bQ wr1).f i)) (bQ wr1).n with
  | false=>exact .inr (dA ho)
  | true =>
   left
   have:ixV (bQ wr1) v < ((bQ wr1).n:Int):=I2 ho
   omega
 unfold kdV
 omega
theorem Qr {t:B} {E:Ev} (hE:cdV t=E) (hc:(!decide ((if aS E=true then (0:Int) else 1)=0) || !decide (cB E=t))=true):dN t=false:=by
 unfold dN
 rw [hE]
 cases hf:aS E with
 | false=>rfl
 | true =>
  rw [hf] at hc
  by_cases h:cB E=t
  ·rw [decide_eq_true h] at hc
   exact absurd hc (by decide)
  ·rw [decide_eq_false h]; rfl
theorem Mp {t:B} {E:Ev} (hE:cdV t=E) (hc:(!decide ((if aS E=true then (0:Int) else 1)=0) || !decide (cB E=t))=false):dN t=true:=by
 unfold dN
 rw [hE]
 cases hf:aS E with
 | false=>rw [hf] at hc; exact absurd hc (by cases decide (cB E=t) <;> decide)
 | true =>
  rw [hf] at hc
  by_cases h:cB E=t
  ·rw [decide_eq_true h]; rfl
  ·rw [decide_eq_false h] at hc
   exact absurd hc (by decide)
end F20
end
section
namespace Go.Eng
open Go Go.RowKit
theorem via {P:Program} {f:Nat} {S S':Spec} (h:S.Ok P f) (hf:S'.fresh=S.fresh) (hx:∀ x',S'.pre x'->∃ x,S.pre x/\(∀ E vs,R E (S'.args x') vs->R E (S.args x) vs)/\(∀ E vs,R E (S.res x) vs->R E (S'.res x') vs)):S'.Ok P f:=by
 refine ⟨h.call,?_⟩
 intro x' w vs U hU hg hp hR
 obtain ⟨x,p,ha,hr⟩:=hx x' hp
 refine (h.does x w vs U hU hg p (ha _ _ hR)).mono ?_
 intro e w' he
 cases e with
 | returned v=>exact ⟨by rw [hf]; exact hr _ _ he.1,he.2⟩
 | panicked c=>exact he
 | outgrown=>exact he
def bJ.ren (S:bJ) (Y:Type) (post:S.X->Y->Prop) (res:S.X->Y->SV) (h1:S.X->Y->List (Nat×aE)):bJ :=
 { X:=S.X,Y:=Y,args:=S.args,pre:=S.pre,h0:=S.h0,nx0:=S.nx0,post:=post,res:=res,h1:=h1,nx1:=S.nx1,fresh:=S.fresh }
theorem bJ.Dh {P:Program} {f:Nat} {S:bJ} (h:S.Ok P f) {Y:Type} {post:S.X->Y->Prop} {res:S.X->Y->SV} {h1:S.X->Y->List (Nat×aE)}
  (hy:∀ x y,S.pre x->S.post x y->∃ y',post x y'/\S.res x y=res x y'/\S.h1 x y=h1 x y'):(S.ren Y post res h1).Ok P f:=by
 refine ⟨h.call,?_⟩
 intro x w μ vs T U hU hg hh hp hR
 refine (h.does x w μ vs T U hU hg hh hp hR).mono ?_
 intro e w' he
 cases e with
 | returned v =>
  obtain ⟨y,μ',p,k1,k2⟩:=he
  obtain ⟨y',p',e1,e2⟩:=hy x y hp p
  rw [e2] at k1 k2
  rw [e1] at k2
  exact ⟨y',μ',p',k1,k2⟩
 | panicked c=>exact he
 | outgrown=>exact he
def Spec.mof (S:Spec) (Y:Type) (post:S.X->Y->Prop) (res:S.X->Y->SV):bJ :=
 { X:=S.X,Y:=Y,args:=S.args,pre:=S.pre,h0:=fun _=>[],nx0:=0,post:=post,res:=res,h1:=fun _ _=>[],nx1:=0,fresh:=S.fresh }
theorem Spec.tJ {P:Program} {f:Nat} {S:Spec} (h:S.Ok P f) {Y:Type} {post:S.X->Y->Prop} {res:S.X->Y->SV} (hy:∀ x,S.pre x->∃ y,post x y/\S.res x=res x y):(S.mof Y post res).Ok P f:=by
 refine ⟨h.call,?_⟩
 intro x w μ vs T U hU hg hh hp hR
 replace hh:aN (dK w T U μ 0) μ [] 0 w:=hh
 replace hR:R (aB (dK w T U μ 0) μ [] w) (S.args x) vs:=hR
 have hno:∀ id p,μ id≠some p:=by
  intro id p e
  by_cases hn:id < FB
  ·exact absurd (hh.nx _ _ e hn) (Nat.not_lt_zero _)
  ·obtain ⟨o,ho⟩:=hh.fam _ _ e (Nat.not_lt.1 hn)
   rw [fY] at ho
   cases ho
 have hU':∀ b,(aB (dK w T U μ 0) μ [] w).U b->b < w.heap.size/\Plain w b:=fun b hb=>⟨hb.1,hb.2.2.2⟩
 have hR':R (fG (aB (dK w T U μ 0) μ [] w).U w) (S.args x) vs :=
  cL (E:=aB (dK w T U μ 0) μ [] w) (E':=fG (aB (dK w T U μ 0) μ [] w).U w) ⟨⟨fun _ hb=>hb,fun _ _=>rfl⟩,fun id p e=>absurd e (hno id p)⟩ hR
 obtain ⟨y,py,ey⟩:=hy x hp
 refine (h.does x w vs _ hU' hg.gok hp hR').mono ?_
 intro e w' he
 cases e with
 | returned v =>
  obtain ⟨k1,k2⟩:=he
  rw [ey] at k1
  refine ⟨y,μ,py,?_,?_⟩
  ·refine ⟨⟨fun id o e=>(by cases e),fun id o e=>?_⟩,fun i i' o o' b c c' e=>?_,fun i o b c e=>?_,fun i o e=>(by cases e),hh.nx,hh.fam,fun _ _ e=>e,⟨k2.os,k2.tape,k2.output,k2.size,fun b hb _=>k2.block b hb,k2.drawn⟩⟩
   ·change hget [] id=some o at e
    rw [fY] at e; cases e
   ·change hget [] i=some o at e
    rw [fY] at e; cases e
   ·change hget [] i=some o at e
    rw [fY] at e; cases e
  ·refine cL (E:=fG (Di S.fresh (aB (dK w T U μ 0) μ [] w).U w w') w') (E':=aB (dK w T (Ufresh S.fresh U) μ 0) μ [] w') ⟨⟨?_,fun _ _=>rfl⟩,fun id p e=>(by cases e)⟩ k1
   intro b hb
   rcases hb with ⟨hf,hb⟩|⟨hb1,hb2,hb3⟩
   ·refine ⟨Nat.lt_of_lt_of_le hb.1 k2.size,?_,fun id o c e=>(by change hget [] id=some o at e; rw [fY] at e; cases e),fun ds e=>hb.2.2.2 ds ((k2.block b hb.1).symm.trans e)⟩
    rcases hb.2.1 with h1|h1|h1
    ·exact .inl ⟨hf,h1⟩
    ·exact .inr (.inl h1)
    ·exact .inr (.inr h1)
   ·exact ⟨hb2,.inr (.inr hb1),fun id o c e=>(by change hget [] id=some o at e; rw [fY] at e; cases e),hb3⟩
 | panicked c=>exact he
 | outgrown=>exact he
end Go.Eng
end
section
open Go Go.Eng Go.Proofs G1 G2 G3 G4 G6 G7 EV0 N1 N2 F1 F7 F9 F10 F11 F13 F14 F13g F16 F17 F18 F19 F20 F21 F22 F23 RT3
set_option maxRecDepth 100000
namespace F25
theorem aQ {T:Type} {s t:Sq T} (h1:s.n=0) (h2:t.n=0):SqE s t:=⟨h1.trans h2.symm,fun i hi=>absurd hi (by omega)⟩
theorem eE {s t:Pts} (h1:s.n=0) (h2:t.n=0):PtE s t:=⟨h1.trans h2.symm,fun i hi=>absurd hi (by omega)⟩
def Ii:Nat->Nat->B
 | 0,_=>[]
 | f+1,u=>if u < 10 then [UInt8.ofNat (48+u)] else Ii f (u / 10)++[UInt8.ofNat (48+u % 10)]
theorem Oy:∀ (f u:Nat),u < f->Lib.decDigits u=Ii f u:=by
 intro f
 induction f with
 | zero=>intro u h; omega
 | succ f ih =>
  intro u h
  simp only [Ii]
  split
  ·rename_i h10; exact Lib.decDigits_one h10
  ·rename_i h10; rw [Lib.decDigits,dif_neg h10,ih (u / 10) (by omega)]
def O8 (n:Int):B:=if n < 0 then 45::Ii (n.natAbs+1) n.natAbs else Ii (n.toNat+1) n.toNat
theorem tB:Lib.itoa=O8:=by
 funext n
 unfold Lib.itoa O8
 rw [Oy _ _ (Nat.lt_succ_self _),Oy _ _ (Nat.lt_succ_self _)]
def nB:Sq B:=⟨0,fun _=>[]⟩
def nN:Sq Nm:=⟨0,fun _=>⟨[],0,[]⟩⟩
def nP:Pts:=⟨0,fun _=>(0,0)⟩
def nE:Sq En:=⟨0,fun _=>⟨[],⟨0,[],0,0⟩,(0,0)⟩⟩
def nL:Ev:=⟨6,5,0,0,0,[101,49],[98,49],[115,49],nB,nN,⟨12,[],1,2⟩,(3,4),nP,nE⟩
def Gn:Ev:=⟨3,0,0,0,0,[115,49],[],[],nB,⟨1,fun _=>⟨[101,110],0,[65,109,32,82,105,110,103]⟩⟩,⟨0,[],0,0⟩,(0,0),nP,nE⟩
def Jt:Ev:=⟨13,9,1,2,0,[],[],[],nB,nN,⟨0,[],0,0⟩,(0,0),nP,nE⟩
def Wf (i:Nat):Pt:=if i=1 then (4,0) else if i=2 then (0,4) else (0,0)
def wH:Ev:=⟨1,0,3,0,0,[99,49],[],[],nB,nN,⟨0,[],0,0⟩,(0,0),⟨3,Wf⟩,nE⟩
def P4:Ev:=⟨13,0,0,0,0,[],[],[],nB,nN,⟨0,[],0,0⟩,(0,0),nP,nE⟩
def T6:B:=[100,111,111,114,32,53,32,101,49,32,98,49,32,115,49,32,34,49,50,32,49,47,50,34,32,51,44,52]
def T3:B:=[110,97,109,101,32,48,32,115,49,32,101,110,32,48,32,34,65,109,32,82,105,110,103,34]
def T13:B:=[109,101,114,103,101,32,57,32,49,32,50]
def T1:B:=[97,114,101,97,32,48,32,99,49,32,51,32,48,44,48,32,52,44,48,32,48,44,52]
def P1:B:=[109,101,114,103,101,32,57,32,49,32,49]
def P2:B:=[109,101,114,103,101,32,57,32,49,32,50,32]
theorem frm6:aS nL=true:=by kernel_rfl
theorem frm3:aS Gn=true:=by kernel_rfl
theorem frm13:aS Jt=true:=by kernel_rfl
theorem frm1:aS wH=true:=by kernel_rfl
theorem frm0:aS P4=false:=by kernel_rfl
theorem etx6:cB nL=T6:=by
 unfold cB; rw [if_pos frm6]
 simp only [wl,w5,w4,w3,w2,w1,w0,kp,kV,dI,dD,tB]
 kernel_rfl
theorem Wk:nmW Gn.names Gn.names.n=[[101,110],Lib.itoa 0,kI [65,109,32,82,105,110,103]]:=rfl
theorem Wo:paW wH.path wH.path.n=[dD (0,0),dD (4,0),dD (0,4)]:=rfl
theorem etx3:cB Gn=T3:=by
 unfold cB; rw [if_pos frm3]
 simp only [wl,w5,w4,w3,w2,w1,w0,kp,Wk,tB]
 kernel_rfl
theorem etx13:cB Jt=T13:=by
 unfold cB; rw [if_pos frm13]
 simp only [wl,w5,w4,w3,w2,w1,w0,kp,tB]
 kernel_rfl
theorem etx1:cB wH=T1:=by
 unfold cB; rw [if_pos frm1]
 simp only [wl,w5,w4,w3,w2,w1,w0,kp,Wo,dD,tB]
 kernel_rfl
theorem bad1:dN P1=false:=by
 have e:aS (cdV P1)=false:=by kernel_rfl
 unfold dN
 rw [e]
 rfl
theorem cd2:EvE (cdV P2) Jt:=by
 refine ⟨by kernel_rfl,by kernel_rfl,by kernel_rfl,by kernel_rfl,by kernel_rfl,by kernel_rfl,by kernel_rfl,by kernel_rfl,aQ (by kernel_rfl) rfl,aQ (by kernel_rfl) rfl,by kernel_rfl,by kernel_rfl,eE (by kernel_rfl) rfl,aQ (by kernel_rfl) rfl⟩
theorem cd6:EvE (cdV T6) nL:=by
 refine ⟨by kernel_rfl,by kernel_rfl,by kernel_rfl,by kernel_rfl,by kernel_rfl,by kernel_rfl,by kernel_rfl,by kernel_rfl,aQ (by kernel_rfl) rfl,aQ (by kernel_rfl) rfl,?_,by kernel_rfl,eE (by kernel_rfl) rfl,aQ (by kernel_rfl) rfl⟩
 have e:dI ⟨12,[],1,2⟩=[49,50,32,49,47,50]:=by
  unfold dI
  rw [tB]
  kernel_rfl
 have ec:cd [49,50,32,49,47,50]=⟨12,[],1,2⟩:=by kernel_rfl
 have ep:cH [49,50,32,49,47,50]=⟨12,[],1,2⟩:=by
  unfold cH mP
  rw [ec,e]
  rfl
 have en:(cdV T6).num=cH [49,50,32,49,47,50]:=rfl
 rw [en,ep]
 rfl
theorem good6:dN T6=true/\EvE (fA T6) nL:=by
 have hb:dN T6=true:=by
  unfold dN
  rw [pT cd6,frm6,mG cd6,etx6]
  rfl
 refine ⟨hb,?_⟩
 unfold fA
 rw [if_pos hb]
 exact cd6
theorem bad2:dN P2=false:=by
 have e:cB (cdV P2)=T13:=(mG cd2).trans etx13
 unfold dN
 rw [e,decide_eq_false (by decide),Bool.and_false]
end F25
end
