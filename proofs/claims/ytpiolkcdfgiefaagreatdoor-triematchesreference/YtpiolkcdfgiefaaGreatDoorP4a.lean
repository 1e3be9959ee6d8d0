/- A part of the proof. -/
import Derived.Test.YtpiolkcdfgiefaaGreatDoorVCU
import Derived.Test.YtpiolkcdfgiefaaGreatDoorVOU
import Derived.Test.YtpiolkcdfgiefaaGreatDoorCards
import Derived.SevenTiedAt
namespace Go.Proofs.YtpiolkcdfgiefaaGreatDoor
open Go Go.Eng Go.ChangeShapes Go.WideShapes Go.RowKit VOU VCU
set_option maxRecDepth 100000 in
theorem Bj(os:Os)(started:os.Started)(H:Type)(enc:TypeId×Value->H)(F:Stop.Interp) :
  ReturnsInHanded {} Tryz.checked os 4 .any ((Rows.OpenSpec.upto Rows.trieMatchesReferenceSpec).preRow enc Tryz.prog Tryz.f4 Rows.trieMatchesReferenceUptoRow.domain false Mm) (((Rows.OpenSpec.upto Rows.trieMatchesReferenceSpec).at F).post enc Tryz.prog Tryz.f4 false true false false):=by
 refine yS (C:=Tryz.checked) (tb:=4) (laid:=Mm) started own (by kernel_rfl) Tryz.func4
  (Fo (enc:=enc) (C:=Tryz.checked) (World.laidAll Tryz.prog os Mm)
   #[.slice none 0 0,.slice none 0 0,.string ⟨#[]⟩,.agg #[.slice none 0 0,.string ⟨#[]⟩,.slice none 0 0]] 8 (World.laidAll_os _ _ _)
   (World.shaped_of_ZipB (by kernel_rfl) (by kernel_rfl)) (by kernel_rfl) (by kernel_rfl) (by kernel_rfl)
   (by rw[MakeChecks.laidMetH_plain _ _ _ (by kernel_rfl)]; exact laidMet_laidAll _ (by kernel_rfl) (by kernel_rfl)))
  laidOut ?_ rfl (by kernel_rfl) Tryz.underlying4 ?_ ?_
 .rw [Tryz.params4];intro t ht;simp only[aR,eO,or_false]at ht;rcases ht with rfl|rfl|rfl|rfl<;>exact⟨by kernel_rfl,of_decide_eq_true (by kernel_rfl)⟩
 .intro ds hds;rw[Tryz.params4]at hds
  match ds,hds with
  | [d1,d2,d3,d4],_=>rfl
 .intro W base args ds p hval hA hw hsh hL;rw[Tryz.params4]at hval hA;obtain⟨v0,v1,v2,v3,d0,d1,d2,d3,p0,p1,p2,p3,rfl,rfl,h0,h1,h2,h3⟩:=P4 hA;obtain⟨e0,r0,b0⟩:=open29 (hval 0 29 v0 rfl rfl) h0 (hw 0 d0 rfl);obtain⟨e1,r1,b1⟩:=open22 (hval 1 22 v1 rfl rfl) h1 (hw 1 d1 rfl);obtain⟨e2,r2,b2⟩:=open9 (hval 2 9 v2 rfl rfl) h2 (hw 2 d2 rfl);obtain⟨e3,r3,b3⟩:=open39 (hval 3 39 v3 rfl rfl) h3 (hw 3 d3 rfl);have bg:∀{n:Nat},n<=1048576->n<4611686018427387904:=λh=>by omega
  refine Dm Q13.aC9 (vs:=[v0,v1,v2,v3]) (x:=⟨e0,e1,e2,e3⟩) (aEp hsh hL) ⟨bg b0.1,λj hj=>⟨bg (b0.2 j hj).1,bg (b0.2 j hj).2⟩,bg b1.1,λj hj=>⟨bg (b1.2 j hj).1,bg (b1.2 j hj).2⟩,bg b2,bg b3.1,bg b3.2.2.1,bg b3.2.1,b3.2.2.2.1,b3.2.2.2.2⟩ ?_ rfl;exact⟨v0,_,rfl,r0,v1,_,rfl,r1,v2,_,rfl,r2,v3,_,rfl,r3,rfl⟩
end Go.Proofs.YtpiolkcdfgiefaaGreatDoor
