/- A part of the proof. -/
import Derived.Test.YtijddkljgihcnaaGreatDoorS14
import Derived.Test.YtijddkljgihcnaaGreatDoorF7
open Go Go.Eng Go.Proofs F1 F2 F5 F6 F7 F10 G7 G4 L3 L10 G1 G3 EV0 S1 S10
set_option maxRecDepth 100000
namespace S35
def Vh (x:Sq B) (j:Nat):Bool:=decide ((100:Int) < ((x.f j).length:Int))
def Uq (x:Sq B):Bool:=!orB (Vh x) x.n
def bgT (t:B):Prop:=t.length<=4611686018427387904
def bgQ {T:Type} (s:Sq T) (p:T->Prop):Prop:=s.n<=4611686018427387904/\∀ i,i < s.n->p (s.f i)
def Vf (x:Sq Nm) (i:Nat):Bool:=!Uq (Hv [(x.f i).lang,(x.f i).text])
def Vg (x:Sq Nm):Bool:=!orB (Vf x) x.n && decide ((x.n:Int)<=10)
attribute [local irreducible] Uq
attribute [local irreducible] Vg
end S35
