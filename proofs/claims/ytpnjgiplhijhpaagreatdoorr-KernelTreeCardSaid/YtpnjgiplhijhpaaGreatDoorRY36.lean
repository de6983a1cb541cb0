/- A part. -/
import Derived.Test.YtpnjgiplhijhpaaGreatDoorRY30
import Derived.Test.YtpnjgiplhijhpaaGreatDoorRY31
import Derived.Test.YtpnjgiplhijhpaaGreatDoorRY32
import Derived.Test.YtpnjgiplhijhpaaGreatDoorRY33
import Derived.Test.YtpnjgiplhijhpaaGreatDoorRY34
import Derived.Test.YtpnjgiplhijhpaaGreatDoorRY35
set_option linter.all false
set_option maxHeartbeats 4000000
namespace Go.Ey.Pr
open Go Go.Ey Go.Ey.Fe Go.RowKit Go.Proofs
set_option maxRecDepth 1000000
def aaW:NT:=[(212,[.one (cs RU),.one (cs ⟨#[10]⟩)],[.one (ci 47)])]
theorem aan:av PP aaW:=av.cons (by
 have h:=YA (s:=RU) (c:=10);have e:Lib.countByte RU.data.toList 10=47:=by kernel_rfl
 rw [e] at h;exact h) av.nil
theorem MH:Bv 6582018229284824168619876730229402019930943462534319453394436096 aaW 300 66 [.one (cs RU),.one (cs ⟨#[10]⟩)] [.one (.slice (axL.map cs) 48)]=true:=by kernel_rfl
def Vm:NT:=[(67,[.one (cs VL)],[.one (cs RU)]),(66,[.one (cs RU),.one (cs ⟨#[10]⟩)],[.one (.slice (axL.map cs) 48)])]
theorem Xo:av PP Vm:=av.cons YY (av.cons (oW aan MH) av.nil)
def OQ:NT:=Vm++(UX++(U8++(Vw++(VN++(VK++Vd)))))
theorem Rw:av PP OQ:=Xo.append (X4.append (Xz.append (WG.append (Xi.append (X0.append X7)))))
def Vv:Nat:=811656739243220271104
noncomputable def Ng (k:Nat):Bool:=Bv Vv OQ 400 29 [.one (ci k)] [.one (axC k),.one (cb true)]
def kN (k:Nat):Nat×List V×List V:=(29,[.one (ci k)],[.one (axC k),.one (cb true)])
theorem bf {k:Nat} (h:Ng k=true):bR PP 29 [.one (ci k)] [.one (axC k),.one (cb true)]:=oW Rw h
end Go.Ey.Pr
