/-
  Parts of the proof: Z4 Z5. Conditions: those that each theorem states.
-/
import Derived.Test.YtbhffbgbhgjdiaaGreatDoorZ9
import Derived.Test.YtbhffbgbhgjdiaaGreatDoorM39
import Derived.Test.YtbhffbgbhgjdiaaGreatDoorM39
set_option linter.unusedSimpArgs false
set_option linter.unusedVariables false
namespace Go.Proofs.YtbhffbgbhgjdiaaGreatDoor
open Go.RowKit
set_option maxRecDepth 100000
noncomputable def B05:XF:=xoK 51 [Vw,Yo,gI 1000,gI 30] Alq (Ahb)
noncomputable def Auw:XF:=fun f us hp nx=>match xoK 51 [Vw,.sl [],gI 1000,gI 30] Alq Ahb f us hp nx with
 | some r=>some r
 | none=>B05 f us hp nx
theorem Amj:Hi Tryz.prog CtxP Auw:=by
 intro f us hp nx u hp' nx' h
 unfold Auw at h
 split at h
 ·rename_i r hr
  cases h
  exact Aha base Aa2 (by kernel_rfl) W5 _ _ _ _ _ _ _ hr
 ·exact Aha base Aa1 (by kernel_rfl) W5 _ _ _ _ _ _ _ h
theorem A0d:Cn 16 [] (.val (gB true)) :=
 R4 (xo:=Auw) (E:=Ap2) (n:=1000) base Bk Vg Amj (by kernel_rfl)
theorem A6v:Cn 5 [] (.val (gB true)):=by
 have a1:=A60
 have a2:=A0d
 have a3:=Wp
 refine cvS Tryz.func5 ?_
 (repeat' (first|exact trivial|refine stR ?_|((first|refine cv (a1) ?_|refine cv (a2) ?_|refine cv (a3) ?_|refine stp ?_|refine A0 (fun h=>?_) ?_|(refine gw (fun h=>?_) (fun h=>?_)<;>(try (exfalso;omega))))<;>(try (refine wS ?_)))))
 all_goals simp only[sxd,z0,p0,Nat.reduceEqDiff,↓reduceIte,Tryz.f5, *]
end Go.Proofs.YtbhffbgbhgjdiaaGreatDoor
