/-
  CONTRACTS: bare.
-/
import Derived.Test.YtdhcpnachceklaaDoorScP11
import Derived.Test.YtdhcpnachceklaaDoorScV6
namespace Go.Sc
open Go
set_option linter.unusedSimpArgs false
set_option linter.unusedVariables false
section
variable {E : Env} {P : Program}
theorem bare_spec (B : PlaceBodies E P) (hA : Body2 E P 77 F.law_at) (hb : Body1 E P 87 F.ref_Bare) (hB : Body2 E P 89 F.law_bare) (c e : Int) : FX E P 89 [Er c, Z e] (Bo (decide (c = e))) := by
  refine FX.of' (by simp [AV.closedL, Er_closed, AV.closed]) (by simp [AV.closed]) fun n R hR => hB _ _ _ _ ?_
  unfold F.law_bare
  refine wCall.fx (Bare_spec hb e) fun n => ?_
  refine wCall.fx (at_spec B hA c e (-1)) fun n => ?_
  exact hR _ _ (by simp)
theorem bareAt_spec (B : PlaceBodies E P) (hA : Body2 E P 77 F.law_at) (hb : Body1 E P 87 F.ref_Bare) (hB : Body2 E P 89 F.law_bare) (c q e : Int) : FX E P 89 [At c q, Z e] (Bo (decide (c = e) && decide (q = -1))) := by
  refine FX.of' (by simp [AV.closedL, At_closed, AV.closed]) (by simp [AV.closed]) fun n R hR => hB _ _ _ _ ?_
  unfold F.law_bare
  refine wCall.fx (Bare_spec hb e) fun n => ?_
  refine wCall.fx (atAt_spec B hA c q e (-1)) fun n => ?_
  exact hR _ _ rfl
end
end Go.Sc
