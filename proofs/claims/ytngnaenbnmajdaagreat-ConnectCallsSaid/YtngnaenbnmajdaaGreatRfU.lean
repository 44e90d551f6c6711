/- Reference 10: right, Valid, Short, Body, Next, Rest; reference 08: Done. -/
import Derived.Test.YtngnaenbnmajdaaGreatRfT
import Derived.Test.YtngnaenbnmajdaaGreatMRfC
import Derived.Test.YtngnaenbnmajdaaGreatMRfB
import Derived.Test.YtngnaenbnmajdaaGreatMReaB
import Derived.Deep.RegionLaw
namespace Go.Proofs.YtngnaenbnmajdaaGreat
open Go.RowKit
attribute [local go_sem ↓] to_ldPk to_bxPk to_bdPk to_alPk to_stPk
attribute [local go_sem] run_bxPk run_bxPk_agg ld_fresh run_alPk run_bd0 run_bdK run_bdKI run_bdKIC run_bdKC run_stPk_fresh pkC_0 pkC_1 pkC_2 pkC_3 pkC_4 pkC_5 pkC_6 pkC_7 pkC_8 pkC_9 pkC_10 pkC_11 pkC_12 pkC_13 pkC_14 pkC_15 pkC_16 pkC_17 pkC_18 pkC_19 pkC_20 pkC_21 pkC_22 pkC_23 pkC_24

theorem run_bdAckP (p : Pk) (h : Hs) (w : World) : (bdPk #[(0, .int .i64 p.kind), (4, .int .i64 p.id), (17, .int .i64 p.code), (20, .slice h.props.a p.props.length h.props.c)]).run Tryz.prog w = .ok (pkV (ackP p) (ackH h)) w := by kernel_rfl
end Go.Proofs.YtngnaenbnmajdaaGreat
