/- A part of what the laws stand on: PubK. -/
import Derived.Test.YtbahnolmlodcdaaGreatDoorMcMPubB
import Derived.Test.YtbahnolmlodcdaaGreatDoorMcMPubA
import Derived.Test.YtbahnolmlodcdaaGreatDoorMcMTop
import Derived.LoopN
import Derived.Test.YtbahnolmlodcdaaGreatDoorMcMTai
import Derived.Deep.RegionHeld3
namespace Go.Proofs.YtbahnolmlodcdaaGreatDoor
open Go.RowKit
attribute [local go_sem ↓] to_ldPk to_bxPk to_bdPk to_alPk to_stPk
attribute [local go_sem] run_bxPk run_bxPk_agg ld_fresh run_alPk run_bd0 run_bdK run_bdKI run_bdKIC run_bdKC run_bdKICP run_stPk_fresh pkC_0 pkC_1 pkC_2 pkC_3 pkC_4 pkC_5 pkC_6 pkC_7 pkC_8 pkC_9 pkC_10 pkC_11 pkC_12 pkC_13 pkC_14 pkC_15 pkC_16 pkC_17 pkC_18 pkC_19 pkC_20 pkC_21 pkC_22 pkC_23 pkC_24

/-- What stands through the statement that looks at what is read. -/
abbrev NB (g0 g1 : Nat) (p : Pk) (h k : Hs) (Y : ByteArray) (W x : World) : Prop := (ldPk (.pointer (some ⟨g0, 0, none⟩))).run Tryz.prog x = .ok (pkV p h) x ∧ (ldPk (.pointer (some ⟨g1, 0, none⟩))).run Tryz.prog x = .ok (pkV p k) x ∧ x.cell? ⟨g0, 6, none⟩ = some (.string Y) ∧ Below W.heap.size W x
section
variable {w W x y : World} {g0 g1 : Nat} {p : Pk} {h k : Hs} {Y : ByteArray}
theorem NB.of (s : St w [(g0, p, h), (g1, p, k)] W) (hY : p.payload = Y) (hb : Below W.heap.size W x) : NB g0 g1 p h k Y W x :=
  ⟨(s.below hb).ld 0 rfl, (s.below hb).ld 1 rfl, by rw [← hY]; exact (s.below hb).cell 0 rfl 6, hb⟩
theorem NB.next (n : NB g0 g1 p h k Y W x) (s : St w [(g0, p, h), (g1, p, k)] W) (hY : p.payload = Y) (hb : Below x.heap.size x y) : NB g0 g1 p h k Y W y :=
  NB.of s hY (n.2.2.2.trans (hb.mono n.2.2.2.size))
theorem NB.in0 (n : NB g0 g1 p h k Y W x) (s : St w [(g0, p, h), (g1, p, k)] W) : PkIn x x.heap.size p h := (s.below n.2.2.2).into 0 rfl
end
end Go.Proofs.YtbahnolmlodcdaaGreatDoor

