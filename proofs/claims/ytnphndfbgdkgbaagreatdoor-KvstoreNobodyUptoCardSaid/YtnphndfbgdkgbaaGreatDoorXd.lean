/-
  Layer 1: the reference's Unframe.
-/
import Derived.Test.YtnphndfbgdkgbaaGreatDoorRows
import Derived.Test.YtnphndfbgdkgbaaGreatDoorXc
namespace Go.Proofs.YtnphndfbgdkgbaaGreatDoor
attribute [local irreducible] St1 RL RA RT RT1 Run

attribute [local irreducible] crcN crcL crcS crcB numL leL unfR




end Go.Proofs.YtnphndfbgdkgbaaGreatDoor
