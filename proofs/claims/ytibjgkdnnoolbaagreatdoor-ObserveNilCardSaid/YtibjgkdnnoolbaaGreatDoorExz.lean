/-
  bascule/basculelaw24.Awake answers true.
-/
import Derived.Test.YtibjgkdnnoolbaaGreatDoorEx0
import Derived.Test.YtibjgkdnnoolbaaGreatDoorEx1
import Derived.Test.YtibjgkdnnoolbaaGreatDoorEx2
import Derived.Test.YtibjgkdnnoolbaaGreatDoorEx3
import Derived.Test.YtibjgkdnnoolbaaGreatDoorEx4
import Derived.Test.YtibjgkdnnoolbaaGreatDoorEx5
import Derived.Test.YtibjgkdnnoolbaaGreatDoorEx6
import Derived.Test.YtibjgkdnnoolbaaGreatDoorEx7
import Derived.Test.YtibjgkdnnoolbaaGreatDoorEx8
import Derived.Test.YtibjgkdnnoolbaaGreatDoorEx9
namespace Go.Proofs.YtibjgkdnnoolbaaGreatDoor
open Go.RowKit
open Ev (orB orB_sound tabE tabE_ok TabOK gaveK closed_known)

theorem Exo0 : TabOK Tryz.prog Ext0 := TabOK.nil
theorem Exo1 : TabOK Tryz.prog Ext1 := TabOK.add idles_ok builders_ok Exo0 Exc0
theorem Exo2 : TabOK Tryz.prog Ext2 := TabOK.add idles_ok builders_ok Exo1 Exc1
theorem Exo3 : TabOK Tryz.prog Ext3 := TabOK.add idles_ok builders_ok Exo2 Exc2
theorem Exo4 : TabOK Tryz.prog Ext4 := TabOK.add idles_ok builders_ok Exo3 Exc3
theorem Exo5 : TabOK Tryz.prog Ext5 := TabOK.add idles_ok builders_ok Exo4 Exc4
theorem Exo6 : TabOK Tryz.prog Ext6 := TabOK.add idles_ok builders_ok Exo5 Exc5
theorem Exo7 : TabOK Tryz.prog Ext7 := TabOK.add idles_ok builders_ok Exo6 Exc6
theorem Exo8 : TabOK Tryz.prog Ext8 := TabOK.add idles_ok builders_ok Exo7 Exc7
theorem Exo9 : TabOK Tryz.prog Ext9 := TabOK.add idles_ok builders_ok Exo8 Exc8
theorem Exo10 : TabOK Tryz.prog Ext10 := TabOK.add idles_ok builders_ok Exo9 Exc9
set_option maxRecDepth 1000000 in
theorem Exgave : gaveK Tryz.prog idles (orB builders (tabE Ext10)) 400 100 6 = some true := by kernel_rfl
theorem awake24 (w : World) : Calls Tryz.prog 6 #[] w (Gave (.bool true) w) := closed_known idles_ok (fun N0 => orB_sound (builders_ok N0) (tabE_ok Exo10 N0)) Exgave w
end Go.Proofs.YtibjgkdnnoolbaaGreatDoor
