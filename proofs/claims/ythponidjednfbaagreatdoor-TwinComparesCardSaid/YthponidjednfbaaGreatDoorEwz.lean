/-
  bascule/basculelaw28.awake answers true.
-/
import Derived.Test.YthponidjednfbaaGreatDoorEw0
import Derived.Test.YthponidjednfbaaGreatDoorEw1
import Derived.Test.YthponidjednfbaaGreatDoorEw2
import Derived.Test.YthponidjednfbaaGreatDoorEw3
import Derived.Test.YthponidjednfbaaGreatDoorEw4
import Derived.Test.YthponidjednfbaaGreatDoorEw5
import Derived.Test.YthponidjednfbaaGreatDoorEw6
import Derived.Test.YthponidjednfbaaGreatDoorEw7
namespace Go.Proofs.YthponidjednfbaaGreatDoor
open Go.RowKit
open Ev (orB orB_sound tabE tabE_ok TabOK gaveK closed_known)

theorem Ewo0 : TabOK Tryz.prog Ewt0 := TabOK.nil
theorem Ewo1 : TabOK Tryz.prog Ewt1 := TabOK.add idles_ok knowns_ok Ewo0 Ewc0
theorem Ewo2 : TabOK Tryz.prog Ewt2 := TabOK.add idles_ok knowns_ok Ewo1 Ewc1
theorem Ewo3 : TabOK Tryz.prog Ewt3 := TabOK.add idles_ok knowns_ok Ewo2 Ewc2
theorem Ewo4 : TabOK Tryz.prog Ewt4 := TabOK.add idles_ok knowns_ok Ewo3 Ewc3
theorem Ewo5 : TabOK Tryz.prog Ewt5 := TabOK.add idles_ok knowns_ok Ewo4 Ewc4
theorem Ewo6 : TabOK Tryz.prog Ewt6 := TabOK.add idles_ok knowns_ok Ewo5 Ewc5
theorem Ewo7 : TabOK Tryz.prog Ewt7 := TabOK.add idles_ok knowns_ok Ewo6 Ewc6
theorem Ewo8 : TabOK Tryz.prog Ewt8 := TabOK.add idles_ok knowns_ok Ewo7 Ewc7
theorem Ewo9 : TabOK Tryz.prog Ewt9 := TabOK.add idles_ok knowns_ok Ewo8 Ewc8
theorem Ewo10 : TabOK Tryz.prog Ewt10 := TabOK.add idles_ok knowns_ok Ewo9 Ewc9
theorem Ewo11 : TabOK Tryz.prog Ewt11 := TabOK.add idles_ok knowns_ok Ewo10 Ewc10
theorem Ewo12 : TabOK Tryz.prog Ewt12 := TabOK.add idles_ok knowns_ok Ewo11 Ewc11
theorem Ewo13 : TabOK Tryz.prog Ewt13 := TabOK.add idles_ok knowns_ok Ewo12 Ewc12
theorem Ewo14 : TabOK Tryz.prog Ewt14 := TabOK.add idles_ok knowns_ok Ewo13 Ewc13
theorem Ewo15 : TabOK Tryz.prog Ewt15 := TabOK.add idles_ok knowns_ok Ewo14 Ewc14
theorem Ewo16 : TabOK Tryz.prog Ewt16 := TabOK.add idles_ok knowns_ok Ewo15 Ewc15
theorem Ewo17 : TabOK Tryz.prog Ewt17 := TabOK.add idles_ok knowns_ok Ewo16 Ewc16
theorem Ewo18 : TabOK Tryz.prog Ewt18 := TabOK.add idles_ok knowns_ok Ewo17 Ewc17
theorem Ewo19 : TabOK Tryz.prog Ewt19 := TabOK.add idles_ok knowns_ok Ewo18 Ewc18
theorem Ewo20 : TabOK Tryz.prog Ewt20 := TabOK.add idles_ok knowns_ok Ewo19 Ewc19
theorem Ewo21 : TabOK Tryz.prog Ewt21 := TabOK.add idles_ok knowns_ok Ewo20 Ewc20
theorem Ewo22 : TabOK Tryz.prog Ewt22 := TabOK.add idles_ok knowns_ok Ewo21 Ewc21
theorem Ewo23 : TabOK Tryz.prog Ewt23 := TabOK.add idles_ok knowns_ok Ewo22 Ewc22
theorem Ewo24 : TabOK Tryz.prog Ewt24 := TabOK.add idles_ok knowns_ok Ewo23 Ewc23
theorem Ewo25 : TabOK Tryz.prog Ewt25 := TabOK.add idles_ok knowns_ok Ewo24 Ewc24
theorem Ewo26 : TabOK Tryz.prog Ewt26 := TabOK.add idles_ok knowns_ok Ewo25 Ewc25
theorem Ewo27 : TabOK Tryz.prog Ewt27 := TabOK.add idles_ok knowns_ok Ewo26 Ewc26
theorem Ewo28 : TabOK Tryz.prog Ewt28 := TabOK.add idles_ok knowns_ok Ewo27 Ewc27
theorem Ewo29 : TabOK Tryz.prog Ewt29 := TabOK.add idles_ok knowns_ok Ewo28 Ewc28
theorem Ewo30 : TabOK Tryz.prog Ewt30 := TabOK.add idles_ok knowns_ok Ewo29 Ewc29
theorem Ewo31 : TabOK Tryz.prog Ewt31 := TabOK.add idles_ok knowns_ok Ewo30 Ewc30
theorem Ewo32 : TabOK Tryz.prog Ewt32 := TabOK.add idles_ok knowns_ok Ewo31 Ewc31
theorem Ewo33 : TabOK Tryz.prog Ewt33 := TabOK.add idles_ok knowns_ok Ewo32 Ewc32
theorem Ewo34 : TabOK Tryz.prog Ewt34 := TabOK.add idles_ok knowns_ok Ewo33 Ewc33
theorem Ewo35 : TabOK Tryz.prog Ewt35 := TabOK.add idles_ok knowns_ok Ewo34 Ewc34
theorem Ewo36 : TabOK Tryz.prog Ewt36 := TabOK.add idles_ok knowns_ok Ewo35 Ewc35
theorem Ewo37 : TabOK Tryz.prog Ewt37 := TabOK.add idles_ok knowns_ok Ewo36 Ewc36
theorem Ewo38 : TabOK Tryz.prog Ewt38 := TabOK.add idles_ok knowns_ok Ewo37 Ewc37
theorem Ewo39 : TabOK Tryz.prog Ewt39 := TabOK.add idles_ok knowns_ok Ewo38 Ewc38
set_option maxRecDepth 1000000 in
theorem Ewgave : gaveK Tryz.prog idles (orB knowns (tabE Ewt39)) 400 100 4 = some true := by kernel_rfl
theorem awake28 (w : World) : Calls Tryz.prog 4 #[] w (Gave (.bool true) w) := closed_known idles_ok (fun N0 => orB_sound (knowns_ok N0) (tabE_ok Ewo39 N0)) Ewgave w
end Go.Proofs.YthponidjednfbaaGreatDoor
