/-
  E6 in one text.
-/
import Derived.Test.YtaaaaggmhjhkkaaGreatDoorS22
namespace Go.Proofs.YtaaaaggmhjhkkaaGreatDoor
open Go
theorem ex_end {n:Nat} {t:List Te} {x:ET} (h:PostAt n t x) (hh:HeadT t):(exUn (n+2)).1 t=.ok (x,[]):=by
 have h0:=un_of h hh (r:=[]) rfl;rw[List.append_nil]at h0;exact ex_of_bin (bin_pass h0 _ (fun _ _=>rfl)) rfl
end Go.Proofs.YtaaaaggmhjhkkaaGreatDoor
