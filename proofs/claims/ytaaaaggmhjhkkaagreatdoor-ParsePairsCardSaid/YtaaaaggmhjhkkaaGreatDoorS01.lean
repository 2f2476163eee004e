/-
  Fp in one text.
-/
import Derived.Test.YtaaaaggmhjhkkaaGreatDoorS00
namespace Go.Proofs.YtaaaaggmhjhkkaaGreatDoor
theorem nan_cnan:Fl.isNaN cnan=true:=by decide
theorem nan_canon (b:Nat):Fl.isNaN (canon b)=Fl.isNaN b:=by
 unfold canon;cases h:Fl.isNaN b<;>simp[h,nan_cnan]
theorem canon_canon (b:Nat):canon (canon b)=canon b:=by
 have:=nan_canon b;cases h:Fl.isNaN b
 ·rw[h]at this;rw[canon,this];simp
 ·rw[h]at this;simp[canon,h,nan_cnan]
end Go.Proofs.YtaaaaggmhjhkkaaGreatDoor
