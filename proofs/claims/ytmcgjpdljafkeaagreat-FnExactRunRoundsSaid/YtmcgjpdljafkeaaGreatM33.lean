/-
  Rounds in a row, until all is quiet. No program in sight.
-/
import Derived.Test.YtmcgjpdljafkeaaGreatM11
import Derived.Test.YtmcgjpdljafkeaaGreatM22
namespace Go.Proofs.YtmcgjpdljafkeaaGreat.G
set_option linter.all false
open Go.RowKit L D
section
def l7(c:Int):Nat:=if 0≤c∧c≤400 then c.toNat else 0
theorem GA(c:Int):l7 c≤400:=by unfold l7;split<;>omega
theorem KD{c:Int}(h:0≤c∧c≤400):(l7 c:Int)=c:=by unfold l7;rw[if_pos h];omega
theorem Mn{c:Int}(h: ¬(0≤c∧c≤400)):l7 c=0:=by unfold l7;rw[if_neg h]
theorem XE{c:Int}{k:Nat}(h:(if decide ((k:Int)<c)=true then decide (c≤400)else false)=true):k<l7 c:=by
 by_cases h1:(k:Int)<c
 ·rw[if_pos (by simpa using h1),decide_eq_true_eq]at h
  have:=KD (c:=c) (by omega)
  omega
 ·rw[if_neg (by simpa using h1)]at h;cases h
theorem VL{c:Int}{k:Nat}(hk:k≤l7 c)(h:(if decide ((k:Int)<c)=true then decide (c≤400)else false)=false):k=l7 c:=by
 by_cases hc:0≤c∧c≤400
 ·have h2:=KD hc
  by_cases h1:(k:Int)<c
  ·rw[if_pos (by simpa using h1),decide_eq_false_iff_not]at h
   omega
  ·omega
 ·have:=Mn hc;omega
end
end Go.Proofs.YtmcgjpdljafkeaaGreat.G
