/- Walks, contracts and laws of the law's functions: part 7. No condition. -/
import Derived.Test.YticmofoeecjnhaaGreatQAf
open Go.Proofs
set_option maxHeartbeats 32000000
set_option maxRecDepth 100000
set_option linter.unusedSimpArgs false
namespace Go.HL
namespace Tp
namespace GM
theorem we0:((List.range 60).all fun a=>decide (zaz 0 (a+1)=zaz 0 (rep (a+1))))=true:=by decide +kernel
theorem we1:((List.range 60).all fun a=>decide (zaz 1 (a+1)=zaz 1 (rep (a+1))))=true:=by decide +kernel
theorem we2:((List.range 60).all fun a=>decide (zaz 2 (a+1)=zaz 2 (rep (a+1))))=true:=by decide +kernel
theorem we3:((List.range 60).all fun a=>decide (zaz 3 (a+1)=zaz 3 (rep (a+1))))=true:=by decide +kernel
theorem we4:((List.range 60).all fun a=>decide (zaz 4 (a+1)=zaz 4 (rep (a+1))))=true:=by decide +kernel
theorem we5:((List.range 60).all fun a=>decide (zaz 5 (a+1)=zaz 5 (rep (a+1))))=true:=by decide +kernel
theorem we6:((List.range 60).all fun a=>decide (zaz 6 (a+1)=zaz 6 (rep (a+1))))=true:=by decide +kernel
theorem we7:((List.range 60).all fun a=>decide (zaz 7 (a+1)=zaz 7 (rep (a+1))))=true:=by decide +kernel
theorem we8:((List.range 60).all fun a=>decide (zaz 8 (a+1)=zaz 8 (rep (a+1))))=true:=by decide +kernel
theorem we9:((List.range 60).all fun a=>decide (zaz 9 (a+1)=zaz 9 (rep (a+1))))=true:=by decide +kernel
theorem xrn:((List.range 60).all fun a=>decide (zaz 10 (a+1)=zaz 10 (rep (a+1))))=true:=by decide +kernel
theorem xro:((List.range 60).all fun a=>decide (zaz 11 (a+1)=zaz 11 (rep (a+1))))=true:=by decide +kernel
theorem xrp:((List.range 60).all fun a=>decide (zaz 12 (a+1)=zaz 12 (rep (a+1))))=true:=by decide +kernel
theorem xrq:((List.range 60).all fun a=>decide (zaz 13 (a+1)=zaz 13 (rep (a+1))))=true:=by decide +kernel
theorem xrr:((List.range 60).all fun a=>decide (zaz 14 (a+1)=zaz 14 (rep (a+1))))=true:=by decide +kernel
theorem xrs:((List.range 60).all fun a=>decide (zaz 15 (a+1)=zaz 15 (rep (a+1))))=true:=by decide +kernel
theorem xrt:((List.range 60).all fun a=>decide (zaz 16 (a+1)=zaz 16 (rep (a+1))))=true:=by decide +kernel
theorem xru:((List.range 60).all fun a=>decide (zaz 17 (a+1)=zaz 17 (rep (a+1))))=true:=by decide +kernel
theorem xrv:((List.range 60).all fun a=>decide (zaz 18 (a+1)=zaz 18 (rep (a+1))))=true:=by decide +kernel
theorem xrw:((List.range 60).all fun a=>decide (zaz 19 (a+1)=zaz 19 (rep (a+1))))=true:=by decide +kernel
end GM
end Tp
end Go.HL
