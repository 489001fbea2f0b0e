/- Walks, contracts and laws of the law's functions: part 8. No condition. -/
import Derived.Test.YticmofoeecjnhaaGreatQAg
open Go.Proofs
set_option maxHeartbeats 32000000
set_option maxRecDepth 100000
set_option linter.unusedSimpArgs false
namespace Go.HL
namespace Tp
namespace GM
theorem xqj:((List.range 60).all fun b=>zeh (zcq (zaz 0 4) (b+1)))=true:=by decide +kernel
theorem xqk:((List.range 60).all fun b=>zeh (zcq (zaz 0 8) (b+1)))=true:=by decide +kernel
theorem xnx:((List.range 60).all fun b=>zeh (zcq (zaz 0 12) (b+1)))=true:=by decide +kernel
theorem xql:((List.range 60).all fun b=>zeh (zcq (zaz 1 4) (b+1)))=true:=by decide +kernel
theorem xqm:((List.range 60).all fun b=>zeh (zcq (zaz 1 8) (b+1)))=true:=by decide +kernel
theorem xot:((List.range 60).all fun b=>zeh (zcq (zaz 1 12) (b+1)))=true:=by decide +kernel
theorem xqn:((List.range 60).all fun b=>zeh (zcq (zaz 2 4) (b+1)))=true:=by decide +kernel
theorem xqo:((List.range 60).all fun b=>zeh (zcq (zaz 2 8) (b+1)))=true:=by decide +kernel
theorem xou:((List.range 60).all fun b=>zeh (zcq (zaz 2 12) (b+1)))=true:=by decide +kernel
theorem xqp:((List.range 60).all fun b=>zeh (zcq (zaz 3 4) (b+1)))=true:=by decide +kernel
theorem xqq:((List.range 60).all fun b=>zeh (zcq (zaz 3 8) (b+1)))=true:=by decide +kernel
theorem xov:((List.range 60).all fun b=>zeh (zcq (zaz 3 12) (b+1)))=true:=by decide +kernel
theorem xqr:((List.range 60).all fun b=>zeh (zcq (zaz 4 4) (b+1)))=true:=by decide +kernel
theorem xqs:((List.range 60).all fun b=>zeh (zcq (zaz 4 8) (b+1)))=true:=by decide +kernel
theorem xow:((List.range 60).all fun b=>zeh (zcq (zaz 4 12) (b+1)))=true:=by decide +kernel
theorem xqt:((List.range 60).all fun b=>zeh (zcq (zaz 5 4) (b+1)))=true:=by decide +kernel
theorem xqu:((List.range 60).all fun b=>zeh (zcq (zaz 5 8) (b+1)))=true:=by decide +kernel
theorem xox:((List.range 60).all fun b=>zeh (zcq (zaz 5 12) (b+1)))=true:=by decide +kernel
theorem xqv:((List.range 60).all fun b=>zeh (zcq (zaz 6 4) (b+1)))=true:=by decide +kernel
theorem xqw:((List.range 60).all fun b=>zeh (zcq (zaz 6 8) (b+1)))=true:=by decide +kernel
theorem xoy:((List.range 60).all fun b=>zeh (zcq (zaz 6 12) (b+1)))=true:=by decide +kernel
theorem xqx:((List.range 60).all fun b=>zeh (zcq (zaz 7 4) (b+1)))=true:=by decide +kernel
theorem xqy:((List.range 60).all fun b=>zeh (zcq (zaz 7 8) (b+1)))=true:=by decide +kernel
theorem xoz:((List.range 60).all fun b=>zeh (zcq (zaz 7 12) (b+1)))=true:=by decide +kernel
theorem xqz:((List.range 60).all fun b=>zeh (zcq (zaz 8 4) (b+1)))=true:=by decide +kernel
theorem xra:((List.range 60).all fun b=>zeh (zcq (zaz 8 8) (b+1)))=true:=by decide +kernel
theorem xpa:((List.range 60).all fun b=>zeh (zcq (zaz 8 12) (b+1)))=true:=by decide +kernel
theorem xrb:((List.range 60).all fun b=>zeh (zcq (zaz 9 4) (b+1)))=true:=by decide +kernel
theorem xrc:((List.range 60).all fun b=>zeh (zcq (zaz 9 8) (b+1)))=true:=by decide +kernel
theorem xpb:((List.range 60).all fun b=>zeh (zcq (zaz 9 12) (b+1)))=true:=by decide +kernel
theorem xny:((List.range 60).all fun b=>zeh (zcq (zaz 10 4) (b+1)))=true:=by decide +kernel
theorem xnz:((List.range 60).all fun b=>zeh (zcq (zaz 10 8) (b+1)))=true:=by decide +kernel
theorem xkz:((List.range 60).all fun b=>zeh (zcq (zaz 10 12) (b+1)))=true:=by decide +kernel
theorem xoa:((List.range 60).all fun b=>zeh (zcq (zaz 11 4) (b+1)))=true:=by decide +kernel
theorem xob:((List.range 60).all fun b=>zeh (zcq (zaz 11 8) (b+1)))=true:=by decide +kernel
theorem xla:((List.range 60).all fun b=>zeh (zcq (zaz 11 12) (b+1)))=true:=by decide +kernel
theorem xoc:((List.range 60).all fun b=>zeh (zcq (zaz 12 4) (b+1)))=true:=by decide +kernel
theorem xod:((List.range 60).all fun b=>zeh (zcq (zaz 12 8) (b+1)))=true:=by decide +kernel
theorem xlb:((List.range 60).all fun b=>zeh (zcq (zaz 12 12) (b+1)))=true:=by decide +kernel
theorem xoe:((List.range 60).all fun b=>zeh (zcq (zaz 13 4) (b+1)))=true:=by decide +kernel
theorem xof:((List.range 60).all fun b=>zeh (zcq (zaz 13 8) (b+1)))=true:=by decide +kernel
theorem xlc:((List.range 60).all fun b=>zeh (zcq (zaz 13 12) (b+1)))=true:=by decide +kernel
theorem xog:((List.range 60).all fun b=>zeh (zcq (zaz 14 4) (b+1)))=true:=by decide +kernel
theorem xoh:((List.range 60).all fun b=>zeh (zcq (zaz 14 8) (b+1)))=true:=by decide +kernel
theorem xld:((List.range 60).all fun b=>zeh (zcq (zaz 14 12) (b+1)))=true:=by decide +kernel
theorem xoi:((List.range 60).all fun b=>zeh (zcq (zaz 15 4) (b+1)))=true:=by decide +kernel
theorem xoj:((List.range 60).all fun b=>zeh (zcq (zaz 15 8) (b+1)))=true:=by decide +kernel
theorem xle:((List.range 60).all fun b=>zeh (zcq (zaz 15 12) (b+1)))=true:=by decide +kernel
theorem xok:((List.range 60).all fun b=>zeh (zcq (zaz 16 4) (b+1)))=true:=by decide +kernel
theorem xol:((List.range 60).all fun b=>zeh (zcq (zaz 16 8) (b+1)))=true:=by decide +kernel
theorem xlf:((List.range 60).all fun b=>zeh (zcq (zaz 16 12) (b+1)))=true:=by decide +kernel
theorem xom:((List.range 60).all fun b=>zeh (zcq (zaz 17 4) (b+1)))=true:=by decide +kernel
theorem xon:((List.range 60).all fun b=>zeh (zcq (zaz 17 8) (b+1)))=true:=by decide +kernel
theorem xlg:((List.range 60).all fun b=>zeh (zcq (zaz 17 12) (b+1)))=true:=by decide +kernel
theorem xoo:((List.range 60).all fun b=>zeh (zcq (zaz 18 4) (b+1)))=true:=by decide +kernel
theorem xop:((List.range 60).all fun b=>zeh (zcq (zaz 18 8) (b+1)))=true:=by decide +kernel
theorem xlh:((List.range 60).all fun b=>zeh (zcq (zaz 18 12) (b+1)))=true:=by decide +kernel
theorem xoq:((List.range 60).all fun b=>zeh (zcq (zaz 19 4) (b+1)))=true:=by decide +kernel
theorem xos:((List.range 60).all fun b=>zeh (zcq (zaz 19 8) (b+1)))=true:=by decide +kernel
theorem xli:((List.range 60).all fun b=>zeh (zcq (zaz 19 12) (b+1)))=true:=by decide +kernel
end GM
end Tp
end Go.HL
