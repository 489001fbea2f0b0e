/- Walks, contracts and laws of the law's functions: part 6. No condition. -/
import Derived.Test.YticmofoeecjnhaaGreatQCe
open Go.Proofs
set_option maxHeartbeats 32000000
set_option maxRecDepth 100000
set_option linter.unusedSimpArgs false
namespace Go.HL
namespace Tp
namespace GM
theorem fi0:((List.range 60).all fun b=>zeb (zbt 1 (b+1)))=true:=by decide +kernel
theorem fi1:((List.range 60).all fun b=>zeb (zbt 2 (b+1)))=true:=by decide +kernel
theorem fi2:((List.range 60).all fun b=>zeb (zbt 3 (b+1)))=true:=by decide +kernel
theorem fi3:((List.range 60).all fun b=>zeb (zbt 4 (b+1)))=true:=by decide +kernel
theorem fi4:((List.range 60).all fun b=>zeb (zbt 5 (b+1)))=true:=by decide +kernel
theorem fi5:((List.range 60).all fun b=>zeb (zbt 6 (b+1)))=true:=by decide +kernel
theorem fi6:((List.range 60).all fun b=>zeb (zbt 7 (b+1)))=true:=by decide +kernel
theorem fi7:((List.range 60).all fun b=>zeb (zbt 8 (b+1)))=true:=by decide +kernel
theorem fi8:((List.range 60).all fun b=>zeb (zbt 9 (b+1)))=true:=by decide +kernel
theorem fi9:((List.range 60).all fun b=>zeb (zbt 10 (b+1)))=true:=by decide +kernel
theorem xiv:((List.range 60).all fun b=>zeb (zbt 11 (b+1)))=true:=by decide +kernel
theorem xiw:((List.range 60).all fun b=>zeb (zbt 12 (b+1)))=true:=by decide +kernel
theorem xix:((List.range 60).all fun b=>zeb (zbt 13 (b+1)))=true:=by decide +kernel
theorem xiy:((List.range 60).all fun b=>zeb (zbt 14 (b+1)))=true:=by decide +kernel
theorem xiz:((List.range 60).all fun b=>zeb (zbt 15 (b+1)))=true:=by decide +kernel
theorem xja:((List.range 60).all fun b=>zeb (zbt 16 (b+1)))=true:=by decide +kernel
theorem xjb:((List.range 60).all fun b=>zeb (zbt 17 (b+1)))=true:=by decide +kernel
theorem xjc:((List.range 60).all fun b=>zeb (zbt 18 (b+1)))=true:=by decide +kernel
theorem xjd:((List.range 60).all fun b=>zeb (zbt 19 (b+1)))=true:=by decide +kernel
theorem xje:((List.range 60).all fun b=>zeb (zbt 20 (b+1)))=true:=by decide +kernel
end GM
end Tp
namespace Tp
namespace GM
theorem xjf:((List.range 60).all fun b=>zeb (zbt 21 (b+1)))=true:=by decide +kernel
theorem xjg:((List.range 60).all fun b=>zeb (zbt 22 (b+1)))=true:=by decide +kernel
theorem xjh:((List.range 60).all fun b=>zeb (zbt 23 (b+1)))=true:=by decide +kernel
theorem xji:((List.range 60).all fun b=>zeb (zbt 24 (b+1)))=true:=by decide +kernel
theorem xjj:((List.range 60).all fun b=>zeb (zbt 25 (b+1)))=true:=by decide +kernel
theorem xjk:((List.range 60).all fun b=>zeb (zbt 26 (b+1)))=true:=by decide +kernel
theorem xjl:((List.range 60).all fun b=>zeb (zbt 27 (b+1)))=true:=by decide +kernel
theorem xjm:((List.range 60).all fun b=>zeb (zbt 28 (b+1)))=true:=by decide +kernel
theorem xjn:((List.range 60).all fun b=>zeb (zbt 29 (b+1)))=true:=by decide +kernel
theorem xjo:((List.range 60).all fun b=>zeb (zbt 30 (b+1)))=true:=by decide +kernel
theorem xjp:((List.range 60).all fun b=>zeb (zbt 31 (b+1)))=true:=by decide +kernel
theorem xjq:((List.range 60).all fun b=>zeb (zbt 32 (b+1)))=true:=by decide +kernel
theorem xjr:((List.range 60).all fun b=>zeb (zbt 33 (b+1)))=true:=by decide +kernel
theorem xjs:((List.range 60).all fun b=>zeb (zbt 34 (b+1)))=true:=by decide +kernel
theorem xjt:((List.range 60).all fun b=>zeb (zbt 35 (b+1)))=true:=by decide +kernel
theorem xju:((List.range 60).all fun b=>zeb (zbt 36 (b+1)))=true:=by decide +kernel
theorem xjv:((List.range 60).all fun b=>zeb (zbt 37 (b+1)))=true:=by decide +kernel
theorem xjw:((List.range 60).all fun b=>zeb (zbt 38 (b+1)))=true:=by decide +kernel
theorem xjx:((List.range 60).all fun b=>zeb (zbt 39 (b+1)))=true:=by decide +kernel
theorem xjy:((List.range 60).all fun b=>zeb (zbt 40 (b+1)))=true:=by decide +kernel
end GM
end Tp
namespace Tp
namespace GM
theorem xjz:((List.range 60).all fun b=>zeb (zbt 41 (b+1)))=true:=by decide +kernel
theorem xka:((List.range 60).all fun b=>zeb (zbt 42 (b+1)))=true:=by decide +kernel
theorem xkb:((List.range 60).all fun b=>zeb (zbt 43 (b+1)))=true:=by decide +kernel
theorem xkc:((List.range 60).all fun b=>zeb (zbt 44 (b+1)))=true:=by decide +kernel
theorem xkd:((List.range 60).all fun b=>zeb (zbt 45 (b+1)))=true:=by decide +kernel
theorem xke:((List.range 60).all fun b=>zeb (zbt 46 (b+1)))=true:=by decide +kernel
theorem xkf:((List.range 60).all fun b=>zeb (zbt 47 (b+1)))=true:=by decide +kernel
theorem xkg:((List.range 60).all fun b=>zeb (zbt 48 (b+1)))=true:=by decide +kernel
theorem xkh:((List.range 60).all fun b=>zeb (zbt 49 (b+1)))=true:=by decide +kernel
theorem xki:((List.range 60).all fun b=>zeb (zbt 50 (b+1)))=true:=by decide +kernel
theorem xkj:((List.range 60).all fun b=>zeb (zbt 51 (b+1)))=true:=by decide +kernel
theorem xkk:((List.range 60).all fun b=>zeb (zbt 52 (b+1)))=true:=by decide +kernel
theorem xkl:((List.range 60).all fun b=>zeb (zbt 53 (b+1)))=true:=by decide +kernel
theorem xkm:((List.range 60).all fun b=>zeb (zbt 54 (b+1)))=true:=by decide +kernel
theorem xkn:((List.range 60).all fun b=>zeb (zbt 55 (b+1)))=true:=by decide +kernel
theorem xko:((List.range 60).all fun b=>zeb (zbt 56 (b+1)))=true:=by decide +kernel
theorem xkp:((List.range 60).all fun b=>zeb (zbt 57 (b+1)))=true:=by decide +kernel
theorem xkq:((List.range 60).all fun b=>zeb (zbt 58 (b+1)))=true:=by decide +kernel
theorem xkr:((List.range 60).all fun b=>zeb (zbt 59 (b+1)))=true:=by decide +kernel
theorem xks:((List.range 60).all fun b=>zeb (zbt 60 (b+1)))=true:=by decide +kernel
end GM
end Tp
end Go.HL
