/- Walks, contracts and laws of the law's functions: part 6. No condition. -/
import Derived.Test.YticmofoeecjnhaaGreatQHe
open Go.Proofs
set_option maxHeartbeats 32000000
set_option maxRecDepth 100000
set_option linter.unusedSimpArgs false
namespace Go.HL
namespace Tp
namespace GM
theorem ro0:((List.range 12).all fun t=>zed (zbs 1 (t+1)))=true:=by decide +kernel
theorem ro1:((List.range 12).all fun t=>zed (zbs 2 (t+1)))=true:=by decide +kernel
theorem ro2:((List.range 12).all fun t=>zed (zbs 3 (t+1)))=true:=by decide +kernel
theorem ro3:((List.range 12).all fun t=>zed (zbs 4 (t+1)))=true:=by decide +kernel
theorem ro4:((List.range 12).all fun t=>zed (zbs 5 (t+1)))=true:=by decide +kernel
theorem ro5:((List.range 12).all fun t=>zed (zbs 6 (t+1)))=true:=by decide +kernel
theorem ro6:((List.range 12).all fun t=>zed (zbs 7 (t+1)))=true:=by decide +kernel
theorem ro7:((List.range 12).all fun t=>zed (zbs 8 (t+1)))=true:=by decide +kernel
theorem ro8:((List.range 12).all fun t=>zed (zbs 9 (t+1)))=true:=by decide +kernel
theorem ro9:((List.range 12).all fun t=>zed (zbs 10 (t+1)))=true:=by decide +kernel
theorem xiv:((List.range 12).all fun t=>zed (zbs 11 (t+1)))=true:=by decide +kernel
theorem xiw:((List.range 12).all fun t=>zed (zbs 12 (t+1)))=true:=by decide +kernel
theorem xix:((List.range 12).all fun t=>zed (zbs 13 (t+1)))=true:=by decide +kernel
theorem xiy:((List.range 12).all fun t=>zed (zbs 14 (t+1)))=true:=by decide +kernel
theorem xiz:((List.range 12).all fun t=>zed (zbs 15 (t+1)))=true:=by decide +kernel
theorem xja:((List.range 12).all fun t=>zed (zbs 16 (t+1)))=true:=by decide +kernel
theorem xjb:((List.range 12).all fun t=>zed (zbs 17 (t+1)))=true:=by decide +kernel
theorem xjc:((List.range 12).all fun t=>zed (zbs 18 (t+1)))=true:=by decide +kernel
theorem xjd:((List.range 12).all fun t=>zed (zbs 19 (t+1)))=true:=by decide +kernel
theorem xje:((List.range 12).all fun t=>zed (zbs 20 (t+1)))=true:=by decide +kernel
end GM
end Tp
namespace Tp
namespace GM
theorem xjf:((List.range 12).all fun t=>zed (zbs 21 (t+1)))=true:=by decide +kernel
theorem xjg:((List.range 12).all fun t=>zed (zbs 22 (t+1)))=true:=by decide +kernel
theorem xjh:((List.range 12).all fun t=>zed (zbs 23 (t+1)))=true:=by decide +kernel
theorem xji:((List.range 12).all fun t=>zed (zbs 24 (t+1)))=true:=by decide +kernel
theorem xjj:((List.range 12).all fun t=>zed (zbs 25 (t+1)))=true:=by decide +kernel
theorem xjk:((List.range 12).all fun t=>zed (zbs 26 (t+1)))=true:=by decide +kernel
theorem xjl:((List.range 12).all fun t=>zed (zbs 27 (t+1)))=true:=by decide +kernel
theorem xjm:((List.range 12).all fun t=>zed (zbs 28 (t+1)))=true:=by decide +kernel
theorem xjn:((List.range 12).all fun t=>zed (zbs 29 (t+1)))=true:=by decide +kernel
theorem xjo:((List.range 12).all fun t=>zed (zbs 30 (t+1)))=true:=by decide +kernel
theorem xjp:((List.range 12).all fun t=>zed (zbs 31 (t+1)))=true:=by decide +kernel
theorem xjq:((List.range 12).all fun t=>zed (zbs 32 (t+1)))=true:=by decide +kernel
theorem xjr:((List.range 12).all fun t=>zed (zbs 33 (t+1)))=true:=by decide +kernel
theorem xjs:((List.range 12).all fun t=>zed (zbs 34 (t+1)))=true:=by decide +kernel
theorem xjt:((List.range 12).all fun t=>zed (zbs 35 (t+1)))=true:=by decide +kernel
theorem xju:((List.range 12).all fun t=>zed (zbs 36 (t+1)))=true:=by decide +kernel
theorem xjv:((List.range 12).all fun t=>zed (zbs 37 (t+1)))=true:=by decide +kernel
theorem xjw:((List.range 12).all fun t=>zed (zbs 38 (t+1)))=true:=by decide +kernel
theorem xjx:((List.range 12).all fun t=>zed (zbs 39 (t+1)))=true:=by decide +kernel
theorem xjy:((List.range 12).all fun t=>zed (zbs 40 (t+1)))=true:=by decide +kernel
end GM
end Tp
namespace Tp
namespace GM
theorem xjz:((List.range 12).all fun t=>zed (zbs 41 (t+1)))=true:=by decide +kernel
theorem xka:((List.range 12).all fun t=>zed (zbs 42 (t+1)))=true:=by decide +kernel
theorem xkb:((List.range 12).all fun t=>zed (zbs 43 (t+1)))=true:=by decide +kernel
theorem xkc:((List.range 12).all fun t=>zed (zbs 44 (t+1)))=true:=by decide +kernel
theorem xkd:((List.range 12).all fun t=>zed (zbs 45 (t+1)))=true:=by decide +kernel
theorem xke:((List.range 12).all fun t=>zed (zbs 46 (t+1)))=true:=by decide +kernel
theorem xkf:((List.range 12).all fun t=>zed (zbs 47 (t+1)))=true:=by decide +kernel
theorem xkg:((List.range 12).all fun t=>zed (zbs 48 (t+1)))=true:=by decide +kernel
theorem xkh:((List.range 12).all fun t=>zed (zbs 49 (t+1)))=true:=by decide +kernel
theorem xki:((List.range 12).all fun t=>zed (zbs 50 (t+1)))=true:=by decide +kernel
theorem xkj:((List.range 12).all fun t=>zed (zbs 51 (t+1)))=true:=by decide +kernel
theorem xkk:((List.range 12).all fun t=>zed (zbs 52 (t+1)))=true:=by decide +kernel
theorem xkl:((List.range 12).all fun t=>zed (zbs 53 (t+1)))=true:=by decide +kernel
theorem xkm:((List.range 12).all fun t=>zed (zbs 54 (t+1)))=true:=by decide +kernel
theorem xkn:((List.range 12).all fun t=>zed (zbs 55 (t+1)))=true:=by decide +kernel
theorem xko:((List.range 12).all fun t=>zed (zbs 56 (t+1)))=true:=by decide +kernel
theorem xkp:((List.range 12).all fun t=>zed (zbs 57 (t+1)))=true:=by decide +kernel
theorem xkq:((List.range 12).all fun t=>zed (zbs 58 (t+1)))=true:=by decide +kernel
theorem xkr:((List.range 12).all fun t=>zed (zbs 59 (t+1)))=true:=by decide +kernel
theorem xks:((List.range 12).all fun t=>zed (zbs 60 (t+1)))=true:=by decide +kernel
end GM
end Tp
end Go.HL
