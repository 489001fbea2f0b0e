/- Walks, contracts and laws of the law's functions: part 6. No condition. -/
import Derived.Test.YticmofoeecjnhaaGreatQBe
open Go.Proofs
set_option maxHeartbeats 32000000
set_option maxRecDepth 100000
set_option linter.unusedSimpArgs false
namespace Go.HL
namespace Tp
namespace GM
theorem pa0:zbe 1=true:=by decide +kernel
theorem pa1:zbe 2=true:=by decide +kernel
theorem pa2:zbe 3=true:=by decide +kernel
theorem pa3:zbe 4=true:=by decide +kernel
theorem pa4:zbe 5=true:=by decide +kernel
theorem pa5:zbe 6=true:=by decide +kernel
theorem pa6:zbe 7=true:=by decide +kernel
theorem pa7:zbe 8=true:=by decide +kernel
theorem pa8:zbe 9=true:=by decide +kernel
theorem pa9:zbe 10=true:=by decide +kernel
theorem xjh:zbe 11=true:=by decide +kernel
theorem xji:zbe 12=true:=by decide +kernel
theorem xjj:zbe 13=true:=by decide +kernel
theorem xjk:zbe 14=true:=by decide +kernel
theorem xjl:zbe 15=true:=by decide +kernel
theorem xjm:zbe 16=true:=by decide +kernel
theorem xjn:zbe 17=true:=by decide +kernel
theorem xjo:zbe 18=true:=by decide +kernel
theorem xjp:zbe 19=true:=by decide +kernel
theorem xjq:zbe 20=true:=by decide +kernel
theorem xjr:zbe 21=true:=by decide +kernel
theorem xjs:zbe 22=true:=by decide +kernel
theorem xjt:zbe 23=true:=by decide +kernel
theorem xju:zbe 24=true:=by decide +kernel
theorem xjv:zbe 25=true:=by decide +kernel
theorem xjw:zbe 26=true:=by decide +kernel
theorem xjx:zbe 27=true:=by decide +kernel
theorem xjy:zbe 28=true:=by decide +kernel
theorem xjz:zbe 29=true:=by decide +kernel
theorem xka:zbe 30=true:=by decide +kernel
theorem xkb:zbe 31=true:=by decide +kernel
theorem xkc:zbe 32=true:=by decide +kernel
theorem xkd:zbe 33=true:=by decide +kernel
theorem xke:zbe 34=true:=by decide +kernel
theorem xkf:zbe 35=true:=by decide +kernel
theorem xkg:zbe 36=true:=by decide +kernel
theorem xkh:zbe 37=true:=by decide +kernel
theorem xki:zbe 38=true:=by decide +kernel
theorem xkj:zbe 39=true:=by decide +kernel
theorem xkk:zbe 40=true:=by decide +kernel
theorem xkl:zbe 41=true:=by decide +kernel
theorem xkm:zbe 42=true:=by decide +kernel
theorem xkn:zbe 43=true:=by decide +kernel
theorem xko:zbe 44=true:=by decide +kernel
theorem xkp:zbe 45=true:=by decide +kernel
theorem xkq:zbe 46=true:=by decide +kernel
theorem xkr:zbe 47=true:=by decide +kernel
theorem xks:zbe 48=true:=by decide +kernel
theorem xkt:zbe 49=true:=by decide +kernel
theorem xku:zbe 50=true:=by decide +kernel
theorem xkv:zbe 51=true:=by decide +kernel
theorem xkw:zbe 52=true:=by decide +kernel
theorem xkx:zbe 53=true:=by decide +kernel
theorem xky:zbe 54=true:=by decide +kernel
theorem xkz:zbe 55=true:=by decide +kernel
theorem xla:zbe 56=true:=by decide +kernel
theorem xlb:zbe 57=true:=by decide +kernel
theorem xlc:zbe 58=true:=by decide +kernel
theorem xld:zbe 59=true:=by decide +kernel
theorem xle:zbe 60=true:=by decide +kernel
end GM
end Tp
end Go.HL
