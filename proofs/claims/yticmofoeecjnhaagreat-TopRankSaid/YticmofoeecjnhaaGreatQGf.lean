/- Walks, contracts and laws of the law's functions: part 6. No condition. -/
import Derived.Test.YticmofoeecjnhaaGreatQGe
open Go.Proofs
set_option maxHeartbeats 32000000
set_option maxRecDepth 100000
set_option linter.unusedSimpArgs false
namespace Go.HL
namespace Tp
namespace GM
theorem xja:(((List.range 4).all fun b=>zha (zib 40 (b+1)))&&!(send (new []) (cut 40)).todo.isEmpty)=true:=by decide +kernel
theorem xjb:(((List.range 4).all fun b=>zha (zib 41 (b+1)))&&!(send (new []) (cut 41)).todo.isEmpty)=true:=by decide +kernel
theorem xjc:(((List.range 4).all fun b=>zha (zib 42 (b+1)))&&!(send (new []) (cut 42)).todo.isEmpty)=true:=by decide +kernel
theorem xjd:(((List.range 4).all fun b=>zha (zib 43 (b+1)))&&!(send (new []) (cut 43)).todo.isEmpty)=true:=by decide +kernel
theorem xje:(((List.range 4).all fun b=>zha (zib 44 (b+1)))&&!(send (new []) (cut 44)).todo.isEmpty)=true:=by decide +kernel
theorem xjf:(((List.range 4).all fun b=>zha (zib 45 (b+1)))&&!(send (new []) (cut 45)).todo.isEmpty)=true:=by decide +kernel
theorem xjg:(((List.range 4).all fun b=>zha (zib 46 (b+1)))&&!(send (new []) (cut 46)).todo.isEmpty)=true:=by decide +kernel
theorem xjh:(((List.range 4).all fun b=>zha (zib 47 (b+1)))&&!(send (new []) (cut 47)).todo.isEmpty)=true:=by decide +kernel
theorem xji:(((List.range 4).all fun b=>zha (zib 48 (b+1)))&&!(send (new []) (cut 48)).todo.isEmpty)=true:=by decide +kernel
theorem xjj:(((List.range 4).all fun b=>zha (zib 49 (b+1)))&&!(send (new []) (cut 49)).todo.isEmpty)=true:=by decide +kernel
theorem xjk:(((List.range 4).all fun b=>zha (zib 50 (b+1)))&&!(send (new []) (cut 50)).todo.isEmpty)=true:=by decide +kernel
theorem xjl:(((List.range 4).all fun b=>zha (zib 51 (b+1)))&&!(send (new []) (cut 51)).todo.isEmpty)=true:=by decide +kernel
theorem xjm:(((List.range 4).all fun b=>zha (zib 52 (b+1)))&&!(send (new []) (cut 52)).todo.isEmpty)=true:=by decide +kernel
theorem xjn:(((List.range 4).all fun b=>zha (zib 53 (b+1)))&&!(send (new []) (cut 53)).todo.isEmpty)=true:=by decide +kernel
theorem xjo:(((List.range 4).all fun b=>zha (zib 54 (b+1)))&&!(send (new []) (cut 54)).todo.isEmpty)=true:=by decide +kernel
theorem xjp:(((List.range 4).all fun b=>zha (zib 55 (b+1)))&&!(send (new []) (cut 55)).todo.isEmpty)=true:=by decide +kernel
theorem xjq:(((List.range 4).all fun b=>zha (zib 56 (b+1)))&&!(send (new []) (cut 56)).todo.isEmpty)=true:=by decide +kernel
theorem xjr:(((List.range 4).all fun b=>zha (zib 57 (b+1)))&&!(send (new []) (cut 57)).todo.isEmpty)=true:=by decide +kernel
theorem xjs:(((List.range 4).all fun b=>zha (zib 58 (b+1)))&&!(send (new []) (cut 58)).todo.isEmpty)=true:=by decide +kernel
theorem xjt:(((List.range 4).all fun b=>zha (zib 59 (b+1)))&&!(send (new []) (cut 59)).todo.isEmpty)=true:=by decide +kernel
theorem xju:(((List.range 4).all fun b=>zha (zib 60 (b+1)))&&!(send (new []) (cut 60)).todo.isEmpty)=true:=by decide +kernel
end GM
end Tp
end Go.HL
