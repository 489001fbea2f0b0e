/- Stable sorting of a list by a key, and merging: plain facts. -/
import Derived.Test.YticmofoeecjnhaaKit
namespace Go.HL
namespace Srt
section
variable {α : Type} (key : α → Int)
variable {key}
end
end Srt
end Go.HL
