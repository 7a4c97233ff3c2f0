/- What functions of Go's library do, in plain words: strings.Split, Cut, Join, strconv.Itoa. No condition. -/
import Derived.Test.YtmnekhlgldljcaaGreatDoorAmLim
import Derived.Lib.Split
import Derived.Lib.IndexMore
import Derived.Lib.Join
import Derived.Lib.ItoaNum
set_option linter.unusedVariables false
namespace Go.AM.P
open Go.AM
def S_strings_Split (s sep : ByteArray) : Option ((List ByteArray × Unit) × Unit) :=
  if s.size < 4294967281 ∧ 1 ≤ sep.size then some ((Lib.splitB sep 0 (Lib.countB s sep) s, ()), ()) else none
def S_strings_Cut (s sep : ByteArray) : Option ((ByteArray × ByteArray × Bool × Unit) × Unit) :=
  if s.size < 4294967281 then some ((⟨(Lib.cut s.data.toList sep.data.toList).1.toArray⟩, ⟨(Lib.cut s.data.toList sep.data.toList).2.1.toArray⟩, (Lib.cut s.data.toList sep.data.toList).2.2, ()), ()) else none
def S_strings_Join (xs : List ByteArray) (sep : ByteArray) : Option ((ByteArray × Unit) × Unit) :=
  if xs.length ≤ 140737488355328 ∧ (Lib.join (xs.map (·.data.toList)) sep.data.toList).length ≤ 140737488355328 then some ((⟨(Lib.join (xs.map (·.data.toList)) sep.data.toList).toArray⟩, ()), ()) else none
def S_strconv_Itoa (n : Int) : Option ((ByteArray × Unit) × Unit) :=
  if -9223372036854775808 ≤ n ∧ n ≤ 9223372036854775807 then some ((⟨(Lib.itoa n).toArray⟩, ()), ()) else none
end Go.AM.P
