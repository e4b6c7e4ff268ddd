/- The namespace of what is given. -/
import Derived.Test.YtdkoioiiacljeaaImE
import Derived.Test.YtdkoioiiacljeaaPaA
namespace Go.Proofs.Ytdkoioiiacljeaa.Ext
set_option linter.unusedVariables false
set_option linter.unusedSimpArgs false
end Go.Proofs.Ytdkoioiiacljeaa.Ext
