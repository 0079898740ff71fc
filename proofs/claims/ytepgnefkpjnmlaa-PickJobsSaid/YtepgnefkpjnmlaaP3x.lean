-- printed by gprint.py (own tool) over the kit's print
import Derived.Test.YtepgnefkpjnmlaaP3x0
import Derived.Test.YtepgnefkpjnmlaaP3x1
import Derived.Test.YtepgnefkpjnmlaaP3x2
import Derived.Test.YtepgnefkpjnmlaaP3x3
import Derived.Test.YtepgnefkpjnmlaaP3x4
import Derived.Test.YtepgnefkpjnmlaaP3x5
import Derived.Test.YtepgnefkpjnmlaaP3x6
namespace Go.Proofs.Ytepgnefkpjnmlaa.P3
open Go.RowKit Go.Proofs.Ytepgnefkpjnmlaa Go.Proofs.YtepgnefkpjnmlaaW.PrintWords Go.Proofs.YtepgnefkpjnmlaaW.PrintLast Go.Proofs.YtepgnefkpjnmlaaW.PrintMore
attribute [local go_sem] max2_int min2_int max_two min_two max_three min_three max_four min_four   -- for this text's walks alone
attribute [local go_sem] min2_str max2_str leq_str gtr_str geq_str
set_option linter.unusedVariables false
set_option linter.unusedSimpArgs false

end Go.Proofs.Ytepgnefkpjnmlaa.P3
