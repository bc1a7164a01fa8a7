-- Written by a program of this session over the kit's printer (with contracts of the session's own).
import Derived.Test.YtiaacpjibhnhiaaDoorPAllx0
import Derived.Test.YtiaacpjibhnhiaaDoorPAllx1
import Derived.Test.YtiaacpjibhnhiaaDoorPAllx2
import Derived.Test.YtiaacpjibhnhiaaDoorPAllx3
import Derived.Test.YtiaacpjibhnhiaaDoorPAllx4
import Derived.Test.YtiaacpjibhnhiaaDoorPAllx5
import Derived.Test.YtiaacpjibhnhiaaDoorPAllx6
import Derived.Test.YtiaacpjibhnhiaaDoorPAllx7
import Derived.Test.YtiaacpjibhnhiaaDoorPAllx8
import Derived.Test.YtiaacpjibhnhiaaDoorPAllx9
import Derived.Test.YtiaacpjibhnhiaaDoorPAllx10
import Derived.Test.YtiaacpjibhnhiaaDoorPAllx11
import Derived.Test.YtiaacpjibhnhiaaDoorPAllx12
import Derived.Test.YtiaacpjibhnhiaaDoorPAllx13
namespace Go.Proofs.YtiaacpjibhnhiaaDoor.PAll
open Go.RowKit Go.Proofs.YtiaacpjibhnhiaaDoorW.PrintWords Go.Proofs.YtiaacpjibhnhiaaDoorW.PrintLast Go.Proofs.YtiaacpjibhnhiaaDoorW.PrintMore
attribute [local go_sem] max2_int min2_int max_two min_two max_three min_three max_four min_four   -- for this text's walks alone
set_option linter.unusedVariables false
set_option linter.unusedSimpArgs false

end Go.Proofs.YtiaacpjibhnhiaaDoor.PAll
