-- PRINTED BY print.sh 35421559b90ae4d0a3588c463048766b98c2df88dd9212a6774a882060cdf62d: not written by this session
import Derived.Test.YtbbaonaahokidaaPFreeSizesx0
namespace Go.Proofs.Ytbbaonaahokidaa.PFreeSizes
open Go.RowKit Go.Proofs.YtbbaonaahokidaaW.PrintWords Go.Proofs.YtbbaonaahokidaaW.PrintLast Go.Proofs.YtbbaonaahokidaaW.PrintMore
attribute [local go_sem] max2_int min2_int max_two min_two max_three min_three max_four min_four   -- for this text's walks alone
set_option linter.unusedVariables false
set_option linter.unusedSimpArgs false

-- NOT PRINTED: function 15 (free_New)

-- NOT PRINTED: function 16 (free_Free_Give)

-- NOT PRINTED: function 19 (free_Free_Len)

-- NOT PRINTED: function 17 (free_Free_Take)

-- NOT PRINTED: function 18 (free_Free_All)

-- NOT PRINTED: function 20 (free_Free_Has)

-- NOT PRINTED: function 21 (cablewaylaw04_awake)

-- NOT PRINTED: function 4 (cablewaylaw04_FreeSizes)

end Go.Proofs.Ytbbaonaahokidaa.PFreeSizes
