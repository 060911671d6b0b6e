/- What is proved: nothing: which equations the evaluator is stepped with. No condition. -/
import Derived.Test.YtdlonbcefhimaaaXD21
namespace Go.Proofs.Ytdlonbcefhimaaa.XD
open Go Go.RowKit
set_option linter.all false
attribute [simp] runK_nil runK_blk runK_skip runK_ret runK_exit exitK_code exitK_blk runK_reg runK_seq runK_block xCond brT brF opsK_nil xOp stS gdTT gdTF gdFT gdFF gdO anTT anFT anTF anFF kUd kUd0 keeps offs opB opD mk_ev evJ lkJ lk mk_put mk_put0 mk_getS mk_keep pickJ idxJ evs binD intD resD slots resV partD DV.cells DV.one elemAt snap DV.loose lowN DV.ok DV.oks DV.okss outS outI splice lookT noB fillD fillE bound headLen elems sameC sameCs DV.still DV.stills chT chF chO chB
attribute [simp high] xAn xOr
attribute [simp low] xGd
end Go.Proofs.Ytdlonbcefhimaaa.XD
