/- crc.Join: walked by hand. -/
import Derived.Test.YtdcggaaaknafmaaJoin
namespace Go.Proofs.Ytdcggaaaknafmaa.PAll
/-! ### crc_Join: function 22 -/
end Go.Proofs.Ytdcggaaaknafmaa.PAll
