import Derived.Test.YtcffacpdjcfidaaGWWords
namespace Go.Proofs.YtcffacpdjcfidaaW.PrintWords
end Go.Proofs.YtcffacpdjcfidaaW.PrintWords
