/- NegActs walked; the acts that came in, opened. -/
import Derived.Test.YtagnbdenecphcaaGreatDoorLawActs
import Derived.Test.YtagnbdenecphcaaGreatDoorActsIn
namespace Go.Proofs.YtagnbdenecphcaaGreatDoor
theorem acts_end : True := trivial
end Go.Proofs.YtagnbdenecphcaaGreatDoor
