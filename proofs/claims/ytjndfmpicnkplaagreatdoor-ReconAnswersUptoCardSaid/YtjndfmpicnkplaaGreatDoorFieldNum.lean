/- Plain laws of layer 4: a number in digits is read again. No walk. -/
import Derived.Test.YtjndfmpicnkplaaGreatDoorFieldPlain
import Derived.Test.YtjndfmpicnkplaaGreatDoorWWords
namespace Go.Proofs.YtjndfmpicnkplaaGreatDoor.fieldl
open Go Go.Proofs.YtjndfmpicnkplaaGreatDoor.fieldp

end Go.Proofs.YtjndfmpicnkplaaGreatDoor.fieldl
