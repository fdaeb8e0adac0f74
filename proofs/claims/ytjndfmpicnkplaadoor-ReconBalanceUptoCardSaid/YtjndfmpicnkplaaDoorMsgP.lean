/- Layer 5 in plain words: a message's fields. No program in sight. -/
import Derived.KernelRfl
namespace Go.Proofs.YtjndfmpicnkplaaDoor.msgp
/-- A field: its number, its text. -/
abbrev Fld := Int × ByteArray
abbrev Flds := List Fld
def getM (F : Flds) (no : Int) : Option ByteArray := (F.find? fun x => decide (x.1 = no)).map (·.2)
def delM (F : Flds) (no : Int) : Flds := F.filter fun x => !decide (x.1 = no)
/-- Where a field goes: ahead of the first one of a greater number. -/
def spot (F : Flds) (no : Int) : Nat := F.findIdx fun x => decide (no < x.1)
def insM (F : Flds) (no : Int) (t : ByteArray) : Flds := F.take (spot F no) ++ (no, t) :: F.drop (spot F no)
def setM (F : Flds) (no : Int) (t : ByteArray) : Flds := insM (delM F no) no t
end Go.Proofs.YtjndfmpicnkplaaDoor.msgp
