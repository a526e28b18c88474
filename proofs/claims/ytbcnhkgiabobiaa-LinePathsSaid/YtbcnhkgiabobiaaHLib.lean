/- Functions of Go's library, by the kit's contracts, in the print's form. -/
import Derived.Test.YtbcnhkgiabobiaaHShelf
import Derived.Test.YtbcnhkgiabobiaaPLib
namespace Go.Proofs.Ytbcnhkgiabobiaa.Hp
open Go.RowKit Go.Proofs.YtbcnhkgiabobiaaW.PrintWords

def strings_IndexByte.f (a0 : ByteArray) (a1 : Int) : Option Int := some (Lib.indexByte a0.data.toList a1.toNat.toUInt8)
theorem strings_IndexByte.calls (a0 : ByteArray) (a1 : Int) (r : Int) (w : World) (h : strings_IndexByte.f a0 a1 = some r) :
    Calls Try.prog 8 #[.string a0, .int .u8 a1] w fun e w' => e = .returned (.int .i64 r) ∧ Drawn0 w w' := by
  injection h with h
  subst h
  refine (Try.strings_IndexByte a0 a1 w).mono ?_
  rintro e w' ⟨rfl, rfl⟩
  exact ⟨rfl, Drawn0.refl _⟩
end Go.Proofs.Ytbcnhkgiabobiaa.Hp
