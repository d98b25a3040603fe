/- The contracts of the library functions that the printed walks of the lex seat call, in their form. -/
import Derived.Shelf.Strings.SlTrimAscii
import Derived.Test.YtbdmhlocafpehaaDoorAux
import Derived.Test.YtbdmhlocafpehaaDoorShelf
namespace Go.Proofs.YtbdmhlocafpehaaDoor
open Go.Lib Go.RowKit Go.Proofs.YtbdmhlocafpehaaDoorW.PrintWords Go.Proofs.YtbdmhlocafpehaaDoorW.PrintLast Go.Proofs.YtbdmhlocafpehaaDoorW.PrintMore
def asciiB (s : ByteArray) : Bool := s.data.toList.all fun b => decide (b.toNat < 128)
theorem asciiB_at {s : ByteArray} (h : asciiB s = true) (j : Nat) (b : UInt8) (hj : s.data.toList[j]? = some b) : b.toNat < 128 :=
  of_decide_eq_true (List.all_eq_true.1 h b (List.mem_of_getElem? hj))

/-- strings.Trim at a cutset of ASCII bytes. -/
def strings_Trim.f (s cs : ByteArray) : Option ByteArray :=
  if s.size ≤ 9223372036854775807 ∧ cs.size < 100 ∧ asciiB cs = true then some ⟨(Lib.trimS s.data.toList cs.data.toList).toArray⟩ else none
theorem strings_Trim.calls (a0 a1 : ByteArray) (r : ByteArray) (w : World) (h : strings_Trim.f a0 a1 = some r) :
    Calls Tryd.prog 17 #[.string a0, .string a1] w fun e w' => e = .returned (.string r) ∧ Below w.heap.size w w' := by
  unfold strings_Trim.f at h
  split at h
  · rename_i hc
    obtain rfl := Option.some.inj h
    exact Any.strings_Trim_laid Tryd.lays160 (by kernel_rfl) a0 a1 w hc.1 (by omega) (asciiB_at hc.2.2)
  · cases h

end Go.Proofs.YtbdmhlocafpehaaDoor
