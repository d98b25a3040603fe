/- find.Match of a message without a body. -/
import Derived.Test.YtejhfghijgbckaaGreatDoorFindC
namespace Go.Proofs.YtejhfghijgbckaaGreatDoor
open Go.RowKit Go.Proofs.YtejhfghijgbckaaGreatDoor.P Go.Proofs.YtejhfghijgbckaaGreatDoorW.PrintWords Go.Proofs.YtejhfghijgbckaaGreatDoorW.PrintLast Go.Proofs.YtejhfghijgbckaaGreatDoorW.PrintMore
theorem find_Match_nil (k : Nat) (a0 a1 : Int) (a2 a3 : ByteArray) (A4 : Option Addr) (c4 : Nat) (a4 : List Rg) (A5 : Option Addr) (c5 : Nat) (a5 : List Key) (m0 m1 m2 : Int) (pl la lu : Int) (r : Bool) (w : World) (g4 : Kd.C kRg w A4 a4.length a4) (l4 : a4.length ≤ c4) (g5 : Kd.C kKey w A5 a5.length a5) (l5 : a5.length ≤ c5) (HL : Laid w)
    (h : find_Match.f k a0 a1 a2 a3 a4 a5 m0 m1 m2 ([] : List Int) pl la lu = some r) :
    Calls Tryz.prog 17 #[.agg #[.int .i64 a0, .int .i64 a1, .string a2, .string a3, .slice A4 a4.length c4, .slice A5 a5.length c5], .agg #[.int .i64 m0, .int .i64 m1, .int .i64 m2, .slice none 0 0], .int .i64 pl, .int .i64 la, .int .i64 lu] w fun e w' => e = .returned (.bool r) ∧ Below w.heap.size w w' :=
  find_Match.calls k a0 a1 a2 a3 A4 c4 a4 A5 c5 a5 m0 m1 m2 none 0 ([] : List Int) pl la lu r w g4 l4 g5 l5 (Kd.C_nil _ _) (Nat.le_refl _) HL h
end Go.Proofs.YtejhfghijgbckaaGreatDoor
