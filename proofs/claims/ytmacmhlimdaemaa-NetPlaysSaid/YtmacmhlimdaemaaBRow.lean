/- Write and Read, on rows of bytes as assertions. -/
import Derived.Test.YtmacmhlimdaemaaBRowA
import Derived.Test.YtmacmhlimdaemaaPktBase
namespace Go.Proofs.Ytmacmhlimdaemaa.Pkt
open Go.RowKit Go.Proofs.YtmacmhlimdaemaaW.PrintWords Go.Proofs.Ytmacmhlimdaemaa.R
open Go.Proofs.Ytmacmhlimdaemaa.Ext
section
variable {w0 w w' : World} {L : List Asn}
/-- Write, whatever comes -/
theorem write_any (e o a : Nat) (d : List Int) (he : e < 4294967296) (hd : okB d = true) (A : Option Addr) (c : Nat) (hC : Kd.C (Kd.int .u8) w A d.length d) (hc : d.length ≤ c) (hS : Sep w0 w L) :
    Calls Try.prog 22 #[.agg #[.int .u32 (e : Int), .int .u64 (o : Int), .int .u64 (a : Int), .slice A d.length c]] w fun en w' => ∃ v, en = .returned (.tuple #[v, .int .i64 (writeS e o a d).2]) ∧ Sep w0 w' (BRow v (writeS e o a d).1 :: L) :=
  (packet_Write.calls 27 e o a A c d (writeS e o a d).1 (writeS e o a d).2 w hC hc (write_at e o a d he hd (Nat.le_refl _))).mono fun _ _ ⟨v, he, hR, hb⟩ => ⟨v, he, bofR hS hb hR⟩
/-- Read, whatever comes -/
theorem read_any (l : List Int) (hl : okB l = true) (A : Option Addr) (c : Nat) (hC : Kd.C (Kd.int .u8) w A l.length l) (hc : l.length ≤ c) (hS : Sep w0 w L) :
    Calls Try.prog 26 #[.slice A l.length c] w fun en w' => ∃ v, en = .returned (.tuple #[.agg #[.int .u32 (readS l).1, .int .u64 (readS l).2.1, .int .u64 (readS l).2.2.1, v], .int .i64 (readS l).2.2.2.2]) ∧ Sep w0 w' (BRow v (readS l).2.2.2.1 :: L) :=
  (packet_Read.calls 27 A c l _ _ _ _ _ w hC hc (read_at l hl (Nat.le_refl _))).mono fun _ _ ⟨v, he, hR, hb⟩ => ⟨v, he, bofR hS hb hR⟩
theorem writes_any (w : World) : Calls Try.prog 25 #[] w fun e w' => e = .returned (.bool true) ∧ Below w.heap.size w w' := vignettelaw21_writes.calls 27 true w (writes_at (Nat.le_refl _))
end
end Go.Proofs.Ytmacmhlimdaemaa.Pkt
