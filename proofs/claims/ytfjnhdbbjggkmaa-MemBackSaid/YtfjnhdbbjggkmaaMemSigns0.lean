/- The law MemSigns: its call answers true. -/
import Derived.Test.YtfjnhdbbjggkmaaMemBytesW
set_option linter.unusedVariables false
set_option linter.unusedSimpArgs false
namespace Go.Proofs.Ytfjnhdbbjggkmaa.Mem
open Go.RowKit Go.Proofs.YtfjnhdbbjggkmaaW.PrintWords Go.Proofs.YtfjnhdbbjggkmaaW.PrintLast Go.Proofs.YtfjnhdbbjggkmaaW.PrintMore Go.Proofs.Ytfjnhdbbjggkmaa.PMemBytes
theorem load_s (ad : Addr) (l : List Int) (cap n : Nat) (op base off r : Int) (w : World) (hw : ldW op = some n) (hr : Kd.C (Kd.int .u8) w (some ad) l.length l) (hcap : l.length ≤ cap) (hB : ByteL l)
    (hb : 0 ≤ base ∧ base < 4294967296) (ho : 0 ≤ off ∧ off < 4294967296) (hfit : (base + off).toNat + n ≤ l.length) (hs : mem_signed.f op (leP l (base + off).toNat n) = some r) :
    Calls Try.prog 14 #[.slice (some ad) l.length cap, .int .i64 op, .int .u64 base, .int .u32 off] w fun e w' => e = .returned (.tuple #[.int .u64 r, .int .i64 0]) ∧ Drawn0 w w' := by
  have ha := atOf_small base off hb ho
  have hn := (ldW_ok hw).2
  refine load_yes ad l cap n op base off r w hw hr hcap (by rw [ha]; exact hfit) ?_
  rw [ha, leF_eq hB n _ hn.2]
  exact hs
theorem load_f (A0 : Option Addr) (len cap n : Nat) (op base off : Int) (w : World) (hw : ldW op = some n) (hl : len ≤ 9223372036854775807) (hb : 0 ≤ base ∧ base < 4294967296) (ho : 0 ≤ off ∧ off < 4294967296) (hfit : len < (base + off).toNat + n) :
    Calls Try.prog 14 #[.slice A0 len cap, .int .i64 op, .int .u64 base, .int .u32 off] w fun e w' => e = .returned (.tuple #[.int .u64 0, .int .i64 7]) ∧ Drawn0 w w' :=
  load_no A0 len cap n op base off w hw hl (by rw [atOf_small base off hb ho]; exact hfit)
theorem or_high (b w : Nat) (hb : b ≤ 64) (hw : w < 2 ^ b) : Go.bits .or .u64 (w : Int) ((2 ^ 64 - 2 ^ b : Nat) : Int) = ((w + (2 ^ 64 - 2 ^ b) : Nat) : Int) := by
  have h1 : 2 ^ b ≤ 2 ^ 64 := Nat.pow_le_pow_right (by decide) hb
  have h2 := Nat.two_pow_pos b
  rw [u64_or_nat _ _ (by omega) (by omega)]
  have e : 2 ^ 64 - 2 ^ b = (2 ^ (64 - b) - 1) <<< b := by
    rw [Nat.shiftLeft_eq, Nat.sub_mul, ← Nat.pow_add, Nat.one_mul, show 64 - b + b = 64 by omega]
  rw [Nat.or_comm, e, ← Nat.shiftLeft_add_eq_or_of_lt hw]
  congr 1
  omega
theorem sp44 (x : Int) (h0 : 0 ≤ x) (h1 : x < 128) : mem_signed.f 44 x = some x := by
  show some _ = some x
  refine congrArg some ?_
  simp only [wrap_u64k, wrap64, wrap32, IntKind.wrap, IntKind.bits, IntKind.signed]
  simp
  omega
theorem sm44 (x : Int) (h0 : 128 ≤ x) (h1 : x < 256) : mem_signed.f 44 x = some (x + 4294967040) := by
  show some _ = some (x + 4294967040)
  refine congrArg some ?_
  simp only [wrap_u64k, wrap64, wrap32, IntKind.wrap, IntKind.bits, IntKind.signed]
  simp
  omega
theorem sg47 (v : Int) : mem_signed.f 47 v = some v := rfl
theorem sp46 (x : Int) (h0 : 0 ≤ x) (h1 : x < 32768) : mem_signed.f 46 x = some x := by
  show some _ = some x
  refine congrArg some ?_
  simp only [wrap_u64k, wrap64, wrap32, IntKind.wrap, IntKind.bits, IntKind.signed]
  simp
  omega
theorem sm46 (x : Int) (h0 : 32768 ≤ x) (h1 : x < 65536) : mem_signed.f 46 x = some (x + 4294901760) := by
  show some _ = some (x + 4294901760)
  refine congrArg some ?_
  simp only [wrap_u64k, wrap64, wrap32, IntKind.wrap, IntKind.bits, IntKind.signed]
  simp
  omega
theorem sg49 (v : Int) : mem_signed.f 49 v = some v := rfl
theorem sp48 (x : Int) (h0 : 0 ≤ x) (h1 : x < 128) : mem_signed.f 48 x = some x := by
  show some _ = some x
  refine congrArg some ?_
  simp only [wrap_u64k, wrap64, wrap32, IntKind.wrap, IntKind.bits, IntKind.signed]
  simp
  omega
theorem sm48 (x : Int) (h0 : 128 ≤ x) (h1 : x < 256) : mem_signed.f 48 x = some (x + 18446744073709551360) := by
  show some _ = some (x + 18446744073709551360)
  refine congrArg some ?_
  simp only [wrap_u64k, wrap64, wrap32, IntKind.wrap, IntKind.bits, IntKind.signed]
  simp
  omega
theorem sg51 (v : Int) : mem_signed.f 51 v = some v := rfl
theorem sp50 (x : Int) (h0 : 0 ≤ x) (h1 : x < 32768) : mem_signed.f 50 x = some x := by
  show some _ = some x
  refine congrArg some ?_
  simp only [wrap_u64k, wrap64, wrap32, IntKind.wrap, IntKind.bits, IntKind.signed]
  simp
  omega
theorem sm50 (x : Int) (h0 : 32768 ≤ x) (h1 : x < 65536) : mem_signed.f 50 x = some (x + 18446744073709486080) := by
  show some _ = some (x + 18446744073709486080)
  refine congrArg some ?_
  simp only [wrap_u64k, wrap64, wrap32, IntKind.wrap, IntKind.bits, IntKind.signed]
  simp
  omega
theorem sp52 (x : Int) (h0 : 0 ≤ x) (h1 : x < 2147483648) : mem_signed.f 52 x = some x := by
  show some _ = some x
  refine congrArg some ?_
  simp only [wrap_u64k, wrap64, wrap32, IntKind.wrap, IntKind.bits, IntKind.signed]
  simp
  omega
theorem sm52 (x : Int) (h0 : 2147483648 ≤ x) (h1 : x < 4294967296) : mem_signed.f 52 x = some (x + 18446744069414584320) := by
  show some _ = some (x + 18446744069414584320)
  refine congrArg some ?_
  simp only [wrap_u64k, wrap64, wrap32, IntKind.wrap, IntKind.bits, IntKind.signed]
  simp
  omega
end Go.Proofs.Ytfjnhdbbjggkmaa.Mem
