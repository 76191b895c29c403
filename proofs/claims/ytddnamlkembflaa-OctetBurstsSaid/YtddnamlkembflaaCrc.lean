/- Plain laws: the checksum as bits. No program in sight. -/
import Derived.Test.YtddnamlkembflaaStrPlain
namespace Go.Proofs.Ytddnamlkembflaa.Hand
open Go.RowKit Go.Proofs.YtddnamlkembflaaW.PrintWords Go.Proofs.YtddnamlkembflaaW.PrintLast Go.Proofs.YtddnamlkembflaaW.PrintMore
set_option linter.unusedVariables false
set_option linter.unusedSimpArgs false

def poly : BitVec 32 := 0xedb88320#32
def bitStep (v : BitVec 32) : BitVec 32 := if v.toNat % 2 = 1 then (v >>> 1) ^^^ poly else v >>> 1
def bitSteps : Nat → BitVec 32 → BitVec 32
  | 0, v => v
  | n + 1, v => bitSteps n (bitStep v)
def byteStep (v : BitVec 32) (b : Int) : BitVec 32 := bitSteps 8 (v ^^^ BitVec.ofInt 32 b)
def crcL (v : BitVec 32) (l : List Int) : BitVec 32 := l.foldl byteStep v
def crcN (v : BitVec 32) : Int := (v.toNat : Int)
def sumS (s : ByteArray) : Int := crcN (crcL (BitVec.allOnes 32) (bytesOf s) ^^^ BitVec.allOnes 32)

theorem crcN_range (v : BitVec 32) : 0 ≤ crcN v ∧ crcN v < 4294967296 := by unfold crcN; have := v.isLt; omega
theorem xor_bv (x y : BitVec 32) : Go.bits .xor .u32 (crcN x) (crcN y) = crcN (x ^^^ y) := by
  simp only [Go.bits, crcN, IntKind.bits]
  rw [IntKind.wrap_u32, BitVec.ofInt_natCast, BitVec.ofInt_natCast, BitVec.ofNat_toNat, BitVec.ofNat_toNat, BitVec.setWidth_eq, BitVec.setWidth_eq]
  have hlt : (x ^^^ y : BitVec 32).toNat < 4294967296 := (x ^^^ y).isLt
  show (((x ^^^ y : BitVec 32).toNat : Nat) : Int) % 4294967296 = (((x ^^^ y : BitVec 32).toNat : Nat) : Int)
  omega
theorem xor_byte (x : BitVec 32) (b : Int) (h0 : 0 ≤ b) (h1 : b ≤ 255) : Go.bits .xor .u32 (crcN x) (b % 4294967296) = crcN (x ^^^ BitVec.ofInt 32 b) := by
  have e : b % 4294967296 = crcN (BitVec.ofInt 32 b) := by
    obtain ⟨n, rfl⟩ := Int.eq_ofNat_of_zero_le h0
    rw [crcN, BitVec.ofInt_natCast, BitVec.toNat_ofNat]
    omega
  rw [e, xor_bv]
theorem poly_n : (3988292384 : Int) = crcN poly := by decide
theorem ones_n : (4294967295 : Int) = crcN (BitVec.allOnes 32) := by decide
theorem half_n (v : BitVec 32) : crcN v / (2 : Int) = crcN (v >>> 1) := by
  unfold crcN
  rw [BitVec.toNat_ushiftRight, Nat.shiftRight_eq_div_pow]
  omega
theorem low_n (v : BitVec 32) : crcN v % 2 = 1 ↔ v.toNat % 2 = 1 := by unfold crcN; omega
theorem and_one (v : BitVec 32) : Go.bits .and .u32 (crcN v) 1 = crcN v % 2 := by
  have := bits_mask .u32 32 (by decide) (fun n h0 h1 => by rw [IntKind.wrap_u32]; simp at h1; omega) 1 (by decide) (crcN v) (crcN_range v).1 (by simpa using (crcN_range v).2)
  simpa using this

end Go.Proofs.Ytddnamlkembflaa.Hand
