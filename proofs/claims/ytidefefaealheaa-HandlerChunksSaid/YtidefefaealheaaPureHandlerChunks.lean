/- The chunks of each stream, one behind the other: true for every argument and number. -/
import Derived.Test.YtidefefaealheaaPHandlerChunksx1
import Derived.Test.YtidefefaealheaaAid
import Derived.KernelRfl
namespace Go.Proofs.Ytidefefaealheaa.Pure
open Go.RowKit Go.Proofs.Ytidefefaealheaa.PHandlerChunks Go.Proofs.YtidefefaealheaaW.PrintWords Go.Proofs.YtidefefaealheaaW.PrintLast Go.Proofs.Ytidefefaealheaa.Aid

theorem chunks_awake (k : Nat) (hk : 10 ≤ k) : cablewaylaw25_awake.f k = some true := by
  have h : cablewaylaw25_awake.f 10 = some true := by kernel_rfl
  exact at_rounds (fun k => cablewaylaw25_awake.mono k) hk h

theorem emod_pow (x M : Int) (j : Nat) : (x % M) ^ j % M = x ^ j % M := by
  induction j with
  | zero => simp
  | succ j ih => rw [Int.pow_succ, Int.pow_succ, Int.mul_emod, ih, Int.mul_emod (x ^ j) x, Int.emod_emod]

theorem mul_pow_emod (v x M : Int) (j : Nat) : v * (x % M) ^ j % M = v * x ^ j % M := by
  rw [Int.mul_emod, emod_pow, ← Int.mul_emod]

/-- The power of a stream, by squaring: what its loop comes to. -/
theorem power_loop (n : Nat) : ∀ (k : Nat) (a v : Int), n < k → v % 4294967296 = v → handler_Chunk.l0 k a v n = some (v * a ^ n % 4294967296) := by
  induction n using Nat.strongRecOn with
  | _ n ih =>
    intro k a v hk hv
    obtain ⟨k, rfl⟩ : ∃ m, k = m + 1 := ⟨k - 1, by omega⟩
    simp only [handler_Chunk.l0]
    by_cases h0 : n = 0
    · subst h0; simp [hv]
    · rw [if_pos (by omega), u64_and1]
      have hh : ((n : Int) / 2) = ((n / 2 : Nat) : Int) := by omega
      rw [hh]
      by_cases h1 : (n : Int) % 2 = 1
      · rw [if_pos h1, ih (n / 2) (by omega) k _ _ (by omega) (by omega)]
        congr 1
        have e : n = 2 * (n / 2) + 1 := by omega
        rw [mul_pow_emod, Int.mul_emod, Int.emod_emod, ← Int.mul_emod]
        congr 1
        conv => rhs; rw [e]
        rw [Int.pow_succ, Int.pow_mul]
        rw [show a ^ 2 = a * a from by rw [Int.pow_succ, Int.pow_one]]
        rw [Int.mul_assoc, Int.mul_comm a]
      · rw [if_neg h1, ih (n / 2) (by omega) k _ _ (by omega) hv]
        congr 1
        have e : n = 2 * (n / 2) := by omega
        rw [mul_pow_emod]
        congr 1
        conv => rhs; rw [e]
        rw [Int.pow_mul, show a ^ 2 = a * a from by rw [Int.pow_succ, Int.pow_one]]

theorem chunk_power (k : Nat) (a : Int) (n : Nat) (hn : n < k) (h64 : n < 64) : handler_Chunk.f k 5 a n = some (a ^ n % 4294967296) := by
  unfold handler_Chunk.f
  rw [if_neg (by omega), if_neg (by decide), if_pos rfl, wrap_u64_in _ (by omega) (by omega), power_loop n k a 1 hn (by decide), Int.one_mul]

theorem chunk_count (k : Nat) (a : Int) (n : Nat) (h64 : n < 64) : handler_Chunk.f k 4 a n = some ((a + n) % 4294967296) := by
  unfold handler_Chunk.f
  rw [if_neg (by omega), if_pos rfl]
  congr 1; omega

theorem chunks_loop (a : Int) (m : Nat) (hm : m < 64) (d : Nat) : ∀ (i k : Nat), i + d = m → 80 + d < k →
    cablewaylaw25_HandlerChunks.l0 k a m ((a + i) % 4294967296) (a ^ i % 4294967296) i = some true := by
  induction d with
  | zero =>
    intro i k hi hk
    obtain ⟨k, rfl⟩ : ∃ m, k = m + 1 := ⟨k - 1, by omega⟩
    simp only [cablewaylaw25_HandlerChunks.l0]
    rw [if_neg (by omega), chunks_awake k (by omega), w64 _ (by omega) (by omega)]
    simp only [Option.bind_some, if_true]
    have e1 : handler_Chunk.f k 4 a (-1 - (m : Int)) = some 0 := by unfold handler_Chunk.f; rw [if_pos (by omega)]
    have e2 : handler_Chunk.f k 5 a (-1) = some 0 := by unfold handler_Chunk.f; rw [if_pos (by omega)]
    have e3 : handler_Chunk.f k 0 a m = some 0 := by unfold handler_Chunk.f; rw [if_neg (by omega), if_neg (by decide), if_neg (by decide)]
    have e4 : handler_Chunk.f k 9 a m = some 0 := by unfold handler_Chunk.f; rw [if_neg (by omega), if_neg (by decide), if_neg (by decide)]
    rw [e1, e2, e3, e4]; rfl
  | succ d ih =>
    intro i k hi hk
    obtain ⟨k, rfl⟩ : ∃ m, k = m + 1 := ⟨k - 1, by omega⟩
    simp only [cablewaylaw25_HandlerChunks.l0]
    rw [if_pos (by omega), chunk_count k a i (by omega), chunk_power k a i (by omega) (by omega)]
    simp only [Option.bind_some, if_true]
    have h := ih (i + 1) k (by omega) (by omega)
    rw [w64 _ (by omega) (by omega)]
    have e1 : ((a + (i : Int)) % 4294967296 + 1) % 4294967296 = (a + ((i + 1 : Nat) : Int)) % 4294967296 := by omega
    have e2 : a ^ i % 4294967296 * a % 4294967296 = a ^ (i + 1) % 4294967296 := by rw [Int.pow_succ, Int.mul_emod, Int.emod_emod, ← Int.mul_emod]
    rw [e1, e2]; exact h

theorem wf_u32 {a : Int} (h : (Lit.int .u32 a).wf = true) : 0 ≤ a ∧ a < 4294967296 := by
  simp [Lit.wf, IntKind.min, IntKind.max, IntKind.signed, IntKind.bits] at h; omega

theorem HandlerChunks : cablewaylaw25_HandlerChunks.Pure := by
  intro a0 a1 h0 _
  have hb := wf_u32 h0
  have hm : Go.bits .and .i64 a1 63 = ((a1 % 64).toNat : Int) := by rw [i64_and63]; omega
  refine ⟨200, ?_⟩
  unfold cablewaylaw25_HandlerChunks.f
  have h := chunks_loop a0 (a1 % 64).toNat (by omega) (a1 % 64).toNat 0 200 (by omega) (by omega)
  rw [hm]
  simpa [Int.emod_eq_of_lt hb.1 hb.2] using h
end Go.Proofs.Ytidefefaealheaa.Pure
