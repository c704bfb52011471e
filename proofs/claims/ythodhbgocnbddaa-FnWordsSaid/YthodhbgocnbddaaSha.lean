/-
SHA-256 as a plain function on lists of numbers: the schedule of a block, its rounds, the padding, the digest of a text.
Conditions: none.
-/
import Derived.Test.YthodhbgocnbddaaVMore
import Derived.Laws.BitsAllLaws
namespace Go.Proofs.Ythodhbgocnbddaa.Sha
open Go.RowKit Go.Proofs.YthodhbgocnbddaaW.PrintWords Go.Proofs.YthodhbgocnbddaaW.PrintLast Go.Proofs.YthodhbgocnbddaaW.PrintMore

def tn (x n : Int) : Int := Go.bits .or .u32 (x / 2 ^ n.toNat) (x * 2 ^ (32 - n).toNat % 4294967296)
def word (b : ByteArray) (i : Int) : Int :=
  Go.bits .or .u32 (Go.bits .or .u32 (Go.bits .or .u32 (bt b (4 * i) % 4294967296 * 16777216 % 4294967296) (bt b (4 * i + 1) % 4294967296 * 65536 % 4294967296)) (bt b (4 * i + 2) % 4294967296 * 256 % 4294967296)) (bt b (4 * i + 3) % 4294967296)
def nextW (p : List Int) (i : Int) : Int :=
  rd p (i - 16) + Go.bits .xor .u32 (Go.bits .xor .u32 (tn (rd p (i - 15)) 7) (tn (rd p (i - 15)) 18)) (rd p (i - 15) / 8) + rd p (i - 7)
def nextW' (p : List Int) (i : Int) : Int :=
  (nextW p i + Go.bits .xor .u32 (Go.bits .xor .u32 (tn (rd p (i - 2)) 17) (tn (rd p (i - 2)) 19)) (rd p (i - 2) / 1024)) % 4294967296
def w16 (b : ByteArray) (n : Nat) : List Int := (List.range n).map fun i : Nat => word b (i : Int)
def schedGo : Nat → List Int → List Int
  | 0, p => p
  | d + 1, p => schedGo d (p ++ [nextW' p (p.length : Int)])
def sched (b : ByteArray) : List Int := schedGo 48 (w16 b 16)
def r1 (s : List Int) (k w : Int) : Int :=
  (rd s 7 + Go.bits .xor .u32 (Go.bits .xor .u32 (tn (rd s 4) 6) (tn (rd s 4) 11)) (tn (rd s 4) 25) + Go.bits .xor .u32 (Go.bits .and .u32 (rd s 4) (rd s 5)) (Go.bits .and .u32 (Go.bits .xor .u32 (rd s 4) 4294967295) (rd s 6)) + k + w) % 4294967296
def r2 (s : List Int) : Int :=
  (Go.bits .xor .u32 (Go.bits .xor .u32 (tn (rd s 0) 2) (tn (rd s 0) 13)) (tn (rd s 0) 22) + Go.bits .xor .u32 (Go.bits .xor .u32 (Go.bits .and .u32 (rd s 0) (rd s 1)) (Go.bits .and .u32 (rd s 0) (rd s 2))) (Go.bits .and .u32 (rd s 1) (rd s 2))) % 4294967296
def rnd (s : List Int) (k w : Int) : List Int := [(r1 s k w + r2 s) % 4294967296, rd s 0, rd s 1, rd s 2, (rd s 3 + r1 s k w) % 4294967296, rd s 4, rd s 5, rd s 6]
def rndsGo : List Int → List Int → List Int → List Int
  | k :: ks, w :: ws, s => rndsGo ks ws (rnd s k w)
  | _, _, s => s
def fin (h s : List Int) : List Int := List.zipWith (fun a b => (a + b) % 4294967296) h s
def keys : List Int := [1116352408, 1899447441, 3049323471, 3921009573, 961987163, 1508970993, 2453635748, 2870763221, 3624381080, 310598401, 607225278, 1426881987, 1925078388, 2162078206, 2614888103, 3248222580, 3835390401, 4022224774, 264347078, 604807628, 770255983, 1249150122, 1555081692, 1996064986, 2554220882, 2821834349, 2952996808, 3210313671, 3336571891, 3584528711, 113926993, 338241895, 666307205, 773529912, 1294757372, 1396182291, 1695183700, 1986661051, 2177026350, 2456956037, 2730485921, 2820302411, 3259730800, 3345764771, 3516065817, 3600352804, 4094571909, 275423344, 430227734, 506948616, 659060556, 883997877, 958139571, 1322822218, 1537002063, 1747873779, 1955562222, 2024104815, 2227730452, 2361852424, 2428436474, 2756734187, 3204031479, 3329325298]
def first : List Int := [1779033703, 3144134277, 1013904242, 2773480762, 1359893119, 2600822924, 528734635, 1541459225]
def blk (h : List Int) (b : ByteArray) : List Int := fin h (rndsGo keys (sched b) h)
theorem schedGo_len (d : Nat) : ∀ p : List Int, (schedGo d p).length = p.length + d := by
  induction d with
  | zero => intro p; rfl
  | succ d ih => intro p; rw [schedGo, ih, List.length_append]; simp; omega
theorem sched_len (b : ByteArray) : (sched b).length = 64 := by rw [sched, schedGo_len]; simp [w16]
theorem rnd_len (s : List Int) (k w : Int) : (rnd s k w).length = 8 := rfl
theorem rndsGo_len : ∀ (ks ws s : List Int), s.length = 8 → (rndsGo ks ws s).length = 8
  | [], _, _, h => h
  | _ :: _, [], _, h => h
  | k :: ks, w :: ws, s, _ => rndsGo_len ks ws (rnd s k w) (rnd_len s k w)
theorem fin_len {h s : List Int} (h1 : h.length = 8) (h2 : s.length = 8) : (fin h s).length = 8 := by unfold fin; rw [List.length_zipWith, h1, h2]; rfl
theorem fin_range {h s : List Int} : ∀ x ∈ fin h s, 0 ≤ x ∧ x ≤ 4294967295 := by
  intro x hx
  unfold fin at hx
  rw [List.zipWith_eq_zipWith_take_min] at hx
  obtain ⟨i, hi, rfl⟩ := List.mem_iff_getElem.1 hx
  rw [List.getElem_zipWith]
  omega
theorem blk_len {h : List Int} (b : ByteArray) (h1 : h.length = 8) : (blk h b).length = 8 := fin_len h1 (rndsGo_len _ _ _ h1)
end Go.Proofs.Ythodhbgocnbddaa.Sha
