/- Go's stable sort at ints: symMerge whole, stable and SortStableFunc. -/
import Derived.Test.YtoepfkmeglnnaaaStw4
namespace Go.Proofs.Ytoepfkmeglnnaaa.Stb
open Go.Shelf Go.RowKit Go.Lib Go.Sort Go.Proofs

theorem merge_all {N : Nat} (cf : Ix N → Ix N → Int) (hS : SWO (ltOf cf)) (g : Nat) (cb : Array Value) (blk off cap n : Nat) (d0 : Array (Ix N)) (w0 : World)
    (eg : ∀ args w, (callFunc g args).run Try.prog w = .ok (.enter g args) w) (hcmp : CmpLays1 Try.prog g cb (E N) cf blk off d0.size w0) (R : Row1 (E N) w0 blk off d0) (hn0 : d0.size = n) (hsz : n < 1152921504606846976) :
    ∀ k, Merges cf g cb blk off cap n w0 k
  | 0 => fun a m b d w hk _ _ h1 h2 => by omega
  | k + 1 => fun a m b d w hk hn S h1 h2 hb s1 s2 => by
    by_cases c1 : m ≤ a + 1
    · exact merge_up cf hS g cb blk off cap n d0 w0 eg hcmp R hn0 hsz a m b d w hn S h1 c1 h2 hb s2
    · by_cases c2 : b ≤ m + 1
      · exact merge_down cf hS g cb blk off cap n d0 w0 eg hcmp R hn0 hsz a m b d w hn S (by omega) h2 c2 hb s1
      · exact merge_mid cf hS g cb blk off cap n d0 w0 eg hcmp R hn0 hsz k (merge_all cf hS g cb blk off cap n d0 w0 eg hcmp R hn0 hsz k) a m b d w hk hn S (by omega) (by omega) hb s1 s2

end Go.Proofs.Ytoepfkmeglnnaaa.Stb
