/- Go's stable sort at ints: stableCmpFunc and SortStableFunc. -/
import Derived.Test.YtoepfkmeglnnaaaStw5
import Derived.Test.YtoepfkmeglnnaaaStk
namespace Go.Proofs.Ytoepfkmeglnnaaa.Stb
open Go.Shelf Go.RowKit Go.Lib Go.Sort Go.Proofs

theorem insertion' {N : Nat} (cf : Ix N → Ix N → Int) (hS : SWO (ltOf cf)) (g : Nat) (cb : Array Value) (blk off cap n : Nat) (d0 : Array (Ix N)) (w0 : World)
    (eg : ∀ args w, (callFunc g args).run Try.prog w = .ok (.enter g args) w) (hcmp : CmpLays1 Try.prog g cb (E N) cf blk off d0.size w0) (R : Row1 (E N) w0 blk off d0) (hn0 : d0.size = n) (hsz : n < 1152921504606846976)
    (a b : Nat) (d : Array (Ix N)) (w : World) (hn : d.size = n) (S : SW (E N) w0 blk off d w) (hab : a ≤ b) (hb : b ≤ n) :
    Calls Try.prog 65 #[.slice (some ⟨blk, off, none⟩) n cap, .int .i64 a, .int .i64 b, .func (.func g) #[] cb] w fun e w' => e = .returned (.tuple #[]) ∧ ∃ d', Put (ltOf cf) a b d d' ∧ SortedIn (ltOf cf) a b d' ∧ SW (E N) w0 blk off d' w' := by
  subst hn
  refine (insertion cf g cb blk off cap a b d0 d w0 w eg hcmp R hn0 S hab hb (by omega)).mono ?_
  rintro e w' ⟨rfl, h⟩
  have := ins_put hS d a b hab hb
  exact ⟨rfl, _, this.1, this.2, h⟩

end Go.Proofs.Ytoepfkmeglnnaaa.Stb
