/- Package counts: the contracts of its small functions. -/
import Derived.Test.YtpnmcimjolmnoaaD
import Derived.Test.YtpnmcimjolmnoaaV8
import Derived.Laws.LoneSync
namespace Go.Proofs.Ytpnmcimjolmnoaa
open Go.Vc

theorem info51 : (Try.prog.info? 51).map (fun i => (i.zero, i.size, i.bytes)) = some (some (.agg #[.int .i64 0]), 1, 8) := by kernel_rfl
theorem info2 : (Try.prog.info? 2).map (fun i => (i.zero, i.size, i.bytes)) = some (some (.int .i64 0), 1, 8) := by kernel_rfl
def Ints (L : List Int) : List Value := L.map (.int .i64)
theorem ints_at {L : List Int} {i : Nat} {n : Int} (h : L[i]? = some n) : (Ints L)[i]? = some (.int .i64 n) := by simp [Ints, h]
theorem ints_len (L : List Int) : (Ints L).length = L.length := by simp [Ints]
theorem ints_set (L : List Int) (i : Nat) (n : Int) : (Ints L).set i (.int .i64 n) = Ints (L.set i n) := by simp [Ints, List.map_set]
theorem ints_rep (k : Nat) (n : Int) : List.replicate k (.int .i64 n) = Ints (List.replicate k n) := by simp [Ints]

set_option maxHeartbeats 1000000 in
theorem load_ca {a : Addr} {n : Int} {w : World} (h : w.cell? a = some (.int .i64 n)) :
    Ca Try.prog 16 #[.pointer (some a)] w fun e w' => e = .returned (.int .i64 n) ∧ w' = w := by
  refine load_ok _ _ _ ?_
  intro k
  refine ⟨.int .i64 n, k, w, ?_, n, rfl, rfl, rfl⟩
  exact run_call_load (w := w.drewN k) Try.func19 (by kernel_rfl) (by kernel_rfl) (by kernel_rfl) .i64 (by kernel_rfl) h
set_option maxHeartbeats 1000000 in
theorem cas_ca {a : Addr} {n m : Int} {w : World} {F : Bool → World → Prop} (h : w.cell? a = some (.int .i64 n)) (hz : w.frozen? a = false) (hF : LetW (w.setCell a (.int .i64 m)) (F true)) :
    Ca Try.prog 17 #[.pointer (some a), .int .i64 n, .int .i64 m] w fun e w' => ∃ b, e = .returned (.bool b) ∧ F b w' := by
  refine cas_ok _ _ _ _ _ ?_
  intro k
  refine ⟨.bool true, k, w.setCell a (.int .i64 m), ?_, true, rfl, true, rfl, hF⟩
  have := run_call_cas_hit (y := m) (w := w.drewN k) Try.func20 (by kernel_rfl) (by kernel_rfl) (by kernel_rfl) .i64 (by kernel_rfl) h hz
  exact this
set_option maxHeartbeats 1000000 in
theorem store_ca {a : Addr} {m : Int} {w : World} {u : Value} {F : World → Prop} (h : w.cell? a = some u) (hz : w.frozen? a = false) (hF : LetW (w.setCell a (.int .i64 m)) F) :
    Ca Try.prog 18 #[.pointer (some a), .int .i64 m] w fun e w' => e = .returned (.tuple #[]) ∧ F w' := by
  refine store_ok _ _ _ _ ?_
  intro k
  refine ⟨.tuple #[], k, w.setCell a (.int .i64 m), ?_, rfl, rfl, hF⟩
  have := run_call_store (y := m) (k := .i64) (w := w.drewN k) Try.func21 (by kernel_rfl) (by kernel_rfl) (by kernel_rfl) (by kernel_rfl) h hz
  exact this
end Go.Proofs.Ytpnmcimjolmnoaa
