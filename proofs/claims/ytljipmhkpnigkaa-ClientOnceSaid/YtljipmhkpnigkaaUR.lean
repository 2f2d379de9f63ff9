/- The document's answer for setups: what is brought within: the contract. -/
import Derived.Test.YtljipmhkpnigkaaU3
import Derived.Test.YtljipmhkpnigkaaDU2
namespace Go.Proofs.Ytljipmhkpnigkaa
open Go.Vc Go.Codec

abbrev zeroS : Cfg := ⟨0, 0, 0, [], 0, 0, 0, 0, 0, 0, 0, 0⟩
def half (c : Cfg) : Cfg := ⟨near c.nodes 1 6, near c.chain 1 (near c.nodes 1 6), near c.clients 1 6, [], near c.queue 1 16, near c.window 1 16, near c.reads 1 16, near c.link 4 64, near c.patience 4 64, near c.timeout 4 64, near c.budget 0 16, near c.refill 1 1099511627776⟩
theorem fitQ_some {l : List Int} (h : 0 < l.length) : fitQ l = (l.take 4).map (fun q => near q 96 65536) := by
  unfold fitQ; rw [if_neg (by intro h0; subst h0; simp at h)]
set_option maxHeartbeats 16000000 in
theorem rfit_ca {w0 : World} {n k : Nat} {p : Option Addr} {c : Cfg} (hM : IntAt w0 p c.quanta) (hn : n = c.quanta.length) (hl : c.quanta.length ≤ 1000) :
    Ca Try.prog 14 #[cfV c p n k] w0 fun e w' => ∃ v, e = .returned v ∧ NewS w0 (fitS c) v w' := by
  subst hn
  have st : St No w0 w0 [] := St.start w0
  obtain ⟨i0, hi0, hz0, hs0, hb0⟩ := info_at infoInt
  refine rfit_ok _ _ _ _ _ _ _ _ _ _ _ _ _ _ _ _ ?_
  unfold rfit
  refine St.alloc st ?_; clear st; intro bc w st
  refine St.alloc st ?_; clear st; intro br w st
  apply laterB (fun b w => St No w0 w [.blk b 24 (cfL (half c) none 0 0), .blk br 24 (cfL zeroS none 0 0), .blk bc 24 (cfL c p c.quanta.length k)])
  · intro tail
    repeat' first
      | (with_reducible refine St.alloc st ?_; (try clear st); intro b w st)
      | with_reducible refine sz_and (by (repeat rw [ByteArray.size_append]); omega) ?_
      | (refine Pu.go (rnear_pu _ _ _) st ?_; (try clear st); intro w st; refine ⟨_, rfl, ?_⟩)
      | (with_reducible apply ex0c; case h => first | exact St.cell st 0 rfl rfl | exact St.cell st 1 rfl rfl | exact St.cell st 2 rfl rfl | exact St.cell st 3 rfl rfl | fail)
      | (with_reducible apply ex1c; case h => first | exact St.cell st 0 rfl rfl | exact St.cell st 1 rfl rfl | exact St.cell st 2 rfl rfl | exact St.cell st 3 rfl rfl | fail)
      | (with_reducible apply ex3c; case h => first | exact St.cell st 0 rfl rfl | exact St.cell st 1 rfl rfl | exact St.cell st 2 rfl rfl | exact St.cell st 3 rfl rfl | fail)
      | (with_reducible apply ex0r; case h => first | exact St.rows st 0 rfl | exact St.rows st 1 rfl | exact St.rows st 2 rfl | exact St.rows st 3 rfl | fail)
      | (with_reducible apply exr2; case h => first | exact St.rows st 0 rfl | exact St.rows st 1 rfl | exact St.rows st 2 rfl | exact St.rows st 3 rfl | fail)
      | (with_reducible apply exr3; case h => first | exact St.rows st 0 rfl | exact St.rows st 1 rfl | exact St.rows st 2 rfl | exact St.rows st 3 rfl | fail)
      | (with_reducible apply exr4; case h => first | exact St.rows st 0 rfl | exact St.rows st 1 rfl | exact St.rows st 2 rfl | exact St.rows st 3 rfl | fail)
      | (with_reducible apply exr5; case h => first | exact St.rows st 0 rfl | exact St.rows st 1 rfl | exact St.rows st 2 rfl | exact St.rows st 3 rfl | fail)
      | (with_reducible apply exr6; case h => first | exact St.rows st 0 rfl | exact St.rows st 1 rfl | exact St.rows st 2 rfl | exact St.rows st 3 rfl | fail)
      | (with_reducible apply exWr; case h => first | exact St.wr st 0 rfl rfl | exact St.wr st 1 rfl rfl | exact St.wr st 2 rfl rfl | exact St.wr st 3 rfl rfl | fail)
      | (with_reducible apply exWrRow; case h => first | exact St.wrRow st 0 rfl rfl rfl | exact St.wrRow st 1 rfl rfl rfl | exact St.wrRow st 2 rfl rfl rfl | exact St.wrRow st 3 rfl rfl rfl | fail)
      | (with_reducible refine LetW.cell ?_; (first | refine St.store st 0 rfl ?_ | refine St.store st 1 rfl ?_ | refine St.store st 2 rfl ?_ | refine St.store st 3 rfl ?_ | fail); (try clear st); intro w st; simp only [List.set] at st)
      | (with_reducible refine LetW.rows ?_; (first | refine St.storeRow st 0 rfl ?_ | refine St.storeRow st 1 rfl ?_ | refine St.storeRow st 2 rfl ?_ | refine St.storeRow st 3 rfl ?_ | fail); (try clear st); intro w st; simp only [List.set, setsL] at st)
      | ((with_reducible apply exr4); case h => first | exact St.rowAt st 0 rfl rfl | exact St.rowAt st 1 rfl rfl | exact St.rowAt st 2 rfl rfl | exact St.rowAt st 3 rfl rfl | fail)
      | ((with_reducible apply exr5); case h => first | exact St.rowAt st 0 rfl rfl | exact St.rowAt st 1 rfl rfl | exact St.rowAt st 2 rfl rfl | exact St.rowAt st 3 rfl rfl | fail)
      | ((with_reducible apply exr6); case h => first | exact St.rowAt st 0 rfl rfl | exact St.rowAt st 1 rfl rfl | exact St.rowAt st 2 rfl rfl | exact St.rowAt st 3 rfl rfl | fail)
      | with_reducible refine LetI.id (by omega) (by omega) ?_
      | exact tail _ _ st
      | refine And.intro ?_ ?_
      | fail
  clear st
  intro bd w st
  refine ⟨fun m v w' => ∃ (j : Nat) (pm : Option Addr) (km : Nat), v = [.int .i64 (j : Int)] ∧ m = c.quanta.length - j ∧ j ≤ c.quanta.length ∧ j ≤ 4 ∧ St No w0 w' [.row w0.heap.size 3 1 (.slice pm j km) j (cellsOf intE ((c.quanta.take j).map (fun q => near q 96 65536))), .blk bd 24 (cfL (half c) pm j km), .blk br 24 (cfL zeroS none 0 0), .blk bc 24 (cfL c p c.quanta.length k)], ⟨_, 0, none, 0, rfl, rfl, Nat.zero_le _, Nat.zero_le _, st.nil _ _⟩, ?_⟩
  clear st
  rintro _ _ w ⟨j, pm, km, hv, rfl, hj, hj4, st⟩
  obtain rfl : _ = _ := by simpa using hv
  clear hv
  refine ⟨_, _, _, st.cell 3 rfl rfl, ?_⟩
  apply later (T := (¬ (j < c.quanta.length ∧ j < 4)) → _)
  · intro tail
    refine Br.dec (fun h1 => Br.dec (fun h2 => ?_) (fun h2 => tail (fun h => h2 (by have := h.2; omega)))) (fun h1 => tail (fun h => h1 (by have := h.1; omega)))
    clear tail
    have hjl : j < c.quanta.length := by omega
    obtain ⟨a, rfl, hr⟩ := hM j hjl
    have hc := Row.get (Row.kp st.kp (not_no _) hr) (j := 0) rfl
    rw [Nat.zero_add, addr_zero] at hc
    repeat' first
      | (with_reducible refine St.alloc st ?_; (try clear st); intro b w st)
      | with_reducible refine sz_and (by (repeat rw [ByteArray.size_append]); omega) ?_
      | (with_reducible apply ex0c; case h => first | exact St.cell st 0 rfl rfl | exact St.cell st 1 rfl rfl | exact St.cell st 2 rfl rfl | exact St.cell st 3 rfl rfl | fail)
      | (with_reducible apply ex1c; case h => first | exact St.cell st 0 rfl rfl | exact St.cell st 1 rfl rfl | exact St.cell st 2 rfl rfl | exact St.cell st 3 rfl rfl | fail)
      | (with_reducible apply ex3c; case h => first | exact St.cell st 0 rfl rfl | exact St.cell st 1 rfl rfl | exact St.cell st 2 rfl rfl | exact St.cell st 3 rfl rfl | fail)
      | (with_reducible apply ex0r; case h => first | exact St.rows st 0 rfl | exact St.rows st 1 rfl | exact St.rows st 2 rfl | exact St.rows st 3 rfl | fail)
      | (with_reducible apply exr2; case h => first | exact St.rows st 0 rfl | exact St.rows st 1 rfl | exact St.rows st 2 rfl | exact St.rows st 3 rfl | fail)
      | (with_reducible apply exr3; case h => first | exact St.rows st 0 rfl | exact St.rows st 1 rfl | exact St.rows st 2 rfl | exact St.rows st 3 rfl | fail)
      | (with_reducible apply exr4; case h => first | exact St.rows st 0 rfl | exact St.rows st 1 rfl | exact St.rows st 2 rfl | exact St.rows st 3 rfl | fail)
      | (with_reducible apply exr5; case h => first | exact St.rows st 0 rfl | exact St.rows st 1 rfl | exact St.rows st 2 rfl | exact St.rows st 3 rfl | fail)
      | (with_reducible apply exr6; case h => first | exact St.rows st 0 rfl | exact St.rows st 1 rfl | exact St.rows st 2 rfl | exact St.rows st 3 rfl | fail)
      | (with_reducible apply exWr; case h => first | exact St.wr st 0 rfl rfl | exact St.wr st 1 rfl rfl | exact St.wr st 2 rfl rfl | exact St.wr st 3 rfl rfl | fail)
      | (with_reducible apply exWrRow; case h => first | exact St.wrRow st 0 rfl rfl rfl | exact St.wrRow st 1 rfl rfl rfl | exact St.wrRow st 2 rfl rfl rfl | exact St.wrRow st 3 rfl rfl rfl | fail)
      | (with_reducible refine LetW.cell ?_; (first | refine St.store st 0 rfl ?_ | refine St.store st 1 rfl ?_ | refine St.store st 2 rfl ?_ | refine St.store st 3 rfl ?_ | fail); (try clear st); intro w st; simp only [List.set] at st)
      | (with_reducible refine LetW.rows ?_; (first | refine St.storeRow st 0 rfl ?_ | refine St.storeRow st 1 rfl ?_ | refine St.storeRow st 2 rfl ?_ | refine St.storeRow st 3 rfl ?_ | fail); (try clear st); intro w st; simp only [List.set, setsL] at st)
      | ((with_reducible apply exr4); case h => first | exact St.rowAt st 0 rfl rfl | exact St.rowAt st 1 rfl rfl | exact St.rowAt st 2 rfl rfl | exact St.rowAt st 3 rfl rfl | fail)
      | ((with_reducible apply exr5); case h => first | exact St.rowAt st 0 rfl rfl | exact St.rowAt st 1 rfl rfl | exact St.rowAt st 2 rfl rfl | exact St.rowAt st 3 rfl rfl | fail)
      | ((with_reducible apply exr6); case h => first | exact St.rowAt st 0 rfl rfl | exact St.rowAt st 1 rfl rfl | exact St.rowAt st 2 rfl rfl | exact St.rowAt st 3 rfl rfl | fail)
      | with_reducible refine LetI.id (by omega) (by omega) ?_
      | fail
    refine NilOk.intro rfl ⟨⟨by omega, by omega⟩, _, hc, ?_⟩
    repeat' first
      | (with_reducible refine St.alloc st ?_; (try clear st); intro b w st)
      | with_reducible refine sz_and (by (repeat rw [ByteArray.size_append]); omega) ?_
      | (refine Pu.go (rnear_pu _ _ _) st ?_; (try clear st); intro w st; refine ⟨_, rfl, ?_⟩)
      | (with_reducible apply ex0c; case h => first | exact St.cell st 0 rfl rfl | exact St.cell st 1 rfl rfl | exact St.cell st 2 rfl rfl | exact St.cell st 3 rfl rfl | exact St.cell st 4 rfl rfl | fail)
      | (with_reducible apply ex1c; case h => first | exact St.cell st 0 rfl rfl | exact St.cell st 1 rfl rfl | exact St.cell st 2 rfl rfl | exact St.cell st 3 rfl rfl | exact St.cell st 4 rfl rfl | fail)
      | (with_reducible apply ex3c; case h => first | exact St.cell st 0 rfl rfl | exact St.cell st 1 rfl rfl | exact St.cell st 2 rfl rfl | exact St.cell st 3 rfl rfl | exact St.cell st 4 rfl rfl | fail)
      | (with_reducible apply ex0r; case h => first | exact St.rows st 0 rfl | exact St.rows st 1 rfl | exact St.rows st 2 rfl | exact St.rows st 3 rfl | exact St.rows st 4 rfl | fail)
      | (with_reducible apply exr2; case h => first | exact St.rows st 0 rfl | exact St.rows st 1 rfl | exact St.rows st 2 rfl | exact St.rows st 3 rfl | exact St.rows st 4 rfl | fail)
      | (with_reducible apply exr3; case h => first | exact St.rows st 0 rfl | exact St.rows st 1 rfl | exact St.rows st 2 rfl | exact St.rows st 3 rfl | exact St.rows st 4 rfl | fail)
      | (with_reducible apply exr4; case h => first | exact St.rows st 0 rfl | exact St.rows st 1 rfl | exact St.rows st 2 rfl | exact St.rows st 3 rfl | exact St.rows st 4 rfl | fail)
      | (with_reducible apply exr5; case h => first | exact St.rows st 0 rfl | exact St.rows st 1 rfl | exact St.rows st 2 rfl | exact St.rows st 3 rfl | exact St.rows st 4 rfl | fail)
      | (with_reducible apply exr6; case h => first | exact St.rows st 0 rfl | exact St.rows st 1 rfl | exact St.rows st 2 rfl | exact St.rows st 3 rfl | exact St.rows st 4 rfl | fail)
      | (with_reducible apply exWr; case h => first | exact St.wr st 0 rfl rfl | exact St.wr st 1 rfl rfl | exact St.wr st 2 rfl rfl | exact St.wr st 3 rfl rfl | exact St.wr st 4 rfl rfl | fail)
      | (with_reducible apply exWrRow; case h => first | exact St.wrRow st 0 rfl rfl rfl | exact St.wrRow st 1 rfl rfl rfl | exact St.wrRow st 2 rfl rfl rfl | exact St.wrRow st 3 rfl rfl rfl | exact St.wrRow st 4 rfl rfl rfl | fail)
      | (with_reducible refine LetW.cell ?_; (first | refine St.store st 0 rfl ?_ | refine St.store st 1 rfl ?_ | refine St.store st 2 rfl ?_ | refine St.store st 3 rfl ?_ | refine St.store st 4 rfl ?_ | fail); (try clear st); intro w st; simp only [List.set] at st)
      | (with_reducible refine LetW.rows ?_; (first | refine St.storeRow st 0 rfl ?_ | refine St.storeRow st 1 rfl ?_ | refine St.storeRow st 2 rfl ?_ | refine St.storeRow st 3 rfl ?_ | refine St.storeRow st 4 rfl ?_ | fail); (try clear st); intro w st; simp only [List.set, setsL] at st)
      | ((with_reducible apply exr4); case h => first | exact St.rowAt st 0 rfl rfl | exact St.rowAt st 1 rfl rfl | exact St.rowAt st 2 rfl rfl | exact St.rowAt st 3 rfl rfl | exact St.rowAt st 4 rfl rfl | fail)
      | ((with_reducible apply exr5); case h => first | exact St.rowAt st 0 rfl rfl | exact St.rowAt st 1 rfl rfl | exact St.rowAt st 2 rfl rfl | exact St.rowAt st 3 rfl rfl | exact St.rowAt st 4 rfl rfl | fail)
      | ((with_reducible apply exr6); case h => first | exact St.rowAt st 0 rfl rfl | exact St.rowAt st 1 rfl rfl | exact St.rowAt st 2 rfl rfl | exact St.rowAt st 3 rfl rfl | exact St.rowAt st 4 rfl rfl | fail)
      | with_reducible refine LetI.id (by omega) (by omega) ?_
      | fail
    refine St.append1 st 1 0 Try.underlying22 hi0 hz0 hs0 hb0 rfl (by decide) intE_len intE_plain (x := near c.quanta[j] 96 65536) rfl rfl (by simp [maxLen]; omega) (by omega) ?_
    clear st
    intro p' c' w st
    simp only [List.set] at st
    have e : (c.quanta.take j).map (fun q => near q 96 65536) ++ [near c.quanta[j] 96 65536] = (c.quanta.take (j + 1)).map (fun q => near q 96 65536) := by rw [List.take_succ_eq_append_getElem hjl, List.map_append]; rfl
    rw [e] at st
    replace st : St No w0 w [_, _, _, _] := st.pick [1, 2, 3, 4] rfl (by decide)
    refine ⟨_, _, _, rfl, ?_⟩
    repeat' first
      | (with_reducible refine St.alloc st ?_; (try clear st); intro b w st)
      | with_reducible refine sz_and (by (repeat rw [ByteArray.size_append]); omega) ?_
      | (with_reducible apply ex0c; case h => first | exact St.cell st 0 rfl rfl | exact St.cell st 1 rfl rfl | exact St.cell st 2 rfl rfl | exact St.cell st 3 rfl rfl | exact St.cell st 4 rfl rfl | fail)
      | (with_reducible apply ex1c; case h => first | exact St.cell st 0 rfl rfl | exact St.cell st 1 rfl rfl | exact St.cell st 2 rfl rfl | exact St.cell st 3 rfl rfl | exact St.cell st 4 rfl rfl | fail)
      | (with_reducible apply ex3c; case h => first | exact St.cell st 0 rfl rfl | exact St.cell st 1 rfl rfl | exact St.cell st 2 rfl rfl | exact St.cell st 3 rfl rfl | exact St.cell st 4 rfl rfl | fail)
      | (with_reducible apply ex0r; case h => first | exact St.rows st 0 rfl | exact St.rows st 1 rfl | exact St.rows st 2 rfl | exact St.rows st 3 rfl | exact St.rows st 4 rfl | fail)
      | (with_reducible apply exr2; case h => first | exact St.rows st 0 rfl | exact St.rows st 1 rfl | exact St.rows st 2 rfl | exact St.rows st 3 rfl | exact St.rows st 4 rfl | fail)
      | (with_reducible apply exr3; case h => first | exact St.rows st 0 rfl | exact St.rows st 1 rfl | exact St.rows st 2 rfl | exact St.rows st 3 rfl | exact St.rows st 4 rfl | fail)
      | (with_reducible apply exr4; case h => first | exact St.rows st 0 rfl | exact St.rows st 1 rfl | exact St.rows st 2 rfl | exact St.rows st 3 rfl | exact St.rows st 4 rfl | fail)
      | (with_reducible apply exr5; case h => first | exact St.rows st 0 rfl | exact St.rows st 1 rfl | exact St.rows st 2 rfl | exact St.rows st 3 rfl | exact St.rows st 4 rfl | fail)
      | (with_reducible apply exr6; case h => first | exact St.rows st 0 rfl | exact St.rows st 1 rfl | exact St.rows st 2 rfl | exact St.rows st 3 rfl | exact St.rows st 4 rfl | fail)
      | (with_reducible apply exWr; case h => first | exact St.wr st 0 rfl rfl | exact St.wr st 1 rfl rfl | exact St.wr st 2 rfl rfl | exact St.wr st 3 rfl rfl | exact St.wr st 4 rfl rfl | fail)
      | (with_reducible apply exWrRow; case h => first | exact St.wrRow st 0 rfl rfl rfl | exact St.wrRow st 1 rfl rfl rfl | exact St.wrRow st 2 rfl rfl rfl | exact St.wrRow st 3 rfl rfl rfl | exact St.wrRow st 4 rfl rfl rfl | fail)
      | (with_reducible refine LetW.cell ?_; (first | refine St.store st 0 rfl ?_ | refine St.store st 1 rfl ?_ | refine St.store st 2 rfl ?_ | refine St.store st 3 rfl ?_ | refine St.store st 4 rfl ?_ | fail); (try clear st); intro w st; simp only [List.set] at st)
      | (with_reducible refine LetW.rows ?_; (first | refine St.storeRow st 0 rfl ?_ | refine St.storeRow st 1 rfl ?_ | refine St.storeRow st 2 rfl ?_ | refine St.storeRow st 3 rfl ?_ | refine St.storeRow st 4 rfl ?_ | fail); (try clear st); intro w st; simp only [List.set, setsL] at st)
      | ((with_reducible apply exr4); case h => first | exact St.rowAt st 0 rfl rfl | exact St.rowAt st 1 rfl rfl | exact St.rowAt st 2 rfl rfl | exact St.rowAt st 3 rfl rfl | exact St.rowAt st 4 rfl rfl | fail)
      | ((with_reducible apply exr5); case h => first | exact St.rowAt st 0 rfl rfl | exact St.rowAt st 1 rfl rfl | exact St.rowAt st 2 rfl rfl | exact St.rowAt st 3 rfl rfl | exact St.rowAt st 4 rfl rfl | fail)
      | ((with_reducible apply exr6); case h => first | exact St.rowAt st 0 rfl rfl | exact St.rowAt st 1 rfl rfl | exact St.rowAt st 2 rfl rfl | exact St.rowAt st 3 rfl rfl | exact St.rowAt st 4 rfl rfl | fail)
      | with_reducible refine LetI.id (by omega) (by omega) ?_
      | fail
    exact ⟨_, by omega, j + 1, p', c', by simp, rfl, by omega, by omega, st⟩
  · intro hout
    repeat' first
      | (with_reducible refine St.alloc st ?_; (try clear st); intro b w st)
      | with_reducible refine sz_and (by (repeat rw [ByteArray.size_append]); omega) ?_
      | (with_reducible apply ex0c; case h => first | exact St.cell st 0 rfl rfl | exact St.cell st 1 rfl rfl | exact St.cell st 2 rfl rfl | exact St.cell st 3 rfl rfl | fail)
      | (with_reducible apply ex1c; case h => first | exact St.cell st 0 rfl rfl | exact St.cell st 1 rfl rfl | exact St.cell st 2 rfl rfl | exact St.cell st 3 rfl rfl | fail)
      | (with_reducible apply ex3c; case h => first | exact St.cell st 0 rfl rfl | exact St.cell st 1 rfl rfl | exact St.cell st 2 rfl rfl | exact St.cell st 3 rfl rfl | fail)
      | (with_reducible apply ex0r; case h => first | exact St.rows st 0 rfl | exact St.rows st 1 rfl | exact St.rows st 2 rfl | exact St.rows st 3 rfl | fail)
      | (with_reducible apply exr2; case h => first | exact St.rows st 0 rfl | exact St.rows st 1 rfl | exact St.rows st 2 rfl | exact St.rows st 3 rfl | fail)
      | (with_reducible apply exr3; case h => first | exact St.rows st 0 rfl | exact St.rows st 1 rfl | exact St.rows st 2 rfl | exact St.rows st 3 rfl | fail)
      | (with_reducible apply exr4; case h => first | exact St.rows st 0 rfl | exact St.rows st 1 rfl | exact St.rows st 2 rfl | exact St.rows st 3 rfl | fail)
      | (with_reducible apply exr5; case h => first | exact St.rows st 0 rfl | exact St.rows st 1 rfl | exact St.rows st 2 rfl | exact St.rows st 3 rfl | fail)
      | (with_reducible apply exr6; case h => first | exact St.rows st 0 rfl | exact St.rows st 1 rfl | exact St.rows st 2 rfl | exact St.rows st 3 rfl | fail)
      | (with_reducible apply exWr; case h => first | exact St.wr st 0 rfl rfl | exact St.wr st 1 rfl rfl | exact St.wr st 2 rfl rfl | exact St.wr st 3 rfl rfl | fail)
      | (with_reducible apply exWrRow; case h => first | exact St.wrRow st 0 rfl rfl rfl | exact St.wrRow st 1 rfl rfl rfl | exact St.wrRow st 2 rfl rfl rfl | exact St.wrRow st 3 rfl rfl rfl | fail)
      | (with_reducible refine LetW.cell ?_; (first | refine St.store st 0 rfl ?_ | refine St.store st 1 rfl ?_ | refine St.store st 2 rfl ?_ | refine St.store st 3 rfl ?_ | fail); (try clear st); intro w st; simp only [List.set] at st)
      | (with_reducible refine LetW.rows ?_; (first | refine St.storeRow st 0 rfl ?_ | refine St.storeRow st 1 rfl ?_ | refine St.storeRow st 2 rfl ?_ | refine St.storeRow st 3 rfl ?_ | fail); (try clear st); intro w st; simp only [List.set, setsL] at st)
      | ((with_reducible apply exr4); case h => first | exact St.rowAt st 0 rfl rfl | exact St.rowAt st 1 rfl rfl | exact St.rowAt st 2 rfl rfl | exact St.rowAt st 3 rfl rfl | fail)
      | ((with_reducible apply exr5); case h => first | exact St.rowAt st 0 rfl rfl | exact St.rowAt st 1 rfl rfl | exact St.rowAt st 2 rfl rfl | exact St.rowAt st 3 rfl rfl | fail)
      | ((with_reducible apply exr6); case h => first | exact St.rowAt st 0 rfl rfl | exact St.rowAt st 1 rfl rfl | exact St.rowAt st 2 rfl rfl | exact St.rowAt st 3 rfl rfl | fail)
      | with_reducible refine LetI.id (by omega) (by omega) ?_
      | fail
    refine Br.eqi (fun h0 => ?_) (fun h0 => ?_)
    · have hj0 : j = 0 := by omega
      subst hj0
      have hq0 : c.quanta = [] := by
        rcases Nat.eq_zero_or_pos c.quanta.length with h | h
        · exact List.eq_nil_of_length_eq_zero h
        · exact absurd ⟨h, by omega⟩ hout
      have hfq : (fitS c).quanta = [96] := by show fitQ c.quanta = _; rw [hq0]; rfl
      repeat' first
        | (with_reducible refine St.alloc st ?_; (try clear st); intro b w st)
        | with_reducible refine sz_and (by (repeat rw [ByteArray.size_append]); omega) ?_
        | (with_reducible apply ex0c; case h => first | exact St.cell st 0 rfl rfl | exact St.cell st 1 rfl rfl | exact St.cell st 2 rfl rfl | exact St.cell st 3 rfl rfl | exact St.cell st 4 rfl rfl | fail)
        | (with_reducible apply ex1c; case h => first | exact St.cell st 0 rfl rfl | exact St.cell st 1 rfl rfl | exact St.cell st 2 rfl rfl | exact St.cell st 3 rfl rfl | exact St.cell st 4 rfl rfl | fail)
        | (with_reducible apply ex3c; case h => first | exact St.cell st 0 rfl rfl | exact St.cell st 1 rfl rfl | exact St.cell st 2 rfl rfl | exact St.cell st 3 rfl rfl | exact St.cell st 4 rfl rfl | fail)
        | (with_reducible apply ex0r; case h => first | exact St.rows st 0 rfl | exact St.rows st 1 rfl | exact St.rows st 2 rfl | exact St.rows st 3 rfl | exact St.rows st 4 rfl | fail)
        | (with_reducible apply exr2; case h => first | exact St.rows st 0 rfl | exact St.rows st 1 rfl | exact St.rows st 2 rfl | exact St.rows st 3 rfl | exact St.rows st 4 rfl | fail)
        | (with_reducible apply exr3; case h => first | exact St.rows st 0 rfl | exact St.rows st 1 rfl | exact St.rows st 2 rfl | exact St.rows st 3 rfl | exact St.rows st 4 rfl | fail)
        | (with_reducible apply exr4; case h => first | exact St.rows st 0 rfl | exact St.rows st 1 rfl | exact St.rows st 2 rfl | exact St.rows st 3 rfl | exact St.rows st 4 rfl | fail)
        | (with_reducible apply exr5; case h => first | exact St.rows st 0 rfl | exact St.rows st 1 rfl | exact St.rows st 2 rfl | exact St.rows st 3 rfl | exact St.rows st 4 rfl | fail)
        | (with_reducible apply exr6; case h => first | exact St.rows st 0 rfl | exact St.rows st 1 rfl | exact St.rows st 2 rfl | exact St.rows st 3 rfl | exact St.rows st 4 rfl | fail)
        | (with_reducible apply exWr; case h => first | exact St.wr st 0 rfl rfl | exact St.wr st 1 rfl rfl | exact St.wr st 2 rfl rfl | exact St.wr st 3 rfl rfl | exact St.wr st 4 rfl rfl | fail)
        | (with_reducible apply exWrRow; case h => first | exact St.wrRow st 0 rfl rfl rfl | exact St.wrRow st 1 rfl rfl rfl | exact St.wrRow st 2 rfl rfl rfl | exact St.wrRow st 3 rfl rfl rfl | exact St.wrRow st 4 rfl rfl rfl | fail)
        | (with_reducible refine LetW.cell ?_; (first | refine St.store st 0 rfl ?_ | refine St.store st 1 rfl ?_ | refine St.store st 2 rfl ?_ | refine St.store st 3 rfl ?_ | refine St.store st 4 rfl ?_ | fail); (try clear st); intro w st; simp only [List.set] at st)
        | (with_reducible refine LetW.rows ?_; (first | refine St.storeRow st 0 rfl ?_ | refine St.storeRow st 1 rfl ?_ | refine St.storeRow st 2 rfl ?_ | refine St.storeRow st 3 rfl ?_ | refine St.storeRow st 4 rfl ?_ | fail); (try clear st); intro w st; simp only [List.set, setsL] at st)
        | ((with_reducible apply exr4); case h => first | exact St.rowAt st 0 rfl rfl | exact St.rowAt st 1 rfl rfl | exact St.rowAt st 2 rfl rfl | exact St.rowAt st 3 rfl rfl | exact St.rowAt st 4 rfl rfl | fail)
        | ((with_reducible apply exr5); case h => first | exact St.rowAt st 0 rfl rfl | exact St.rowAt st 1 rfl rfl | exact St.rowAt st 2 rfl rfl | exact St.rowAt st 3 rfl rfl | exact St.rowAt st 4 rfl rfl | fail)
        | ((with_reducible apply exr6); case h => first | exact St.rowAt st 0 rfl rfl | exact St.rowAt st 1 rfl rfl | exact St.rowAt st 2 rfl rfl | exact St.rowAt st 3 rfl rfl | exact St.rowAt st 4 rfl rfl | fail)
        | with_reducible refine LetI.id (by omega) (by omega) ?_
        | fail
      refine St.append1 st 1 0 Try.underlying22 hi0 hz0 hs0 hb0 rfl (by decide) intE_len intE_plain (x := 96) rfl rfl (by decide) (by decide) ?_
      clear st
      intro p' c' w st
      simp only [List.set] at st
      rw [show ((c.quanta.take 0).map (fun q => near q 96 65536) ++ [96] : List Int) = [96] from rfl] at st
      replace st : St No w0 w [_, _, _, _] := st.pick [1, 2, 3, 4] rfl (by decide)
      refine ⟨_, _, _, rfl, ?_⟩
      repeat' first
        | (with_reducible refine St.alloc st ?_; (try clear st); intro b w st)
        | with_reducible refine sz_and (by (repeat rw [ByteArray.size_append]); omega) ?_
        | (with_reducible apply ex0c; case h => first | exact St.cell st 0 rfl rfl | exact St.cell st 1 rfl rfl | exact St.cell st 2 rfl rfl | exact St.cell st 3 rfl rfl | exact St.cell st 4 rfl rfl | fail)
        | (with_reducible apply ex1c; case h => first | exact St.cell st 0 rfl rfl | exact St.cell st 1 rfl rfl | exact St.cell st 2 rfl rfl | exact St.cell st 3 rfl rfl | exact St.cell st 4 rfl rfl | fail)
        | (with_reducible apply ex3c; case h => first | exact St.cell st 0 rfl rfl | exact St.cell st 1 rfl rfl | exact St.cell st 2 rfl rfl | exact St.cell st 3 rfl rfl | exact St.cell st 4 rfl rfl | fail)
        | (with_reducible apply ex0r; case h => first | exact St.rows st 0 rfl | exact St.rows st 1 rfl | exact St.rows st 2 rfl | exact St.rows st 3 rfl | exact St.rows st 4 rfl | fail)
        | (with_reducible apply exr2; case h => first | exact St.rows st 0 rfl | exact St.rows st 1 rfl | exact St.rows st 2 rfl | exact St.rows st 3 rfl | exact St.rows st 4 rfl | fail)
        | (with_reducible apply exr3; case h => first | exact St.rows st 0 rfl | exact St.rows st 1 rfl | exact St.rows st 2 rfl | exact St.rows st 3 rfl | exact St.rows st 4 rfl | fail)
        | (with_reducible apply exr4; case h => first | exact St.rows st 0 rfl | exact St.rows st 1 rfl | exact St.rows st 2 rfl | exact St.rows st 3 rfl | exact St.rows st 4 rfl | fail)
        | (with_reducible apply exr5; case h => first | exact St.rows st 0 rfl | exact St.rows st 1 rfl | exact St.rows st 2 rfl | exact St.rows st 3 rfl | exact St.rows st 4 rfl | fail)
        | (with_reducible apply exr6; case h => first | exact St.rows st 0 rfl | exact St.rows st 1 rfl | exact St.rows st 2 rfl | exact St.rows st 3 rfl | exact St.rows st 4 rfl | fail)
        | (with_reducible apply exr14; case h => first | exact St.rows st 0 rfl | exact St.rows st 1 rfl | exact St.rows st 2 rfl | exact St.rows st 3 rfl | exact St.rows st 4 rfl | fail)
        | (with_reducible apply exWr; case h => first | exact St.wr st 0 rfl rfl | exact St.wr st 1 rfl rfl | exact St.wr st 2 rfl rfl | exact St.wr st 3 rfl rfl | exact St.wr st 4 rfl rfl | fail)
        | (with_reducible apply exWrRow; case h => first | exact St.wrRow st 0 rfl rfl rfl | exact St.wrRow st 1 rfl rfl rfl | exact St.wrRow st 2 rfl rfl rfl | exact St.wrRow st 3 rfl rfl rfl | exact St.wrRow st 4 rfl rfl rfl | fail)
        | (with_reducible refine LetW.cell ?_; (first | refine St.store st 0 rfl ?_ | refine St.store st 1 rfl ?_ | refine St.store st 2 rfl ?_ | refine St.store st 3 rfl ?_ | refine St.store st 4 rfl ?_ | fail); (try clear st); intro w st; simp only [List.set] at st)
        | (with_reducible refine LetW.rows ?_; (first | refine St.storeRow st 0 rfl ?_ | refine St.storeRow st 1 rfl ?_ | refine St.storeRow st 2 rfl ?_ | refine St.storeRow st 3 rfl ?_ | refine St.storeRow st 4 rfl ?_ | fail); (try clear st); intro w st; simp only [List.set, setsL] at st)
        | ((with_reducible apply exr4); case h => first | exact St.rowAt st 0 rfl rfl | exact St.rowAt st 1 rfl rfl | exact St.rowAt st 2 rfl rfl | exact St.rowAt st 3 rfl rfl | exact St.rowAt st 4 rfl rfl | fail)
        | ((with_reducible apply exr5); case h => first | exact St.rowAt st 0 rfl rfl | exact St.rowAt st 1 rfl rfl | exact St.rowAt st 2 rfl rfl | exact St.rowAt st 3 rfl rfl | exact St.rowAt st 4 rfl rfl | fail)
        | ((with_reducible apply exr6); case h => first | exact St.rowAt st 0 rfl rfl | exact St.rowAt st 1 rfl rfl | exact St.rowAt st 2 rfl rfl | exact St.rowAt st 3 rfl rfl | exact St.rowAt st 4 rfl rfl | fail)
        | with_reducible refine LetI.id (by omega) (by omega) ?_
        | fail
      have ho := st.hold 0 _ rfl
      refine ⟨_, rfl, p', c', ?_, ?_, st.kp⟩
      · rw [hfq]; rfl
      · rw [hfq]; exact ho
    · have hfq : (fitS c).quanta = (c.quanta.take j).map (fun q => near q 96 65536) := by
        show fitQ c.quanta = _
        rw [fitQ_some (by omega)]
        rcases Nat.lt_or_ge j 4 with h | h
        · rw [List.take_of_length_le (i := 4) (by omega), List.take_of_length_le (i := j) (by omega)]
        · rw [show j = 4 by omega]
      have hfl : (fitS c).quanta.length = j := by rw [hfq]; simp; omega
      repeat' first
        | (with_reducible refine St.alloc st ?_; (try clear st); intro b w st)
        | with_reducible refine sz_and (by (repeat rw [ByteArray.size_append]); omega) ?_
        | (with_reducible apply ex0c; case h => first | exact St.cell st 0 rfl rfl | exact St.cell st 1 rfl rfl | exact St.cell st 2 rfl rfl | exact St.cell st 3 rfl rfl | exact St.cell st 4 rfl rfl | fail)
        | (with_reducible apply ex1c; case h => first | exact St.cell st 0 rfl rfl | exact St.cell st 1 rfl rfl | exact St.cell st 2 rfl rfl | exact St.cell st 3 rfl rfl | exact St.cell st 4 rfl rfl | fail)
        | (with_reducible apply ex3c; case h => first | exact St.cell st 0 rfl rfl | exact St.cell st 1 rfl rfl | exact St.cell st 2 rfl rfl | exact St.cell st 3 rfl rfl | exact St.cell st 4 rfl rfl | fail)
        | (with_reducible apply ex0r; case h => first | exact St.rows st 0 rfl | exact St.rows st 1 rfl | exact St.rows st 2 rfl | exact St.rows st 3 rfl | exact St.rows st 4 rfl | fail)
        | (with_reducible apply exr2; case h => first | exact St.rows st 0 rfl | exact St.rows st 1 rfl | exact St.rows st 2 rfl | exact St.rows st 3 rfl | exact St.rows st 4 rfl | fail)
        | (with_reducible apply exr3; case h => first | exact St.rows st 0 rfl | exact St.rows st 1 rfl | exact St.rows st 2 rfl | exact St.rows st 3 rfl | exact St.rows st 4 rfl | fail)
        | (with_reducible apply exr4; case h => first | exact St.rows st 0 rfl | exact St.rows st 1 rfl | exact St.rows st 2 rfl | exact St.rows st 3 rfl | exact St.rows st 4 rfl | fail)
        | (with_reducible apply exr5; case h => first | exact St.rows st 0 rfl | exact St.rows st 1 rfl | exact St.rows st 2 rfl | exact St.rows st 3 rfl | exact St.rows st 4 rfl | fail)
        | (with_reducible apply exr6; case h => first | exact St.rows st 0 rfl | exact St.rows st 1 rfl | exact St.rows st 2 rfl | exact St.rows st 3 rfl | exact St.rows st 4 rfl | fail)
        | (with_reducible apply exr14; case h => first | exact St.rows st 0 rfl | exact St.rows st 1 rfl | exact St.rows st 2 rfl | exact St.rows st 3 rfl | exact St.rows st 4 rfl | fail)
        | (with_reducible apply exWr; case h => first | exact St.wr st 0 rfl rfl | exact St.wr st 1 rfl rfl | exact St.wr st 2 rfl rfl | exact St.wr st 3 rfl rfl | exact St.wr st 4 rfl rfl | fail)
        | (with_reducible apply exWrRow; case h => first | exact St.wrRow st 0 rfl rfl rfl | exact St.wrRow st 1 rfl rfl rfl | exact St.wrRow st 2 rfl rfl rfl | exact St.wrRow st 3 rfl rfl rfl | exact St.wrRow st 4 rfl rfl rfl | fail)
        | (with_reducible refine LetW.cell ?_; (first | refine St.store st 0 rfl ?_ | refine St.store st 1 rfl ?_ | refine St.store st 2 rfl ?_ | refine St.store st 3 rfl ?_ | refine St.store st 4 rfl ?_ | fail); (try clear st); intro w st; simp only [List.set] at st)
        | (with_reducible refine LetW.rows ?_; (first | refine St.storeRow st 0 rfl ?_ | refine St.storeRow st 1 rfl ?_ | refine St.storeRow st 2 rfl ?_ | refine St.storeRow st 3 rfl ?_ | refine St.storeRow st 4 rfl ?_ | fail); (try clear st); intro w st; simp only [List.set, setsL] at st)
        | ((with_reducible apply exr4); case h => first | exact St.rowAt st 0 rfl rfl | exact St.rowAt st 1 rfl rfl | exact St.rowAt st 2 rfl rfl | exact St.rowAt st 3 rfl rfl | exact St.rowAt st 4 rfl rfl | fail)
        | ((with_reducible apply exr5); case h => first | exact St.rowAt st 0 rfl rfl | exact St.rowAt st 1 rfl rfl | exact St.rowAt st 2 rfl rfl | exact St.rowAt st 3 rfl rfl | exact St.rowAt st 4 rfl rfl | fail)
        | ((with_reducible apply exr6); case h => first | exact St.rowAt st 0 rfl rfl | exact St.rowAt st 1 rfl rfl | exact St.rowAt st 2 rfl rfl | exact St.rowAt st 3 rfl rfl | exact St.rowAt st 4 rfl rfl | fail)
        | with_reducible refine LetI.id (by omega) (by omega) ?_
        | fail
      have ho := st.hold 0 _ rfl
      refine ⟨_, rfl, pm, km, ?_, ?_, st.kp⟩
      · rw [hfl]; rfl
      · rw [hfl, hfq]; exact ho
end Go.Proofs.Ytljipmhkpnigkaa
