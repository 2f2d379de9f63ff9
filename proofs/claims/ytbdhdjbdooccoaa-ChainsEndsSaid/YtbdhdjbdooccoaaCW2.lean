/- The law ChainsEnds: what it tells is true for every input. -/
import Derived.Test.YtbdhdjbdooccoaaCV
import Derived.Test.YtbdhdjbdooccoaaV17
namespace Go.Proofs.Ytbdhdjbdooccoaa
open Go.Vc Go.Codec

set_option maxHeartbeats 8000000 in
set_option maxRecDepth 100000 in
theorem lawCEnds_pw {w0 : World} {n k : Nat} {p : Option Addr} {c : Chn} (hM : MemAt w0 p c.mem) (hn : n = c.mem.length) (x : Int) : Pw Try.prog 8 #[chV c.epoch p n k c.drain, .int .i64 x] (.bool true) w0 := by
  subst hn
  have st : St No w0 w0 [] := St.start w0
  refine lawCEnds_ok _ _ _ _ _ _ _ _ ?_
  unfold lawCEnds
  generalize IntKind.i64.wrap (↑(BitVec.ofInt 64 x &&& BitVec.ofInt 64 7).toNat : Int) = m
  refine St.alloc st ?_; clear st; intro bc w st
  repeat' first
    | (with_reducible refine St.alloc st ?_; clear st; intro b w st)
    | with_reducible refine sz_and (by (repeat rw [ByteArray.size_append]); omega) ?_
    | (refine Pu.go (cgreat_pu _ _ _ _ _) st ?_; clear st; intro w st; refine ⟨_, rfl, ?_⟩)
    | (with_reducible apply ex0c; case h => first | exact St.cell st 0 rfl rfl | exact St.cell st 1 rfl rfl | exact St.cell st 2 rfl rfl | exact St.cell st 3 rfl rfl | fail)
    | (with_reducible apply ex1c; case h => first | exact St.cell st 0 rfl rfl | exact St.cell st 1 rfl rfl | exact St.cell st 2 rfl rfl | exact St.cell st 3 rfl rfl | fail)
    | (with_reducible apply ex3c; case h => first | exact St.cell st 0 rfl rfl | exact St.cell st 1 rfl rfl | exact St.cell st 2 rfl rfl | exact St.cell st 3 rfl rfl | fail)
    | (with_reducible apply ex0r; case h => first | exact St.rows st 0 rfl | exact St.rows st 1 rfl | exact St.rows st 2 rfl | exact St.rows st 3 rfl | fail)
    | (with_reducible apply exr2; case h => first | exact St.rows st 0 rfl | exact St.rows st 1 rfl | exact St.rows st 2 rfl | exact St.rows st 3 rfl | fail)
    | (with_reducible apply exr3; case h => first | exact St.rows st 0 rfl | exact St.rows st 1 rfl | exact St.rows st 2 rfl | exact St.rows st 3 rfl | fail)
    | (with_reducible apply exr4; case h => first | exact St.rows st 0 rfl | exact St.rows st 1 rfl | exact St.rows st 2 rfl | exact St.rows st 3 rfl | fail)
    | (with_reducible apply exr5; case h => first | exact St.rows st 0 rfl | exact St.rows st 1 rfl | exact St.rows st 2 rfl | exact St.rows st 3 rfl | fail)
    | (with_reducible apply exr6; case h => first | exact St.rows st 0 rfl | exact St.rows st 1 rfl | exact St.rows st 2 rfl | exact St.rows st 3 rfl | fail)
    | (with_reducible apply exr7; case h => first | exact St.rows st 0 rfl | exact St.rows st 1 rfl | exact St.rows st 2 rfl | exact St.rows st 3 rfl | fail)
    | (with_reducible apply exr8; case h => first | exact St.rows st 0 rfl | exact St.rows st 1 rfl | exact St.rows st 2 rfl | exact St.rows st 3 rfl | fail)
    | (with_reducible apply exWr; case h => first | exact St.wr st 0 rfl rfl | exact St.wr st 1 rfl rfl | exact St.wr st 2 rfl rfl | exact St.wr st 3 rfl rfl | fail)
    | (with_reducible apply exWrRow; case h => first | exact St.wrRow st 0 rfl rfl rfl | exact St.wrRow st 1 rfl rfl rfl | exact St.wrRow st 2 rfl rfl rfl | exact St.wrRow st 3 rfl rfl rfl | fail)
    | (with_reducible refine LetW.cell ?_; (first | refine St.store st 0 rfl ?_ | refine St.store st 1 rfl ?_ | refine St.store st 2 rfl ?_ | refine St.store st 3 rfl ?_ | fail); clear st; intro w st; simp only [List.set] at st)
    | (with_reducible refine LetW.rows ?_; (first | refine St.storeRow st 0 rfl ?_ | refine St.storeRow st 1 rfl ?_ | refine St.storeRow st 2 rfl ?_ | refine St.storeRow st 3 rfl ?_ | fail); clear st; intro w st; simp only [List.set, setsL] at st)
    | with_reducible refine LetI.id (by omega) (by omega) ?_
    | fail
  refine Br.dec (fun hg => ?_) (fun hg => ?_)
  · repeat' first
      | (with_reducible refine St.alloc st ?_; clear st; intro b w st)
      | with_reducible refine sz_and (by (repeat rw [ByteArray.size_append]); omega) ?_
      | (refine Pu.go (linked_pu) st ?_; clear st; intro w st; refine ⟨_, rfl, ?_⟩)
      | (with_reducible apply ex0c; case h => first | exact St.cell st 0 rfl rfl | exact St.cell st 1 rfl rfl | exact St.cell st 2 rfl rfl | exact St.cell st 3 rfl rfl | fail)
      | (with_reducible apply ex1c; case h => first | exact St.cell st 0 rfl rfl | exact St.cell st 1 rfl rfl | exact St.cell st 2 rfl rfl | exact St.cell st 3 rfl rfl | fail)
      | (with_reducible apply ex3c; case h => first | exact St.cell st 0 rfl rfl | exact St.cell st 1 rfl rfl | exact St.cell st 2 rfl rfl | exact St.cell st 3 rfl rfl | fail)
      | (with_reducible apply ex0r; case h => first | exact St.rows st 0 rfl | exact St.rows st 1 rfl | exact St.rows st 2 rfl | exact St.rows st 3 rfl | fail)
      | (with_reducible apply exr2; case h => first | exact St.rows st 0 rfl | exact St.rows st 1 rfl | exact St.rows st 2 rfl | exact St.rows st 3 rfl | fail)
      | (with_reducible apply exr3; case h => first | exact St.rows st 0 rfl | exact St.rows st 1 rfl | exact St.rows st 2 rfl | exact St.rows st 3 rfl | fail)
      | (with_reducible apply exr4; case h => first | exact St.rows st 0 rfl | exact St.rows st 1 rfl | exact St.rows st 2 rfl | exact St.rows st 3 rfl | fail)
      | (with_reducible apply exr5; case h => first | exact St.rows st 0 rfl | exact St.rows st 1 rfl | exact St.rows st 2 rfl | exact St.rows st 3 rfl | fail)
      | (with_reducible apply exr6; case h => first | exact St.rows st 0 rfl | exact St.rows st 1 rfl | exact St.rows st 2 rfl | exact St.rows st 3 rfl | fail)
      | (with_reducible apply exr7; case h => first | exact St.rows st 0 rfl | exact St.rows st 1 rfl | exact St.rows st 2 rfl | exact St.rows st 3 rfl | fail)
      | (with_reducible apply exr8; case h => first | exact St.rows st 0 rfl | exact St.rows st 1 rfl | exact St.rows st 2 rfl | exact St.rows st 3 rfl | fail)
      | (with_reducible apply exWr; case h => first | exact St.wr st 0 rfl rfl | exact St.wr st 1 rfl rfl | exact St.wr st 2 rfl rfl | exact St.wr st 3 rfl rfl | fail)
      | (with_reducible apply exWrRow; case h => first | exact St.wrRow st 0 rfl rfl rfl | exact St.wrRow st 1 rfl rfl rfl | exact St.wrRow st 2 rfl rfl rfl | exact St.wrRow st 3 rfl rfl rfl | fail)
      | (with_reducible refine LetW.cell ?_; (first | refine St.store st 0 rfl ?_ | refine St.store st 1 rfl ?_ | refine St.store st 2 rfl ?_ | refine St.store st 3 rfl ?_ | fail); clear st; intro w st; simp only [List.set] at st)
      | (with_reducible refine LetW.rows ?_; (first | refine St.storeRow st 0 rfl ?_ | refine St.storeRow st 1 rfl ?_ | refine St.storeRow st 2 rfl ?_ | refine St.storeRow st 3 rfl ?_ | fail); clear st; intro w st; simp only [List.set, setsL] at st)
      | with_reducible refine LetI.id (by omega) (by omega) ?_
      | with_reducible refine Br.dec (fun h => ?_) (fun h => ?_)
      | with_reducible refine Br.eqi (fun h => ?_) (fun h => ?_)
      | with_reducible refine Br.nei (fun h => ?_) (fun h => ?_)
      | with_reducible refine Br.eqs' (fun h => ?_) (fun h => ?_)
      | with_reducible refine Br.eqs (fun h => ?_) (fun h => ?_)
      | with_reducible refine Br.not ?_
      | with_reducible refine Br.and_ ?_
      | with_reducible refine Br.sure rfl ?_
      | with_reducible refine Br.nay rfl ?_
      | with_reducible refine Br.eqb (fun h => ?_) (fun h => ?_)
      | with_reducible refine Br.bool (fun h => ?_) (fun h => ?_)
      | fail
    exact ⟨rfl, st.kp⟩
  repeat' first
    | (with_reducible refine St.alloc st ?_; clear st; intro b w st)
    | with_reducible refine sz_and (by (repeat rw [ByteArray.size_append]); omega) ?_
    | (refine Pw.go (ccheck_pw (c := c) (hM.no st.kp) rfl) st ?_; clear st; intro w st; refine ⟨_, rfl, ?_⟩)
    | (with_reducible apply ex0c; case h => first | exact St.cell st 0 rfl rfl | exact St.cell st 1 rfl rfl | exact St.cell st 2 rfl rfl | exact St.cell st 3 rfl rfl | fail)
    | (with_reducible apply ex1c; case h => first | exact St.cell st 0 rfl rfl | exact St.cell st 1 rfl rfl | exact St.cell st 2 rfl rfl | exact St.cell st 3 rfl rfl | fail)
    | (with_reducible apply ex3c; case h => first | exact St.cell st 0 rfl rfl | exact St.cell st 1 rfl rfl | exact St.cell st 2 rfl rfl | exact St.cell st 3 rfl rfl | fail)
    | (with_reducible apply ex0r; case h => first | exact St.rows st 0 rfl | exact St.rows st 1 rfl | exact St.rows st 2 rfl | exact St.rows st 3 rfl | fail)
    | (with_reducible apply exr2; case h => first | exact St.rows st 0 rfl | exact St.rows st 1 rfl | exact St.rows st 2 rfl | exact St.rows st 3 rfl | fail)
    | (with_reducible apply exr3; case h => first | exact St.rows st 0 rfl | exact St.rows st 1 rfl | exact St.rows st 2 rfl | exact St.rows st 3 rfl | fail)
    | (with_reducible apply exr4; case h => first | exact St.rows st 0 rfl | exact St.rows st 1 rfl | exact St.rows st 2 rfl | exact St.rows st 3 rfl | fail)
    | (with_reducible apply exr5; case h => first | exact St.rows st 0 rfl | exact St.rows st 1 rfl | exact St.rows st 2 rfl | exact St.rows st 3 rfl | fail)
    | (with_reducible apply exr6; case h => first | exact St.rows st 0 rfl | exact St.rows st 1 rfl | exact St.rows st 2 rfl | exact St.rows st 3 rfl | fail)
    | (with_reducible apply exr7; case h => first | exact St.rows st 0 rfl | exact St.rows st 1 rfl | exact St.rows st 2 rfl | exact St.rows st 3 rfl | fail)
    | (with_reducible apply exr8; case h => first | exact St.rows st 0 rfl | exact St.rows st 1 rfl | exact St.rows st 2 rfl | exact St.rows st 3 rfl | fail)
    | (with_reducible apply exWr; case h => first | exact St.wr st 0 rfl rfl | exact St.wr st 1 rfl rfl | exact St.wr st 2 rfl rfl | exact St.wr st 3 rfl rfl | fail)
    | (with_reducible apply exWrRow; case h => first | exact St.wrRow st 0 rfl rfl rfl | exact St.wrRow st 1 rfl rfl rfl | exact St.wrRow st 2 rfl rfl rfl | exact St.wrRow st 3 rfl rfl rfl | fail)
    | (with_reducible refine LetW.cell ?_; (first | refine St.store st 0 rfl ?_ | refine St.store st 1 rfl ?_ | refine St.store st 2 rfl ?_ | refine St.store st 3 rfl ?_ | fail); clear st; intro w st; simp only [List.set] at st)
    | (with_reducible refine LetW.rows ?_; (first | refine St.storeRow st 0 rfl ?_ | refine St.storeRow st 1 rfl ?_ | refine St.storeRow st 2 rfl ?_ | refine St.storeRow st 3 rfl ?_ | fail); clear st; intro w st; simp only [List.set, setsL] at st)
    | with_reducible refine LetI.id (by omega) (by omega) ?_
    | fail
  refine Br.nei (fun h0 => ?_) (fun h0 => ?_)
  · repeat' first
      | (with_reducible refine St.alloc st ?_; clear st; intro b w st)
      | with_reducible refine sz_and (by (repeat rw [ByteArray.size_append]); omega) ?_
      | (refine Pu.go (linked_pu) st ?_; clear st; intro w st; refine ⟨_, rfl, ?_⟩)
      | (with_reducible apply ex0c; case h => first | exact St.cell st 0 rfl rfl | exact St.cell st 1 rfl rfl | exact St.cell st 2 rfl rfl | exact St.cell st 3 rfl rfl | fail)
      | (with_reducible apply ex1c; case h => first | exact St.cell st 0 rfl rfl | exact St.cell st 1 rfl rfl | exact St.cell st 2 rfl rfl | exact St.cell st 3 rfl rfl | fail)
      | (with_reducible apply ex3c; case h => first | exact St.cell st 0 rfl rfl | exact St.cell st 1 rfl rfl | exact St.cell st 2 rfl rfl | exact St.cell st 3 rfl rfl | fail)
      | (with_reducible apply ex0r; case h => first | exact St.rows st 0 rfl | exact St.rows st 1 rfl | exact St.rows st 2 rfl | exact St.rows st 3 rfl | fail)
      | (with_reducible apply exr2; case h => first | exact St.rows st 0 rfl | exact St.rows st 1 rfl | exact St.rows st 2 rfl | exact St.rows st 3 rfl | fail)
      | (with_reducible apply exr3; case h => first | exact St.rows st 0 rfl | exact St.rows st 1 rfl | exact St.rows st 2 rfl | exact St.rows st 3 rfl | fail)
      | (with_reducible apply exr4; case h => first | exact St.rows st 0 rfl | exact St.rows st 1 rfl | exact St.rows st 2 rfl | exact St.rows st 3 rfl | fail)
      | (with_reducible apply exr5; case h => first | exact St.rows st 0 rfl | exact St.rows st 1 rfl | exact St.rows st 2 rfl | exact St.rows st 3 rfl | fail)
      | (with_reducible apply exr6; case h => first | exact St.rows st 0 rfl | exact St.rows st 1 rfl | exact St.rows st 2 rfl | exact St.rows st 3 rfl | fail)
      | (with_reducible apply exr7; case h => first | exact St.rows st 0 rfl | exact St.rows st 1 rfl | exact St.rows st 2 rfl | exact St.rows st 3 rfl | fail)
      | (with_reducible apply exr8; case h => first | exact St.rows st 0 rfl | exact St.rows st 1 rfl | exact St.rows st 2 rfl | exact St.rows st 3 rfl | fail)
      | (with_reducible apply exWr; case h => first | exact St.wr st 0 rfl rfl | exact St.wr st 1 rfl rfl | exact St.wr st 2 rfl rfl | exact St.wr st 3 rfl rfl | fail)
      | (with_reducible apply exWrRow; case h => first | exact St.wrRow st 0 rfl rfl rfl | exact St.wrRow st 1 rfl rfl rfl | exact St.wrRow st 2 rfl rfl rfl | exact St.wrRow st 3 rfl rfl rfl | fail)
      | (with_reducible refine LetW.cell ?_; (first | refine St.store st 0 rfl ?_ | refine St.store st 1 rfl ?_ | refine St.store st 2 rfl ?_ | refine St.store st 3 rfl ?_ | fail); clear st; intro w st; simp only [List.set] at st)
      | (with_reducible refine LetW.rows ?_; (first | refine St.storeRow st 0 rfl ?_ | refine St.storeRow st 1 rfl ?_ | refine St.storeRow st 2 rfl ?_ | refine St.storeRow st 3 rfl ?_ | fail); clear st; intro w st; simp only [List.set, setsL] at st)
      | with_reducible refine LetI.id (by omega) (by omega) ?_
      | with_reducible refine Br.dec (fun h => ?_) (fun h => ?_)
      | with_reducible refine Br.eqi (fun h => ?_) (fun h => ?_)
      | with_reducible refine Br.nei (fun h => ?_) (fun h => ?_)
      | with_reducible refine Br.eqs' (fun h => ?_) (fun h => ?_)
      | with_reducible refine Br.eqs (fun h => ?_) (fun h => ?_)
      | with_reducible refine Br.not ?_
      | with_reducible refine Br.and_ ?_
      | with_reducible refine Br.sure rfl ?_
      | with_reducible refine Br.nay rfl ?_
      | with_reducible refine Br.eqb (fun h => ?_) (fun h => ?_)
      | with_reducible refine Br.bool (fun h => ?_) (fun h => ?_)
      | fail
    exact ⟨rfl, st.kp⟩
  have hc := chkC_ok.1 h0
  have hl : c.mem.length ≤ 1000 := by omega
  have he1 := hc.e1
  have he2 := hc.e2
  have hl1 := hc.l1
  repeat' first
    | (with_reducible refine St.alloc st ?_; clear st; intro b w st)
    | with_reducible refine sz_and (by (repeat rw [ByteArray.size_append]); omega) ?_
    | (refine Pw.go (chead_pw (c := c) (hM.no st.kp) rfl) st ?_; clear st; intro w st; refine ⟨_, rfl, ?_⟩)
    | (with_reducible apply ex0c; case h => first | exact St.cell st 0 rfl rfl | exact St.cell st 1 rfl rfl | exact St.cell st 2 rfl rfl | exact St.cell st 3 rfl rfl | fail)
    | (with_reducible apply ex1c; case h => first | exact St.cell st 0 rfl rfl | exact St.cell st 1 rfl rfl | exact St.cell st 2 rfl rfl | exact St.cell st 3 rfl rfl | fail)
    | (with_reducible apply ex3c; case h => first | exact St.cell st 0 rfl rfl | exact St.cell st 1 rfl rfl | exact St.cell st 2 rfl rfl | exact St.cell st 3 rfl rfl | fail)
    | (with_reducible apply ex0r; case h => first | exact St.rows st 0 rfl | exact St.rows st 1 rfl | exact St.rows st 2 rfl | exact St.rows st 3 rfl | fail)
    | (with_reducible apply exr2; case h => first | exact St.rows st 0 rfl | exact St.rows st 1 rfl | exact St.rows st 2 rfl | exact St.rows st 3 rfl | fail)
    | (with_reducible apply exr3; case h => first | exact St.rows st 0 rfl | exact St.rows st 1 rfl | exact St.rows st 2 rfl | exact St.rows st 3 rfl | fail)
    | (with_reducible apply exr4; case h => first | exact St.rows st 0 rfl | exact St.rows st 1 rfl | exact St.rows st 2 rfl | exact St.rows st 3 rfl | fail)
    | (with_reducible apply exr5; case h => first | exact St.rows st 0 rfl | exact St.rows st 1 rfl | exact St.rows st 2 rfl | exact St.rows st 3 rfl | fail)
    | (with_reducible apply exr6; case h => first | exact St.rows st 0 rfl | exact St.rows st 1 rfl | exact St.rows st 2 rfl | exact St.rows st 3 rfl | fail)
    | (with_reducible apply exr7; case h => first | exact St.rows st 0 rfl | exact St.rows st 1 rfl | exact St.rows st 2 rfl | exact St.rows st 3 rfl | fail)
    | (with_reducible apply exr8; case h => first | exact St.rows st 0 rfl | exact St.rows st 1 rfl | exact St.rows st 2 rfl | exact St.rows st 3 rfl | fail)
    | (with_reducible apply exWr; case h => first | exact St.wr st 0 rfl rfl | exact St.wr st 1 rfl rfl | exact St.wr st 2 rfl rfl | exact St.wr st 3 rfl rfl | fail)
    | (with_reducible apply exWrRow; case h => first | exact St.wrRow st 0 rfl rfl rfl | exact St.wrRow st 1 rfl rfl rfl | exact St.wrRow st 2 rfl rfl rfl | exact St.wrRow st 3 rfl rfl rfl | fail)
    | (with_reducible refine LetW.cell ?_; (first | refine St.store st 0 rfl ?_ | refine St.store st 1 rfl ?_ | refine St.store st 2 rfl ?_ | refine St.store st 3 rfl ?_ | fail); clear st; intro w st; simp only [List.set] at st)
    | (with_reducible refine LetW.rows ?_; (first | refine St.storeRow st 0 rfl ?_ | refine St.storeRow st 1 rfl ?_ | refine St.storeRow st 2 rfl ?_ | refine St.storeRow st 3 rfl ?_ | fail); clear st; intro w st; simp only [List.set, setsL] at st)
    | with_reducible refine LetI.id (by omega) (by omega) ?_
    | fail
  rw [head_at hc]
  refine ⟨fun ms v w' => ∃ j : Nat, v = [.bool false, .int .i64 (j : Int), .int .i64 (aheadC c j), .int .i64 (nodeAt c j)] ∧ ms = c.mem.length - j ∧ j ≤ c.mem.length ∧ St No w0 w' [.blk bc 37 [.int .i64 c.epoch, .slice p c.mem.length k, .int .i64 c.drain]], ⟨_, 0, rfl, rfl, by omega, st⟩, ?_⟩
  clear st
  rintro _ _ _ _ _ w ⟨j, hv, rfl, hj, st⟩
  obtain ⟨rfl, rfl, rfl, rfl⟩ : _ ∧ _ ∧ _ ∧ _ := by simpa using hv
  clear hv
  have hjn : nodeAt c j < 0 → j = c.mem.length := by
    intro hlt
    rcases Nat.lt_or_ge j c.mem.length with h1 | h1
    · have := node_nonneg hc h1
      rw [nodeAt_lt h1] at hlt; omega
    · omega
  have hjp : 0 ≤ nodeAt c j → j < c.mem.length := by
    intro hge
    rcases Nat.lt_or_ge j c.mem.length with h1 | h1
    · exact h1
    · rw [nodeAt_ge h1] at hge; omega
  refine Br.dec (fun h1 => ?_) (fun h1 => ?_)
  · have hjl := hjp (by omega)
    repeat' first
      | (with_reducible refine St.alloc st ?_; clear st; intro b w st)
      | with_reducible refine sz_and (by (repeat rw [ByteArray.size_append]); omega) ?_
      | (with_reducible apply ex0c; case h => first | exact St.cell st 0 rfl rfl | exact St.cell st 1 rfl rfl | exact St.cell st 2 rfl rfl | exact St.cell st 3 rfl rfl | fail)
      | (with_reducible apply ex1c; case h => first | exact St.cell st 0 rfl rfl | exact St.cell st 1 rfl rfl | exact St.cell st 2 rfl rfl | exact St.cell st 3 rfl rfl | fail)
      | (with_reducible apply ex3c; case h => first | exact St.cell st 0 rfl rfl | exact St.cell st 1 rfl rfl | exact St.cell st 2 rfl rfl | exact St.cell st 3 rfl rfl | fail)
      | (with_reducible apply ex0r; case h => first | exact St.rows st 0 rfl | exact St.rows st 1 rfl | exact St.rows st 2 rfl | exact St.rows st 3 rfl | fail)
      | (with_reducible apply exr2; case h => first | exact St.rows st 0 rfl | exact St.rows st 1 rfl | exact St.rows st 2 rfl | exact St.rows st 3 rfl | fail)
      | (with_reducible apply exr3; case h => first | exact St.rows st 0 rfl | exact St.rows st 1 rfl | exact St.rows st 2 rfl | exact St.rows st 3 rfl | fail)
      | (with_reducible apply exr4; case h => first | exact St.rows st 0 rfl | exact St.rows st 1 rfl | exact St.rows st 2 rfl | exact St.rows st 3 rfl | fail)
      | (with_reducible apply exr5; case h => first | exact St.rows st 0 rfl | exact St.rows st 1 rfl | exact St.rows st 2 rfl | exact St.rows st 3 rfl | fail)
      | (with_reducible apply exr6; case h => first | exact St.rows st 0 rfl | exact St.rows st 1 rfl | exact St.rows st 2 rfl | exact St.rows st 3 rfl | fail)
      | (with_reducible apply exr7; case h => first | exact St.rows st 0 rfl | exact St.rows st 1 rfl | exact St.rows st 2 rfl | exact St.rows st 3 rfl | fail)
      | (with_reducible apply exr8; case h => first | exact St.rows st 0 rfl | exact St.rows st 1 rfl | exact St.rows st 2 rfl | exact St.rows st 3 rfl | fail)
      | (with_reducible apply exWr; case h => first | exact St.wr st 0 rfl rfl | exact St.wr st 1 rfl rfl | exact St.wr st 2 rfl rfl | exact St.wr st 3 rfl rfl | fail)
      | (with_reducible apply exWrRow; case h => first | exact St.wrRow st 0 rfl rfl rfl | exact St.wrRow st 1 rfl rfl rfl | exact St.wrRow st 2 rfl rfl rfl | exact St.wrRow st 3 rfl rfl rfl | fail)
      | (with_reducible refine LetW.cell ?_; (first | refine St.store st 0 rfl ?_ | refine St.store st 1 rfl ?_ | refine St.store st 2 rfl ?_ | refine St.store st 3 rfl ?_ | fail); clear st; intro w st; simp only [List.set] at st)
      | (with_reducible refine LetW.rows ?_; (first | refine St.storeRow st 0 rfl ?_ | refine St.storeRow st 1 rfl ?_ | refine St.storeRow st 2 rfl ?_ | refine St.storeRow st 3 rfl ?_ | fail); clear st; intro w st; simp only [List.set, setsL] at st)
      | with_reducible refine LetI.id (by omega) (by omega) ?_
      | fail
    refine Br.dec (fun h2 => ?_) (fun h2 => by omega)
    repeat' first
      | (with_reducible refine St.alloc st ?_; clear st; intro b w st)
      | with_reducible refine sz_and (by (repeat rw [ByteArray.size_append]); omega) ?_
      | (refine Pw.go (cprev_pw (c := c) (hM.no st.kp) rfl (by omega) _) st ?_; clear st; intro w st; refine ⟨_, rfl, ?_⟩)
      | (with_reducible apply ex0c; case h => first | exact St.cell st 0 rfl rfl | exact St.cell st 1 rfl rfl | exact St.cell st 2 rfl rfl | exact St.cell st 3 rfl rfl | fail)
      | (with_reducible apply ex1c; case h => first | exact St.cell st 0 rfl rfl | exact St.cell st 1 rfl rfl | exact St.cell st 2 rfl rfl | exact St.cell st 3 rfl rfl | fail)
      | (with_reducible apply ex3c; case h => first | exact St.cell st 0 rfl rfl | exact St.cell st 1 rfl rfl | exact St.cell st 2 rfl rfl | exact St.cell st 3 rfl rfl | fail)
      | (with_reducible apply ex0r; case h => first | exact St.rows st 0 rfl | exact St.rows st 1 rfl | exact St.rows st 2 rfl | exact St.rows st 3 rfl | fail)
      | (with_reducible apply exr2; case h => first | exact St.rows st 0 rfl | exact St.rows st 1 rfl | exact St.rows st 2 rfl | exact St.rows st 3 rfl | fail)
      | (with_reducible apply exr3; case h => first | exact St.rows st 0 rfl | exact St.rows st 1 rfl | exact St.rows st 2 rfl | exact St.rows st 3 rfl | fail)
      | (with_reducible apply exr4; case h => first | exact St.rows st 0 rfl | exact St.rows st 1 rfl | exact St.rows st 2 rfl | exact St.rows st 3 rfl | fail)
      | (with_reducible apply exr5; case h => first | exact St.rows st 0 rfl | exact St.rows st 1 rfl | exact St.rows st 2 rfl | exact St.rows st 3 rfl | fail)
      | (with_reducible apply exr6; case h => first | exact St.rows st 0 rfl | exact St.rows st 1 rfl | exact St.rows st 2 rfl | exact St.rows st 3 rfl | fail)
      | (with_reducible apply exr7; case h => first | exact St.rows st 0 rfl | exact St.rows st 1 rfl | exact St.rows st 2 rfl | exact St.rows st 3 rfl | fail)
      | (with_reducible apply exr8; case h => first | exact St.rows st 0 rfl | exact St.rows st 1 rfl | exact St.rows st 2 rfl | exact St.rows st 3 rfl | fail)
      | (with_reducible apply exWr; case h => first | exact St.wr st 0 rfl rfl | exact St.wr st 1 rfl rfl | exact St.wr st 2 rfl rfl | exact St.wr st 3 rfl rfl | fail)
      | (with_reducible apply exWrRow; case h => first | exact St.wrRow st 0 rfl rfl rfl | exact St.wrRow st 1 rfl rfl rfl | exact St.wrRow st 2 rfl rfl rfl | exact St.wrRow st 3 rfl rfl rfl | fail)
      | (with_reducible refine LetW.cell ?_; (first | refine St.store st 0 rfl ?_ | refine St.store st 1 rfl ?_ | refine St.store st 2 rfl ?_ | refine St.store st 3 rfl ?_ | fail); clear st; intro w st; simp only [List.set] at st)
      | (with_reducible refine LetW.rows ?_; (first | refine St.storeRow st 0 rfl ?_ | refine St.storeRow st 1 rfl ?_ | refine St.storeRow st 2 rfl ?_ | refine St.storeRow st 3 rfl ?_ | fail); clear st; intro w st; simp only [List.set, setsL] at st)
      | with_reducible refine LetI.id (by omega) (by omega) ?_
      | fail
    rw [prev_at hc hjl]
    refine Br.nei (fun h3 => absurd rfl h3) (fun _ => ?_)
    repeat' first
      | (with_reducible refine St.alloc st ?_; clear st; intro b w st)
      | with_reducible refine sz_and (by (repeat rw [ByteArray.size_append]); omega) ?_
      | (refine Pw.go (cnext_pw (c := c) (hM.no st.kp) rfl (by omega) _) st ?_; clear st; intro w st; refine ⟨_, rfl, ?_⟩)
      | (with_reducible apply ex0c; case h => first | exact St.cell st 0 rfl rfl | exact St.cell st 1 rfl rfl | exact St.cell st 2 rfl rfl | exact St.cell st 3 rfl rfl | fail)
      | (with_reducible apply ex1c; case h => first | exact St.cell st 0 rfl rfl | exact St.cell st 1 rfl rfl | exact St.cell st 2 rfl rfl | exact St.cell st 3 rfl rfl | fail)
      | (with_reducible apply ex3c; case h => first | exact St.cell st 0 rfl rfl | exact St.cell st 1 rfl rfl | exact St.cell st 2 rfl rfl | exact St.cell st 3 rfl rfl | fail)
      | (with_reducible apply ex0r; case h => first | exact St.rows st 0 rfl | exact St.rows st 1 rfl | exact St.rows st 2 rfl | exact St.rows st 3 rfl | fail)
      | (with_reducible apply exr2; case h => first | exact St.rows st 0 rfl | exact St.rows st 1 rfl | exact St.rows st 2 rfl | exact St.rows st 3 rfl | fail)
      | (with_reducible apply exr3; case h => first | exact St.rows st 0 rfl | exact St.rows st 1 rfl | exact St.rows st 2 rfl | exact St.rows st 3 rfl | fail)
      | (with_reducible apply exr4; case h => first | exact St.rows st 0 rfl | exact St.rows st 1 rfl | exact St.rows st 2 rfl | exact St.rows st 3 rfl | fail)
      | (with_reducible apply exr5; case h => first | exact St.rows st 0 rfl | exact St.rows st 1 rfl | exact St.rows st 2 rfl | exact St.rows st 3 rfl | fail)
      | (with_reducible apply exr6; case h => first | exact St.rows st 0 rfl | exact St.rows st 1 rfl | exact St.rows st 2 rfl | exact St.rows st 3 rfl | fail)
      | (with_reducible apply exr7; case h => first | exact St.rows st 0 rfl | exact St.rows st 1 rfl | exact St.rows st 2 rfl | exact St.rows st 3 rfl | fail)
      | (with_reducible apply exr8; case h => first | exact St.rows st 0 rfl | exact St.rows st 1 rfl | exact St.rows st 2 rfl | exact St.rows st 3 rfl | fail)
      | (with_reducible apply exWr; case h => first | exact St.wr st 0 rfl rfl | exact St.wr st 1 rfl rfl | exact St.wr st 2 rfl rfl | exact St.wr st 3 rfl rfl | fail)
      | (with_reducible apply exWrRow; case h => first | exact St.wrRow st 0 rfl rfl rfl | exact St.wrRow st 1 rfl rfl rfl | exact St.wrRow st 2 rfl rfl rfl | exact St.wrRow st 3 rfl rfl rfl | fail)
      | (with_reducible refine LetW.cell ?_; (first | refine St.store st 0 rfl ?_ | refine St.store st 1 rfl ?_ | refine St.store st 2 rfl ?_ | refine St.store st 3 rfl ?_ | fail); clear st; intro w st; simp only [List.set] at st)
      | (with_reducible refine LetW.rows ?_; (first | refine St.storeRow st 0 rfl ?_ | refine St.storeRow st 1 rfl ?_ | refine St.storeRow st 2 rfl ?_ | refine St.storeRow st 3 rfl ?_ | fail); clear st; intro w st; simp only [List.set, setsL] at st)
      | with_reducible refine LetI.id (by omega) (by omega) ?_
      | fail
    rw [next_at hc hjl]
    exact ⟨_, by omega, j + 1, by simp [aheadC], rfl, by omega, st⟩
  · obtain rfl := hjn (by omega)
    repeat' first
      | (with_reducible refine St.alloc st ?_; clear st; intro b w st)
      | with_reducible refine sz_and (by (repeat rw [ByteArray.size_append]); omega) ?_
      | (with_reducible apply ex0c; case h => first | exact St.cell st 0 rfl rfl | exact St.cell st 1 rfl rfl | exact St.cell st 2 rfl rfl | exact St.cell st 3 rfl rfl | fail)
      | (with_reducible apply ex1c; case h => first | exact St.cell st 0 rfl rfl | exact St.cell st 1 rfl rfl | exact St.cell st 2 rfl rfl | exact St.cell st 3 rfl rfl | fail)
      | (with_reducible apply ex3c; case h => first | exact St.cell st 0 rfl rfl | exact St.cell st 1 rfl rfl | exact St.cell st 2 rfl rfl | exact St.cell st 3 rfl rfl | fail)
      | (with_reducible apply ex0r; case h => first | exact St.rows st 0 rfl | exact St.rows st 1 rfl | exact St.rows st 2 rfl | exact St.rows st 3 rfl | fail)
      | (with_reducible apply exr2; case h => first | exact St.rows st 0 rfl | exact St.rows st 1 rfl | exact St.rows st 2 rfl | exact St.rows st 3 rfl | fail)
      | (with_reducible apply exr3; case h => first | exact St.rows st 0 rfl | exact St.rows st 1 rfl | exact St.rows st 2 rfl | exact St.rows st 3 rfl | fail)
      | (with_reducible apply exr4; case h => first | exact St.rows st 0 rfl | exact St.rows st 1 rfl | exact St.rows st 2 rfl | exact St.rows st 3 rfl | fail)
      | (with_reducible apply exr5; case h => first | exact St.rows st 0 rfl | exact St.rows st 1 rfl | exact St.rows st 2 rfl | exact St.rows st 3 rfl | fail)
      | (with_reducible apply exr6; case h => first | exact St.rows st 0 rfl | exact St.rows st 1 rfl | exact St.rows st 2 rfl | exact St.rows st 3 rfl | fail)
      | (with_reducible apply exr7; case h => first | exact St.rows st 0 rfl | exact St.rows st 1 rfl | exact St.rows st 2 rfl | exact St.rows st 3 rfl | fail)
      | (with_reducible apply exr8; case h => first | exact St.rows st 0 rfl | exact St.rows st 1 rfl | exact St.rows st 2 rfl | exact St.rows st 3 rfl | fail)
      | (with_reducible apply exWr; case h => first | exact St.wr st 0 rfl rfl | exact St.wr st 1 rfl rfl | exact St.wr st 2 rfl rfl | exact St.wr st 3 rfl rfl | fail)
      | (with_reducible apply exWrRow; case h => first | exact St.wrRow st 0 rfl rfl rfl | exact St.wrRow st 1 rfl rfl rfl | exact St.wrRow st 2 rfl rfl rfl | exact St.wrRow st 3 rfl rfl rfl | fail)
      | (with_reducible refine LetW.cell ?_; (first | refine St.store st 0 rfl ?_ | refine St.store st 1 rfl ?_ | refine St.store st 2 rfl ?_ | refine St.store st 3 rfl ?_ | fail); clear st; intro w st; simp only [List.set] at st)
      | (with_reducible refine LetW.rows ?_; (first | refine St.storeRow st 0 rfl ?_ | refine St.storeRow st 1 rfl ?_ | refine St.storeRow st 2 rfl ?_ | refine St.storeRow st 3 rfl ?_ | fail); clear st; intro w st; simp only [List.set, setsL] at st)
      | with_reducible refine LetI.id (by omega) (by omega) ?_
      | fail
    refine Br.nei (fun h3 => absurd rfl h3) (fun _ => ?_)
    repeat' first
      | (with_reducible refine St.alloc st ?_; clear st; intro b w st)
      | with_reducible refine sz_and (by (repeat rw [ByteArray.size_append]); omega) ?_
      | (refine Pw.go (ctail_pw (c := c) (hM.no st.kp) rfl (by omega)) st ?_; clear st; intro w st; refine ⟨_, rfl, ?_⟩)
      | (with_reducible apply ex0c; case h => first | exact St.cell st 0 rfl rfl | exact St.cell st 1 rfl rfl | exact St.cell st 2 rfl rfl | exact St.cell st 3 rfl rfl | fail)
      | (with_reducible apply ex1c; case h => first | exact St.cell st 0 rfl rfl | exact St.cell st 1 rfl rfl | exact St.cell st 2 rfl rfl | exact St.cell st 3 rfl rfl | fail)
      | (with_reducible apply ex3c; case h => first | exact St.cell st 0 rfl rfl | exact St.cell st 1 rfl rfl | exact St.cell st 2 rfl rfl | exact St.cell st 3 rfl rfl | fail)
      | (with_reducible apply ex0r; case h => first | exact St.rows st 0 rfl | exact St.rows st 1 rfl | exact St.rows st 2 rfl | exact St.rows st 3 rfl | fail)
      | (with_reducible apply exr2; case h => first | exact St.rows st 0 rfl | exact St.rows st 1 rfl | exact St.rows st 2 rfl | exact St.rows st 3 rfl | fail)
      | (with_reducible apply exr3; case h => first | exact St.rows st 0 rfl | exact St.rows st 1 rfl | exact St.rows st 2 rfl | exact St.rows st 3 rfl | fail)
      | (with_reducible apply exr4; case h => first | exact St.rows st 0 rfl | exact St.rows st 1 rfl | exact St.rows st 2 rfl | exact St.rows st 3 rfl | fail)
      | (with_reducible apply exr5; case h => first | exact St.rows st 0 rfl | exact St.rows st 1 rfl | exact St.rows st 2 rfl | exact St.rows st 3 rfl | fail)
      | (with_reducible apply exr6; case h => first | exact St.rows st 0 rfl | exact St.rows st 1 rfl | exact St.rows st 2 rfl | exact St.rows st 3 rfl | fail)
      | (with_reducible apply exr7; case h => first | exact St.rows st 0 rfl | exact St.rows st 1 rfl | exact St.rows st 2 rfl | exact St.rows st 3 rfl | fail)
      | (with_reducible apply exr8; case h => first | exact St.rows st 0 rfl | exact St.rows st 1 rfl | exact St.rows st 2 rfl | exact St.rows st 3 rfl | fail)
      | (with_reducible apply exWr; case h => first | exact St.wr st 0 rfl rfl | exact St.wr st 1 rfl rfl | exact St.wr st 2 rfl rfl | exact St.wr st 3 rfl rfl | fail)
      | (with_reducible apply exWrRow; case h => first | exact St.wrRow st 0 rfl rfl rfl | exact St.wrRow st 1 rfl rfl rfl | exact St.wrRow st 2 rfl rfl rfl | exact St.wrRow st 3 rfl rfl rfl | fail)
      | (with_reducible refine LetW.cell ?_; (first | refine St.store st 0 rfl ?_ | refine St.store st 1 rfl ?_ | refine St.store st 2 rfl ?_ | refine St.store st 3 rfl ?_ | fail); clear st; intro w st; simp only [List.set] at st)
      | (with_reducible refine LetW.rows ?_; (first | refine St.storeRow st 0 rfl ?_ | refine St.storeRow st 1 rfl ?_ | refine St.storeRow st 2 rfl ?_ | refine St.storeRow st 3 rfl ?_ | fail); clear st; intro w st; simp only [List.set, setsL] at st)
      | with_reducible refine LetI.id (by omega) (by omega) ?_
      | fail
    rw [tail_at hc]
    refine Br.nei (fun h3 => absurd rfl h3) (fun _ => ?_)
    have hwl := with_len c m hl
    have hwo := without_len c m hl
    have hdl := drain_len c m hl
    have hwl' : (withC c m).1.mem.length ≤ 1000 := by
      by_cases hw : (withC c m).2 = 0
      · have := (with_facts hw).2.2.2.2; omega
      · have : (withC c m).1 = .none := by
          unfold withC at hw ⊢
          split
          · rfl
          · split
            · rfl
            · rename_i h1 h2; rw [if_neg h1, if_neg h2] at hw; exact absurd rfl hw
        rw [this]; decide
    have hwwl := without_len (withC c m).1 m hwl'
    have F1 := fun h => with_facts (c := c) (n := m) h
    have F2 := fun h he => with_without (c := c) (n := m) h he
    have F3 := fun h => without_facts (c := c) (n := m) h
    have F4 := fun h => drain_facts (c := c) (n := m) h
    have F5 := without_since c m
    have G1 : (withC c m).2 = 0 → chkC (withC c m).1 = 0 ∧ (withC c m).1.epoch = c.epoch + 1 ∧ tailC (withC c m).1 = m := fun h => ⟨(F1 h).1, (F1 h).2.1, (F1 h).2.2.1⟩
    have G1b : (withC c m).2 = 0 → (sinceC (withC c m).1 m).2 = true := fun h => by rw [(F1 h).2.2.2.1]
    have G1c : (withC c m).2 = 0 → (sinceC (withC c m).1 m).1 = (withC c m).1.epoch := fun h => by rw [(F1 h).2.2.2.1]
    have G2a : (withC c m).2 = 0 → (withC c m).1.epoch < 1099511627776 → (withoutC (withC c m).1 m).2 = 0 := fun h he => by rw [F2 h he]
    have G2b : (withC c m).2 = 0 → (withC c m).1.epoch < 1099511627776 → (⟨c.epoch, (withoutC (withC c m).1 m).1.mem, (withoutC (withC c m).1 m).1.drain⟩ : Chn) = c := fun h he => by rw [F2 h he]
    clear F1 F2
    repeat' first
      | (with_reducible refine St.alloc st ?_; clear st; intro b w st)
      | with_reducible refine sz_and (by (repeat rw [ByteArray.size_append]); omega) ?_
      | (refine Pu.go (linked_pu) st ?_; clear st; intro w st; refine ⟨_, rfl, ?_⟩)
      | (refine Pw.go (ccheck_pw (c := c) (hM.no st.kp) rfl) st ?_; clear st; intro w st; refine ⟨_, rfl, ?_⟩)
      | (refine Pw.go (ccheck_pw (c := (withC c m).1) (by first | exact ElAt.of_owns memE_len (st.hold 0 _ rfl) rfl | exact ElAt.of_owns memE_len (st.hold 1 _ rfl) rfl | exact ElAt.of_owns memE_len (st.hold 2 _ rfl) rfl | exact ElAt.of_owns memE_len (st.hold 3 _ rfl) rfl | exact ElAt.of_owns memE_len (st.hold 4 _ rfl) rfl | exact ElAt.of_owns memE_len (st.hold 5 _ rfl) rfl | exact ElAt.of_owns memE_len (st.hold 6 _ rfl) rfl | exact ElAt.of_owns memE_len (st.hold 7 _ rfl) rfl | exact ElAt.of_owns memE_len (st.hold 8 _ rfl) rfl) rfl) st ?_; clear st; intro w st; refine ⟨_, rfl, ?_⟩)
      | (refine Pw.go (ccheck_pw (c := (withoutC c m).1) (by first | exact ElAt.of_owns memE_len (st.hold 0 _ rfl) rfl | exact ElAt.of_owns memE_len (st.hold 1 _ rfl) rfl | exact ElAt.of_owns memE_len (st.hold 2 _ rfl) rfl | exact ElAt.of_owns memE_len (st.hold 3 _ rfl) rfl | exact ElAt.of_owns memE_len (st.hold 4 _ rfl) rfl | exact ElAt.of_owns memE_len (st.hold 5 _ rfl) rfl | exact ElAt.of_owns memE_len (st.hold 6 _ rfl) rfl | exact ElAt.of_owns memE_len (st.hold 7 _ rfl) rfl | exact ElAt.of_owns memE_len (st.hold 8 _ rfl) rfl) rfl) st ?_; clear st; intro w st; refine ⟨_, rfl, ?_⟩)
      | (refine Pw.go (ccheck_pw (c := (drainC c m).1) (by first | exact ElAt.of_owns memE_len (st.hold 0 _ rfl) rfl | exact ElAt.of_owns memE_len (st.hold 1 _ rfl) rfl | exact ElAt.of_owns memE_len (st.hold 2 _ rfl) rfl | exact ElAt.of_owns memE_len (st.hold 3 _ rfl) rfl | exact ElAt.of_owns memE_len (st.hold 4 _ rfl) rfl | exact ElAt.of_owns memE_len (st.hold 5 _ rfl) rfl | exact ElAt.of_owns memE_len (st.hold 6 _ rfl) rfl | exact ElAt.of_owns memE_len (st.hold 7 _ rfl) rfl | exact ElAt.of_owns memE_len (st.hold 8 _ rfl) rfl) rfl) st ?_; clear st; intro w st; refine ⟨_, rfl, ?_⟩)
      | (refine Pw.go (ctail_pw (c := (withC c m).1) (by first | exact ElAt.of_owns memE_len (st.hold 0 _ rfl) rfl | exact ElAt.of_owns memE_len (st.hold 1 _ rfl) rfl | exact ElAt.of_owns memE_len (st.hold 2 _ rfl) rfl | exact ElAt.of_owns memE_len (st.hold 3 _ rfl) rfl | exact ElAt.of_owns memE_len (st.hold 4 _ rfl) rfl | exact ElAt.of_owns memE_len (st.hold 5 _ rfl) rfl | exact ElAt.of_owns memE_len (st.hold 6 _ rfl) rfl | exact ElAt.of_owns memE_len (st.hold 7 _ rfl) rfl | exact ElAt.of_owns memE_len (st.hold 8 _ rfl) rfl) rfl (by omega)) st ?_; clear st; intro w st; refine ⟨_, rfl, ?_⟩)
      | (refine Pw.go (csince_pw (c := (withC c m).1) (by first | exact ElAt.of_owns memE_len (st.hold 0 _ rfl) rfl | exact ElAt.of_owns memE_len (st.hold 1 _ rfl) rfl | exact ElAt.of_owns memE_len (st.hold 2 _ rfl) rfl | exact ElAt.of_owns memE_len (st.hold 3 _ rfl) rfl | exact ElAt.of_owns memE_len (st.hold 4 _ rfl) rfl | exact ElAt.of_owns memE_len (st.hold 5 _ rfl) rfl | exact ElAt.of_owns memE_len (st.hold 6 _ rfl) rfl | exact ElAt.of_owns memE_len (st.hold 7 _ rfl) rfl | exact ElAt.of_owns memE_len (st.hold 8 _ rfl) rfl) rfl (by omega) _) st ?_; clear st; intro w st; refine ⟨_, _, rfl, ?_⟩)
      | (refine Pw.go (csince_pw (c := (withoutC c m).1) (by first | exact ElAt.of_owns memE_len (st.hold 0 _ rfl) rfl | exact ElAt.of_owns memE_len (st.hold 1 _ rfl) rfl | exact ElAt.of_owns memE_len (st.hold 2 _ rfl) rfl | exact ElAt.of_owns memE_len (st.hold 3 _ rfl) rfl | exact ElAt.of_owns memE_len (st.hold 4 _ rfl) rfl | exact ElAt.of_owns memE_len (st.hold 5 _ rfl) rfl | exact ElAt.of_owns memE_len (st.hold 6 _ rfl) rfl | exact ElAt.of_owns memE_len (st.hold 7 _ rfl) rfl | exact ElAt.of_owns memE_len (st.hold 8 _ rfl) rfl) rfl (by omega) _) st ?_; clear st; intro w st; refine ⟨_, _, rfl, ?_⟩)
      | (refine Pw.go (csame_pw (c := ⟨c.epoch, (withoutC (withC c m).1 m).1.mem, (withoutC (withC c m).1 m).1.drain⟩) (d := c) (by first | exact ElAt.of_owns memE_len (st.hold 0 _ rfl) rfl | exact ElAt.of_owns memE_len (st.hold 1 _ rfl) rfl | exact ElAt.of_owns memE_len (st.hold 2 _ rfl) rfl | exact ElAt.of_owns memE_len (st.hold 3 _ rfl) rfl | exact ElAt.of_owns memE_len (st.hold 4 _ rfl) rfl | exact ElAt.of_owns memE_len (st.hold 5 _ rfl) rfl | exact ElAt.of_owns memE_len (st.hold 6 _ rfl) rfl | exact ElAt.of_owns memE_len (st.hold 7 _ rfl) rfl | exact ElAt.of_owns memE_len (st.hold 8 _ rfl) rfl) (hM.no st.kp) rfl rfl (Nat.le_trans hwwl (by decide))) st ?_; clear st; intro w st; refine ⟨_, rfl, ?_⟩)
      | (with_reducible apply ex0c; case h => first | exact St.cell st 0 rfl rfl | exact St.cell st 1 rfl rfl | exact St.cell st 2 rfl rfl | exact St.cell st 3 rfl rfl | exact St.cell st 4 rfl rfl | exact St.cell st 5 rfl rfl | exact St.cell st 6 rfl rfl | exact St.cell st 7 rfl rfl | exact St.cell st 8 rfl rfl | exact St.cell st 9 rfl rfl | fail)
      | (with_reducible apply ex1c; case h => first | exact St.cell st 0 rfl rfl | exact St.cell st 1 rfl rfl | exact St.cell st 2 rfl rfl | exact St.cell st 3 rfl rfl | exact St.cell st 4 rfl rfl | exact St.cell st 5 rfl rfl | exact St.cell st 6 rfl rfl | exact St.cell st 7 rfl rfl | exact St.cell st 8 rfl rfl | exact St.cell st 9 rfl rfl | fail)
      | (with_reducible apply ex3c; case h => first | exact St.cell st 0 rfl rfl | exact St.cell st 1 rfl rfl | exact St.cell st 2 rfl rfl | exact St.cell st 3 rfl rfl | exact St.cell st 4 rfl rfl | exact St.cell st 5 rfl rfl | exact St.cell st 6 rfl rfl | exact St.cell st 7 rfl rfl | exact St.cell st 8 rfl rfl | exact St.cell st 9 rfl rfl | fail)
      | (with_reducible apply ex0r; case h => first | exact St.rows st 0 rfl | exact St.rows st 1 rfl | exact St.rows st 2 rfl | exact St.rows st 3 rfl | exact St.rows st 4 rfl | exact St.rows st 5 rfl | exact St.rows st 6 rfl | exact St.rows st 7 rfl | exact St.rows st 8 rfl | exact St.rows st 9 rfl | fail)
      | (with_reducible apply exr2; case h => first | exact St.rows st 0 rfl | exact St.rows st 1 rfl | exact St.rows st 2 rfl | exact St.rows st 3 rfl | exact St.rows st 4 rfl | exact St.rows st 5 rfl | exact St.rows st 6 rfl | exact St.rows st 7 rfl | exact St.rows st 8 rfl | exact St.rows st 9 rfl | fail)
      | (with_reducible apply exr3; case h => first | exact St.rows st 0 rfl | exact St.rows st 1 rfl | exact St.rows st 2 rfl | exact St.rows st 3 rfl | exact St.rows st 4 rfl | exact St.rows st 5 rfl | exact St.rows st 6 rfl | exact St.rows st 7 rfl | exact St.rows st 8 rfl | exact St.rows st 9 rfl | fail)
      | (with_reducible apply exr4; case h => first | exact St.rows st 0 rfl | exact St.rows st 1 rfl | exact St.rows st 2 rfl | exact St.rows st 3 rfl | exact St.rows st 4 rfl | exact St.rows st 5 rfl | exact St.rows st 6 rfl | exact St.rows st 7 rfl | exact St.rows st 8 rfl | exact St.rows st 9 rfl | fail)
      | (with_reducible apply exr5; case h => first | exact St.rows st 0 rfl | exact St.rows st 1 rfl | exact St.rows st 2 rfl | exact St.rows st 3 rfl | exact St.rows st 4 rfl | exact St.rows st 5 rfl | exact St.rows st 6 rfl | exact St.rows st 7 rfl | exact St.rows st 8 rfl | exact St.rows st 9 rfl | fail)
      | (with_reducible apply exr6; case h => first | exact St.rows st 0 rfl | exact St.rows st 1 rfl | exact St.rows st 2 rfl | exact St.rows st 3 rfl | exact St.rows st 4 rfl | exact St.rows st 5 rfl | exact St.rows st 6 rfl | exact St.rows st 7 rfl | exact St.rows st 8 rfl | exact St.rows st 9 rfl | fail)
      | (with_reducible apply exr7; case h => first | exact St.rows st 0 rfl | exact St.rows st 1 rfl | exact St.rows st 2 rfl | exact St.rows st 3 rfl | exact St.rows st 4 rfl | exact St.rows st 5 rfl | exact St.rows st 6 rfl | exact St.rows st 7 rfl | exact St.rows st 8 rfl | exact St.rows st 9 rfl | fail)
      | (with_reducible apply exr8; case h => first | exact St.rows st 0 rfl | exact St.rows st 1 rfl | exact St.rows st 2 rfl | exact St.rows st 3 rfl | exact St.rows st 4 rfl | exact St.rows st 5 rfl | exact St.rows st 6 rfl | exact St.rows st 7 rfl | exact St.rows st 8 rfl | exact St.rows st 9 rfl | fail)
      | (with_reducible apply exWr; case h => first | exact St.wr st 0 rfl rfl | exact St.wr st 1 rfl rfl | exact St.wr st 2 rfl rfl | exact St.wr st 3 rfl rfl | exact St.wr st 4 rfl rfl | exact St.wr st 5 rfl rfl | exact St.wr st 6 rfl rfl | exact St.wr st 7 rfl rfl | exact St.wr st 8 rfl rfl | exact St.wr st 9 rfl rfl | fail)
      | (with_reducible apply exWrRow; case h => first | exact St.wrRow st 0 rfl rfl rfl | exact St.wrRow st 1 rfl rfl rfl | exact St.wrRow st 2 rfl rfl rfl | exact St.wrRow st 3 rfl rfl rfl | exact St.wrRow st 4 rfl rfl rfl | exact St.wrRow st 5 rfl rfl rfl | exact St.wrRow st 6 rfl rfl rfl | exact St.wrRow st 7 rfl rfl rfl | exact St.wrRow st 8 rfl rfl rfl | exact St.wrRow st 9 rfl rfl rfl | fail)
      | (with_reducible refine LetW.cell ?_; (first | refine St.store st 0 rfl ?_ | refine St.store st 1 rfl ?_ | refine St.store st 2 rfl ?_ | refine St.store st 3 rfl ?_ | refine St.store st 4 rfl ?_ | refine St.store st 5 rfl ?_ | refine St.store st 6 rfl ?_ | refine St.store st 7 rfl ?_ | refine St.store st 8 rfl ?_ | refine St.store st 9 rfl ?_ | fail); clear st; intro w st; simp only [List.set] at st)
      | (with_reducible refine LetW.rows ?_; (first | refine St.storeRow st 0 rfl ?_ | refine St.storeRow st 1 rfl ?_ | refine St.storeRow st 2 rfl ?_ | refine St.storeRow st 3 rfl ?_ | refine St.storeRow st 4 rfl ?_ | refine St.storeRow st 5 rfl ?_ | refine St.storeRow st 6 rfl ?_ | refine St.storeRow st 7 rfl ?_ | refine St.storeRow st 8 rfl ?_ | refine St.storeRow st 9 rfl ?_ | fail); clear st; intro w st; simp only [List.set, setsL] at st)
      | with_reducible refine LetI.id (by omega) (by omega) ?_
      | exact absurd rfl h
      | (refine (cwith_ca (hM.no st.kp) rfl hl _).mono ?_; rintro _ w ⟨_, rfl, px, kx, rfl, ho, hk⟩; replace st := st.pushRow hk ho; clear ho hk; refine ⟨_, _, _, _, _, _, rfl, ?_⟩)
      | (refine (cwithout_ca (c := c) (hM.no st.kp) rfl hl _).mono ?_; rintro _ w ⟨_, rfl, px, kx, rfl, ho, hk⟩; replace st := st.pushRow hk ho; clear ho hk; refine ⟨_, _, _, _, _, _, rfl, ?_⟩)
      | (refine (cwithout_ca (c := (withC c m).1) (by first | exact ElAt.of_owns memE_len (st.hold 0 _ rfl) rfl | exact ElAt.of_owns memE_len (st.hold 1 _ rfl) rfl | exact ElAt.of_owns memE_len (st.hold 2 _ rfl) rfl | exact ElAt.of_owns memE_len (st.hold 3 _ rfl) rfl | exact ElAt.of_owns memE_len (st.hold 4 _ rfl) rfl | exact ElAt.of_owns memE_len (st.hold 5 _ rfl) rfl | exact ElAt.of_owns memE_len (st.hold 6 _ rfl) rfl | exact ElAt.of_owns memE_len (st.hold 7 _ rfl) rfl | exact ElAt.of_owns memE_len (st.hold 8 _ rfl) rfl) rfl hwl' _).mono ?_; rintro _ w ⟨_, rfl, px, kx, rfl, ho, hk⟩; replace st := st.pushRow hk ho; clear ho hk; refine ⟨_, _, _, _, _, _, rfl, ?_⟩)
      | (refine (cdrain_ca (c := c) (hM.no st.kp) rfl hl _).mono ?_; rintro _ w ⟨_, rfl, px, kx, rfl, ho, hk⟩; replace st := st.pushRow hk ho; clear ho hk; refine ⟨_, _, _, _, _, _, rfl, ?_⟩)
      | with_reducible refine Br.dec (fun h => ?_) (fun h => ?_)
      | with_reducible refine Br.eqi (fun h => ?_) (fun h => ?_)
      | with_reducible refine Br.nei (fun h => ?_) (fun h => ?_)
      | with_reducible refine Br.eqs' (fun h => ?_) (fun h => ?_)
      | with_reducible refine Br.eqs (fun h => ?_) (fun h => ?_)
      | with_reducible refine Br.not ?_
      | with_reducible refine Br.and_ ?_
      | with_reducible refine Br.sure rfl ?_
      | with_reducible refine Br.nay rfl ?_
      | with_reducible refine Br.eqb (fun h => ?_) (fun h => ?_)
      | with_reducible refine Br.bool (fun h => ?_) (fun h => ?_)
      | fail
    all_goals try exact ⟨rfl, st.kp⟩
    all_goals exfalso
    all_goals clear st hM hjn hjp
    all_goals first
      | omega
      | exact h (G2b (by assumption) (by assumption))
      | exact Bool.noConfusion ((G1b (by assumption)).symm.trans h)
      | exact Bool.noConfusion (F5.symm.trans h)
      | exact absurd rfl h
end Go.Proofs.Ytbdhdjbdooccoaa
