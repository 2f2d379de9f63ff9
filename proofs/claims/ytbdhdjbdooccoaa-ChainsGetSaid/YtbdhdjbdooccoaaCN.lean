/- The laws of chapter 12: ChainsGet, ChainsBack. -/
import Derived.Test.YtbdhdjbdooccoaaCL
namespace Go.Proofs.Ytbdhdjbdooccoaa
open Go.Vc Go.Codec

theorem isC_len {s : List UInt8} {x : Chn × Int} (h : IsC s x) : x.1.mem.length ≤ 6 := by
  rcases h with ⟨_, h, _⟩ | ⟨h, _⟩
  · exact h.l2
  · rw [h]; decide
theorem lawCGet_pu (s : List UInt8) : Pu Try.prog 9 #[.string (mk s)] (.bool true) := by
  intro w0
  have st : St No w0 w0 [] := St.start w0
  refine lawCGet_ok _ _ _ ?_
  unfold lawCGet
  refine Br.dec (fun h => ?_) (fun h => ?_)
  · repeat' first
      | (with_reducible refine St.alloc st ?_; clear st; intro b w st)
      | with_reducible refine sz_and (by (repeat rw [ByteArray.size_append]); omega) ?_
      | (refine Pu.go (linked_pu) st ?_; clear st; intro w st; refine ⟨_, rfl, ?_⟩)
      | refine ⟨St.cell st 0 rfl rfl, ?_⟩
      | refine ⟨_, St.cell st 0 rfl rfl, ?_⟩
      | refine ⟨_, _, St.cell st 0 rfl rfl, ?_⟩
      | refine ⟨_, _, _, St.cell st 0 rfl rfl, ?_⟩
      | refine ⟨St.cell st 1 rfl rfl, ?_⟩
      | refine ⟨_, St.cell st 1 rfl rfl, ?_⟩
      | refine ⟨_, _, St.cell st 1 rfl rfl, ?_⟩
      | refine ⟨_, _, _, St.cell st 1 rfl rfl, ?_⟩
      | refine ⟨St.cell st 2 rfl rfl, ?_⟩
      | refine ⟨_, St.cell st 2 rfl rfl, ?_⟩
      | refine ⟨_, _, St.cell st 2 rfl rfl, ?_⟩
      | refine ⟨_, _, _, St.cell st 2 rfl rfl, ?_⟩
      | refine ⟨St.cell st 3 rfl rfl, ?_⟩
      | refine ⟨_, St.cell st 3 rfl rfl, ?_⟩
      | refine ⟨_, _, St.cell st 3 rfl rfl, ?_⟩
      | refine ⟨_, _, _, St.cell st 3 rfl rfl, ?_⟩
      | refine ⟨St.rows st 0 rfl, ?_⟩
      | refine ⟨_, _, St.rows st 0 rfl, ?_⟩
      | refine ⟨_, _, _, St.rows st 0 rfl, ?_⟩
      | refine ⟨_, _, _, _, St.rows st 0 rfl, ?_⟩
      | refine ⟨_, _, _, _, _, St.rows st 0 rfl, ?_⟩
      | refine ⟨_, _, _, _, _, _, St.rows st 0 rfl, ?_⟩
      | refine ⟨_, _, _, _, _, _, _, St.rows st 0 rfl, ?_⟩
      | refine ⟨_, _, _, _, _, _, _, _, St.rows st 0 rfl, ?_⟩
      | refine ⟨St.rows st 1 rfl, ?_⟩
      | refine ⟨_, _, St.rows st 1 rfl, ?_⟩
      | refine ⟨_, _, _, St.rows st 1 rfl, ?_⟩
      | refine ⟨_, _, _, _, St.rows st 1 rfl, ?_⟩
      | refine ⟨_, _, _, _, _, St.rows st 1 rfl, ?_⟩
      | refine ⟨_, _, _, _, _, _, St.rows st 1 rfl, ?_⟩
      | refine ⟨_, _, _, _, _, _, _, St.rows st 1 rfl, ?_⟩
      | refine ⟨_, _, _, _, _, _, _, _, St.rows st 1 rfl, ?_⟩
      | refine ⟨St.rows st 2 rfl, ?_⟩
      | refine ⟨_, _, St.rows st 2 rfl, ?_⟩
      | refine ⟨_, _, _, St.rows st 2 rfl, ?_⟩
      | refine ⟨_, _, _, _, St.rows st 2 rfl, ?_⟩
      | refine ⟨_, _, _, _, _, St.rows st 2 rfl, ?_⟩
      | refine ⟨_, _, _, _, _, _, St.rows st 2 rfl, ?_⟩
      | refine ⟨_, _, _, _, _, _, _, St.rows st 2 rfl, ?_⟩
      | refine ⟨_, _, _, _, _, _, _, _, St.rows st 2 rfl, ?_⟩
      | refine ⟨St.rows st 3 rfl, ?_⟩
      | refine ⟨_, _, St.rows st 3 rfl, ?_⟩
      | refine ⟨_, _, _, St.rows st 3 rfl, ?_⟩
      | refine ⟨_, _, _, _, St.rows st 3 rfl, ?_⟩
      | refine ⟨_, _, _, _, _, St.rows st 3 rfl, ?_⟩
      | refine ⟨_, _, _, _, _, _, St.rows st 3 rfl, ?_⟩
      | refine ⟨_, _, _, _, _, _, _, St.rows st 3 rfl, ?_⟩
      | refine ⟨_, _, _, _, _, _, _, _, St.rows st 3 rfl, ?_⟩
      | (refine ⟨St.wr st 0 rfl rfl, St.store st 0 rfl ?_⟩; clear st; intro w st; simp only [List.set] at st)
      | (refine ⟨St.wrRow st 0 rfl rfl rfl, St.storeRow st 0 rfl ?_⟩; clear st; intro w st; simp only [List.set, setsL] at st)
      | (refine ⟨St.wr st 1 rfl rfl, St.store st 1 rfl ?_⟩; clear st; intro w st; simp only [List.set] at st)
      | (refine ⟨St.wrRow st 1 rfl rfl rfl, St.storeRow st 1 rfl ?_⟩; clear st; intro w st; simp only [List.set, setsL] at st)
      | (refine ⟨St.wr st 2 rfl rfl, St.store st 2 rfl ?_⟩; clear st; intro w st; simp only [List.set] at st)
      | (refine ⟨St.wrRow st 2 rfl rfl rfl, St.storeRow st 2 rfl ?_⟩; clear st; intro w st; simp only [List.set, setsL] at st)
      | (refine ⟨St.wr st 3 rfl rfl, St.store st 3 rfl ?_⟩; clear st; intro w st; simp only [List.set] at st)
      | (refine ⟨St.wrRow st 3 rfl rfl rfl, St.storeRow st 3 rfl ?_⟩; clear st; intro w st; simp only [List.set, setsL] at st)
      | with_reducible refine LetI.id (by omega) (by omega) ?_
      | with_reducible refine Br.dec (fun h => ?_) (fun h => ?_)
      | with_reducible refine Br.eqi (fun h => ?_) (fun h => ?_)
      | with_reducible refine Br.nei (fun h => ?_) (fun h => ?_)
      | with_reducible refine Br.eqs' (fun h => ?_) (fun h => ?_)
      | with_reducible refine Br.eqs (fun h => ?_) (fun h => ?_)
      | with_reducible refine Br.not ?_
      | with_reducible refine Br.and_ ?_
      | with_reducible refine Br.sure rfl ?_
      | with_reducible refine Br.nay rfl ?_
      | with_reducible refine Br.eqb (fun h => ?_) (fun h => ?_)
      | with_reducible refine Br.bool (fun h => ?_) (fun h => ?_)
      | fail
    exact ⟨rfl, st.kp⟩
  have hl : s.length ≤ 300 := by have e1 : (mk s).size = s.length := rfl; omega
  refine (cget_ca (s0 := s) (by omega)).mono ?_
  rintro _ w ⟨x, _, hx, rfl, px, kx, rfl, ho, hk⟩; replace st := st.pushRow hk ho; clear ho hk; refine ⟨_, _, _, _, _, _, rfl, ?_⟩
  repeat' first
    | (with_reducible refine St.alloc st ?_; clear st; intro b w st)
    | with_reducible refine sz_and (by (repeat rw [ByteArray.size_append]); omega) ?_
    | refine ⟨St.cell st 0 rfl rfl, ?_⟩
    | refine ⟨_, St.cell st 0 rfl rfl, ?_⟩
    | refine ⟨_, _, St.cell st 0 rfl rfl, ?_⟩
    | refine ⟨_, _, _, St.cell st 0 rfl rfl, ?_⟩
    | refine ⟨St.cell st 1 rfl rfl, ?_⟩
    | refine ⟨_, St.cell st 1 rfl rfl, ?_⟩
    | refine ⟨_, _, St.cell st 1 rfl rfl, ?_⟩
    | refine ⟨_, _, _, St.cell st 1 rfl rfl, ?_⟩
    | refine ⟨St.cell st 2 rfl rfl, ?_⟩
    | refine ⟨_, St.cell st 2 rfl rfl, ?_⟩
    | refine ⟨_, _, St.cell st 2 rfl rfl, ?_⟩
    | refine ⟨_, _, _, St.cell st 2 rfl rfl, ?_⟩
    | refine ⟨St.cell st 3 rfl rfl, ?_⟩
    | refine ⟨_, St.cell st 3 rfl rfl, ?_⟩
    | refine ⟨_, _, St.cell st 3 rfl rfl, ?_⟩
    | refine ⟨_, _, _, St.cell st 3 rfl rfl, ?_⟩
    | refine ⟨St.rows st 0 rfl, ?_⟩
    | refine ⟨_, _, St.rows st 0 rfl, ?_⟩
    | refine ⟨_, _, _, St.rows st 0 rfl, ?_⟩
    | refine ⟨_, _, _, _, St.rows st 0 rfl, ?_⟩
    | refine ⟨_, _, _, _, _, St.rows st 0 rfl, ?_⟩
    | refine ⟨_, _, _, _, _, _, St.rows st 0 rfl, ?_⟩
    | refine ⟨_, _, _, _, _, _, _, St.rows st 0 rfl, ?_⟩
    | refine ⟨_, _, _, _, _, _, _, _, St.rows st 0 rfl, ?_⟩
    | refine ⟨St.rows st 1 rfl, ?_⟩
    | refine ⟨_, _, St.rows st 1 rfl, ?_⟩
    | refine ⟨_, _, _, St.rows st 1 rfl, ?_⟩
    | refine ⟨_, _, _, _, St.rows st 1 rfl, ?_⟩
    | refine ⟨_, _, _, _, _, St.rows st 1 rfl, ?_⟩
    | refine ⟨_, _, _, _, _, _, St.rows st 1 rfl, ?_⟩
    | refine ⟨_, _, _, _, _, _, _, St.rows st 1 rfl, ?_⟩
    | refine ⟨_, _, _, _, _, _, _, _, St.rows st 1 rfl, ?_⟩
    | refine ⟨St.rows st 2 rfl, ?_⟩
    | refine ⟨_, _, St.rows st 2 rfl, ?_⟩
    | refine ⟨_, _, _, St.rows st 2 rfl, ?_⟩
    | refine ⟨_, _, _, _, St.rows st 2 rfl, ?_⟩
    | refine ⟨_, _, _, _, _, St.rows st 2 rfl, ?_⟩
    | refine ⟨_, _, _, _, _, _, St.rows st 2 rfl, ?_⟩
    | refine ⟨_, _, _, _, _, _, _, St.rows st 2 rfl, ?_⟩
    | refine ⟨_, _, _, _, _, _, _, _, St.rows st 2 rfl, ?_⟩
    | refine ⟨St.rows st 3 rfl, ?_⟩
    | refine ⟨_, _, St.rows st 3 rfl, ?_⟩
    | refine ⟨_, _, _, St.rows st 3 rfl, ?_⟩
    | refine ⟨_, _, _, _, St.rows st 3 rfl, ?_⟩
    | refine ⟨_, _, _, _, _, St.rows st 3 rfl, ?_⟩
    | refine ⟨_, _, _, _, _, _, St.rows st 3 rfl, ?_⟩
    | refine ⟨_, _, _, _, _, _, _, St.rows st 3 rfl, ?_⟩
    | refine ⟨_, _, _, _, _, _, _, _, St.rows st 3 rfl, ?_⟩
    | (refine ⟨St.wr st 0 rfl rfl, St.store st 0 rfl ?_⟩; clear st; intro w st; simp only [List.set] at st)
    | (refine ⟨St.wrRow st 0 rfl rfl rfl, St.storeRow st 0 rfl ?_⟩; clear st; intro w st; simp only [List.set, setsL] at st)
    | (refine ⟨St.wr st 1 rfl rfl, St.store st 1 rfl ?_⟩; clear st; intro w st; simp only [List.set] at st)
    | (refine ⟨St.wrRow st 1 rfl rfl rfl, St.storeRow st 1 rfl ?_⟩; clear st; intro w st; simp only [List.set, setsL] at st)
    | (refine ⟨St.wr st 2 rfl rfl, St.store st 2 rfl ?_⟩; clear st; intro w st; simp only [List.set] at st)
    | (refine ⟨St.wrRow st 2 rfl rfl rfl, St.storeRow st 2 rfl ?_⟩; clear st; intro w st; simp only [List.set, setsL] at st)
    | (refine ⟨St.wr st 3 rfl rfl, St.store st 3 rfl ?_⟩; clear st; intro w st; simp only [List.set] at st)
    | (refine ⟨St.wrRow st 3 rfl rfl rfl, St.storeRow st 3 rfl ?_⟩; clear st; intro w st; simp only [List.set, setsL] at st)
    | with_reducible refine LetI.id (by omega) (by omega) ?_
    | fail
  refine (rcget_ca (s0 := s) (by omega)).mono ?_
  rintro _ w ⟨y, _, hy, rfl, py, ky, rfl, ho, hk⟩
  obtain rfl := hx.unique hy
  replace st := st.pushRow hk ho
  clear ho hk
  refine ⟨_, _, _, _, _, _, rfl, ?_⟩
  have h6 := isC_len hx
  repeat' first
    | (with_reducible refine St.alloc st ?_; clear st; intro b w st)
    | with_reducible refine sz_and (by (repeat rw [ByteArray.size_append]); omega) ?_
    | (refine Pu.go (linked_pu) st ?_; clear st; intro w st; refine ⟨_, rfl, ?_⟩)
    | (refine Pw.go (rcsame_pw (c := x.1) (d := x.1) (ElAt.of_owns memE_len (st.hold 3 _ rfl) rfl) (ElAt.of_owns memE_len (st.hold 1 _ rfl) rfl) rfl rfl (by omega)) st ?_; clear st; intro w st; refine ⟨_, rfl, ?_⟩)
    | refine ⟨St.cell st 0 rfl rfl, ?_⟩
    | refine ⟨_, St.cell st 0 rfl rfl, ?_⟩
    | refine ⟨_, _, St.cell st 0 rfl rfl, ?_⟩
    | refine ⟨_, _, _, St.cell st 0 rfl rfl, ?_⟩
    | refine ⟨St.cell st 1 rfl rfl, ?_⟩
    | refine ⟨_, St.cell st 1 rfl rfl, ?_⟩
    | refine ⟨_, _, St.cell st 1 rfl rfl, ?_⟩
    | refine ⟨_, _, _, St.cell st 1 rfl rfl, ?_⟩
    | refine ⟨St.cell st 2 rfl rfl, ?_⟩
    | refine ⟨_, St.cell st 2 rfl rfl, ?_⟩
    | refine ⟨_, _, St.cell st 2 rfl rfl, ?_⟩
    | refine ⟨_, _, _, St.cell st 2 rfl rfl, ?_⟩
    | refine ⟨St.cell st 3 rfl rfl, ?_⟩
    | refine ⟨_, St.cell st 3 rfl rfl, ?_⟩
    | refine ⟨_, _, St.cell st 3 rfl rfl, ?_⟩
    | refine ⟨_, _, _, St.cell st 3 rfl rfl, ?_⟩
    | refine ⟨St.cell st 4 rfl rfl, ?_⟩
    | refine ⟨_, St.cell st 4 rfl rfl, ?_⟩
    | refine ⟨_, _, St.cell st 4 rfl rfl, ?_⟩
    | refine ⟨_, _, _, St.cell st 4 rfl rfl, ?_⟩
    | refine ⟨St.rows st 0 rfl, ?_⟩
    | refine ⟨_, _, St.rows st 0 rfl, ?_⟩
    | refine ⟨_, _, _, St.rows st 0 rfl, ?_⟩
    | refine ⟨_, _, _, _, St.rows st 0 rfl, ?_⟩
    | refine ⟨_, _, _, _, _, St.rows st 0 rfl, ?_⟩
    | refine ⟨_, _, _, _, _, _, St.rows st 0 rfl, ?_⟩
    | refine ⟨_, _, _, _, _, _, _, St.rows st 0 rfl, ?_⟩
    | refine ⟨_, _, _, _, _, _, _, _, St.rows st 0 rfl, ?_⟩
    | refine ⟨St.rows st 1 rfl, ?_⟩
    | refine ⟨_, _, St.rows st 1 rfl, ?_⟩
    | refine ⟨_, _, _, St.rows st 1 rfl, ?_⟩
    | refine ⟨_, _, _, _, St.rows st 1 rfl, ?_⟩
    | refine ⟨_, _, _, _, _, St.rows st 1 rfl, ?_⟩
    | refine ⟨_, _, _, _, _, _, St.rows st 1 rfl, ?_⟩
    | refine ⟨_, _, _, _, _, _, _, St.rows st 1 rfl, ?_⟩
    | refine ⟨_, _, _, _, _, _, _, _, St.rows st 1 rfl, ?_⟩
    | refine ⟨St.rows st 2 rfl, ?_⟩
    | refine ⟨_, _, St.rows st 2 rfl, ?_⟩
    | refine ⟨_, _, _, St.rows st 2 rfl, ?_⟩
    | refine ⟨_, _, _, _, St.rows st 2 rfl, ?_⟩
    | refine ⟨_, _, _, _, _, St.rows st 2 rfl, ?_⟩
    | refine ⟨_, _, _, _, _, _, St.rows st 2 rfl, ?_⟩
    | refine ⟨_, _, _, _, _, _, _, St.rows st 2 rfl, ?_⟩
    | refine ⟨_, _, _, _, _, _, _, _, St.rows st 2 rfl, ?_⟩
    | refine ⟨St.rows st 3 rfl, ?_⟩
    | refine ⟨_, _, St.rows st 3 rfl, ?_⟩
    | refine ⟨_, _, _, St.rows st 3 rfl, ?_⟩
    | refine ⟨_, _, _, _, St.rows st 3 rfl, ?_⟩
    | refine ⟨_, _, _, _, _, St.rows st 3 rfl, ?_⟩
    | refine ⟨_, _, _, _, _, _, St.rows st 3 rfl, ?_⟩
    | refine ⟨_, _, _, _, _, _, _, St.rows st 3 rfl, ?_⟩
    | refine ⟨_, _, _, _, _, _, _, _, St.rows st 3 rfl, ?_⟩
    | refine ⟨St.rows st 4 rfl, ?_⟩
    | refine ⟨_, _, St.rows st 4 rfl, ?_⟩
    | refine ⟨_, _, _, St.rows st 4 rfl, ?_⟩
    | refine ⟨_, _, _, _, St.rows st 4 rfl, ?_⟩
    | refine ⟨_, _, _, _, _, St.rows st 4 rfl, ?_⟩
    | refine ⟨_, _, _, _, _, _, St.rows st 4 rfl, ?_⟩
    | refine ⟨_, _, _, _, _, _, _, St.rows st 4 rfl, ?_⟩
    | refine ⟨_, _, _, _, _, _, _, _, St.rows st 4 rfl, ?_⟩
    | (refine ⟨St.wr st 0 rfl rfl, St.store st 0 rfl ?_⟩; clear st; intro w st; simp only [List.set] at st)
    | (refine ⟨St.wrRow st 0 rfl rfl rfl, St.storeRow st 0 rfl ?_⟩; clear st; intro w st; simp only [List.set, setsL] at st)
    | (refine ⟨St.wr st 1 rfl rfl, St.store st 1 rfl ?_⟩; clear st; intro w st; simp only [List.set] at st)
    | (refine ⟨St.wrRow st 1 rfl rfl rfl, St.storeRow st 1 rfl ?_⟩; clear st; intro w st; simp only [List.set, setsL] at st)
    | (refine ⟨St.wr st 2 rfl rfl, St.store st 2 rfl ?_⟩; clear st; intro w st; simp only [List.set] at st)
    | (refine ⟨St.wrRow st 2 rfl rfl rfl, St.storeRow st 2 rfl ?_⟩; clear st; intro w st; simp only [List.set, setsL] at st)
    | (refine ⟨St.wr st 3 rfl rfl, St.store st 3 rfl ?_⟩; clear st; intro w st; simp only [List.set] at st)
    | (refine ⟨St.wrRow st 3 rfl rfl rfl, St.storeRow st 3 rfl ?_⟩; clear st; intro w st; simp only [List.set, setsL] at st)
    | (refine ⟨St.wr st 4 rfl rfl, St.store st 4 rfl ?_⟩; clear st; intro w st; simp only [List.set] at st)
    | (refine ⟨St.wrRow st 4 rfl rfl rfl, St.storeRow st 4 rfl ?_⟩; clear st; intro w st; simp only [List.set, setsL] at st)
    | with_reducible refine LetI.id (by omega) (by omega) ?_
    | exact absurd rfl h
    | with_reducible refine Br.dec (fun h => ?_) (fun h => ?_)
    | with_reducible refine Br.eqi (fun h => ?_) (fun h => ?_)
    | with_reducible refine Br.nei (fun h => ?_) (fun h => ?_)
    | with_reducible refine Br.eqs' (fun h => ?_) (fun h => ?_)
    | with_reducible refine Br.eqs (fun h => ?_) (fun h => ?_)
    | with_reducible refine Br.not ?_
    | with_reducible refine Br.and_ ?_
    | with_reducible refine Br.sure rfl ?_
    | with_reducible refine Br.nay rfl ?_
    | with_reducible refine Br.eqb (fun h => ?_) (fun h => ?_)
    | with_reducible refine Br.bool (fun h => ?_) (fun h => ?_)
    | fail
  exact ⟨rfl, st.kp⟩
set_option maxHeartbeats 1000000 in
theorem lawCBack_pw {w0 : World} {n k : Nat} {p : Option Addr} {c : Chn} (hM : MemAt w0 p c.mem) (hn : n = c.mem.length) {cut : Nat} (hcut : cut ≤ 255) : Pw Try.prog 10 #[chV c.epoch p n k c.drain, .int .u8 cut] (.bool true) w0 := by
  subst hn
  have st : St No w0 w0 [] := St.start w0
  refine lawCBack_ok _ _ _ _ _ _ _ _ ?_
  unfold lawCBack
  repeat' first
    | (with_reducible refine St.alloc st ?_; clear st; intro b w st)
    | with_reducible refine sz_and (by (repeat rw [ByteArray.size_append]); omega) ?_
    | (refine Pu.go (cgreat_pu _ _ _ _ _) st ?_; clear st; intro w st; refine ⟨_, rfl, ?_⟩)
    | refine ⟨St.cell st 0 rfl rfl, ?_⟩
    | refine ⟨_, St.cell st 0 rfl rfl, ?_⟩
    | refine ⟨_, _, St.cell st 0 rfl rfl, ?_⟩
    | refine ⟨_, _, _, St.cell st 0 rfl rfl, ?_⟩
    | refine ⟨St.cell st 1 rfl rfl, ?_⟩
    | refine ⟨_, St.cell st 1 rfl rfl, ?_⟩
    | refine ⟨_, _, St.cell st 1 rfl rfl, ?_⟩
    | refine ⟨_, _, _, St.cell st 1 rfl rfl, ?_⟩
    | refine ⟨St.cell st 2 rfl rfl, ?_⟩
    | refine ⟨_, St.cell st 2 rfl rfl, ?_⟩
    | refine ⟨_, _, St.cell st 2 rfl rfl, ?_⟩
    | refine ⟨_, _, _, St.cell st 2 rfl rfl, ?_⟩
    | refine ⟨St.cell st 3 rfl rfl, ?_⟩
    | refine ⟨_, St.cell st 3 rfl rfl, ?_⟩
    | refine ⟨_, _, St.cell st 3 rfl rfl, ?_⟩
    | refine ⟨_, _, _, St.cell st 3 rfl rfl, ?_⟩
    | refine ⟨St.rows st 0 rfl, ?_⟩
    | refine ⟨_, _, St.rows st 0 rfl, ?_⟩
    | refine ⟨_, _, _, St.rows st 0 rfl, ?_⟩
    | refine ⟨_, _, _, _, St.rows st 0 rfl, ?_⟩
    | refine ⟨_, _, _, _, _, St.rows st 0 rfl, ?_⟩
    | refine ⟨_, _, _, _, _, _, St.rows st 0 rfl, ?_⟩
    | refine ⟨_, _, _, _, _, _, _, St.rows st 0 rfl, ?_⟩
    | refine ⟨_, _, _, _, _, _, _, _, St.rows st 0 rfl, ?_⟩
    | refine ⟨St.rows st 1 rfl, ?_⟩
    | refine ⟨_, _, St.rows st 1 rfl, ?_⟩
    | refine ⟨_, _, _, St.rows st 1 rfl, ?_⟩
    | refine ⟨_, _, _, _, St.rows st 1 rfl, ?_⟩
    | refine ⟨_, _, _, _, _, St.rows st 1 rfl, ?_⟩
    | refine ⟨_, _, _, _, _, _, St.rows st 1 rfl, ?_⟩
    | refine ⟨_, _, _, _, _, _, _, St.rows st 1 rfl, ?_⟩
    | refine ⟨_, _, _, _, _, _, _, _, St.rows st 1 rfl, ?_⟩
    | refine ⟨St.rows st 2 rfl, ?_⟩
    | refine ⟨_, _, St.rows st 2 rfl, ?_⟩
    | refine ⟨_, _, _, St.rows st 2 rfl, ?_⟩
    | refine ⟨_, _, _, _, St.rows st 2 rfl, ?_⟩
    | refine ⟨_, _, _, _, _, St.rows st 2 rfl, ?_⟩
    | refine ⟨_, _, _, _, _, _, St.rows st 2 rfl, ?_⟩
    | refine ⟨_, _, _, _, _, _, _, St.rows st 2 rfl, ?_⟩
    | refine ⟨_, _, _, _, _, _, _, _, St.rows st 2 rfl, ?_⟩
    | refine ⟨St.rows st 3 rfl, ?_⟩
    | refine ⟨_, _, St.rows st 3 rfl, ?_⟩
    | refine ⟨_, _, _, St.rows st 3 rfl, ?_⟩
    | refine ⟨_, _, _, _, St.rows st 3 rfl, ?_⟩
    | refine ⟨_, _, _, _, _, St.rows st 3 rfl, ?_⟩
    | refine ⟨_, _, _, _, _, _, St.rows st 3 rfl, ?_⟩
    | refine ⟨_, _, _, _, _, _, _, St.rows st 3 rfl, ?_⟩
    | refine ⟨_, _, _, _, _, _, _, _, St.rows st 3 rfl, ?_⟩
    | (refine ⟨St.wr st 0 rfl rfl, St.store st 0 rfl ?_⟩; clear st; intro w st; simp only [List.set] at st)
    | (refine ⟨St.wrRow st 0 rfl rfl rfl, St.storeRow st 0 rfl ?_⟩; clear st; intro w st; simp only [List.set, setsL] at st)
    | (refine ⟨St.wr st 1 rfl rfl, St.store st 1 rfl ?_⟩; clear st; intro w st; simp only [List.set] at st)
    | (refine ⟨St.wrRow st 1 rfl rfl rfl, St.storeRow st 1 rfl ?_⟩; clear st; intro w st; simp only [List.set, setsL] at st)
    | (refine ⟨St.wr st 2 rfl rfl, St.store st 2 rfl ?_⟩; clear st; intro w st; simp only [List.set] at st)
    | (refine ⟨St.wrRow st 2 rfl rfl rfl, St.storeRow st 2 rfl ?_⟩; clear st; intro w st; simp only [List.set, setsL] at st)
    | (refine ⟨St.wr st 3 rfl rfl, St.store st 3 rfl ?_⟩; clear st; intro w st; simp only [List.set] at st)
    | (refine ⟨St.wrRow st 3 rfl rfl rfl, St.storeRow st 3 rfl ?_⟩; clear st; intro w st; simp only [List.set, setsL] at st)
    | with_reducible refine LetI.id (by omega) (by omega) ?_
    | fail
  refine Br.dec (fun hg => ?_) (fun hg => ?_)
  · repeat' first
      | (with_reducible refine St.alloc st ?_; clear st; intro b w st)
      | with_reducible refine sz_and (by (repeat rw [ByteArray.size_append]); omega) ?_
      | (refine Pu.go (linked_pu) st ?_; clear st; intro w st; refine ⟨_, rfl, ?_⟩)
      | refine ⟨St.cell st 0 rfl rfl, ?_⟩
      | refine ⟨_, St.cell st 0 rfl rfl, ?_⟩
      | refine ⟨_, _, St.cell st 0 rfl rfl, ?_⟩
      | refine ⟨_, _, _, St.cell st 0 rfl rfl, ?_⟩
      | refine ⟨St.cell st 1 rfl rfl, ?_⟩
      | refine ⟨_, St.cell st 1 rfl rfl, ?_⟩
      | refine ⟨_, _, St.cell st 1 rfl rfl, ?_⟩
      | refine ⟨_, _, _, St.cell st 1 rfl rfl, ?_⟩
      | refine ⟨St.cell st 2 rfl rfl, ?_⟩
      | refine ⟨_, St.cell st 2 rfl rfl, ?_⟩
      | refine ⟨_, _, St.cell st 2 rfl rfl, ?_⟩
      | refine ⟨_, _, _, St.cell st 2 rfl rfl, ?_⟩
      | refine ⟨St.cell st 3 rfl rfl, ?_⟩
      | refine ⟨_, St.cell st 3 rfl rfl, ?_⟩
      | refine ⟨_, _, St.cell st 3 rfl rfl, ?_⟩
      | refine ⟨_, _, _, St.cell st 3 rfl rfl, ?_⟩
      | refine ⟨St.rows st 0 rfl, ?_⟩
      | refine ⟨_, _, St.rows st 0 rfl, ?_⟩
      | refine ⟨_, _, _, St.rows st 0 rfl, ?_⟩
      | refine ⟨_, _, _, _, St.rows st 0 rfl, ?_⟩
      | refine ⟨_, _, _, _, _, St.rows st 0 rfl, ?_⟩
      | refine ⟨_, _, _, _, _, _, St.rows st 0 rfl, ?_⟩
      | refine ⟨_, _, _, _, _, _, _, St.rows st 0 rfl, ?_⟩
      | refine ⟨_, _, _, _, _, _, _, _, St.rows st 0 rfl, ?_⟩
      | refine ⟨St.rows st 1 rfl, ?_⟩
      | refine ⟨_, _, St.rows st 1 rfl, ?_⟩
      | refine ⟨_, _, _, St.rows st 1 rfl, ?_⟩
      | refine ⟨_, _, _, _, St.rows st 1 rfl, ?_⟩
      | refine ⟨_, _, _, _, _, St.rows st 1 rfl, ?_⟩
      | refine ⟨_, _, _, _, _, _, St.rows st 1 rfl, ?_⟩
      | refine ⟨_, _, _, _, _, _, _, St.rows st 1 rfl, ?_⟩
      | refine ⟨_, _, _, _, _, _, _, _, St.rows st 1 rfl, ?_⟩
      | refine ⟨St.rows st 2 rfl, ?_⟩
      | refine ⟨_, _, St.rows st 2 rfl, ?_⟩
      | refine ⟨_, _, _, St.rows st 2 rfl, ?_⟩
      | refine ⟨_, _, _, _, St.rows st 2 rfl, ?_⟩
      | refine ⟨_, _, _, _, _, St.rows st 2 rfl, ?_⟩
      | refine ⟨_, _, _, _, _, _, St.rows st 2 rfl, ?_⟩
      | refine ⟨_, _, _, _, _, _, _, St.rows st 2 rfl, ?_⟩
      | refine ⟨_, _, _, _, _, _, _, _, St.rows st 2 rfl, ?_⟩
      | refine ⟨St.rows st 3 rfl, ?_⟩
      | refine ⟨_, _, St.rows st 3 rfl, ?_⟩
      | refine ⟨_, _, _, St.rows st 3 rfl, ?_⟩
      | refine ⟨_, _, _, _, St.rows st 3 rfl, ?_⟩
      | refine ⟨_, _, _, _, _, St.rows st 3 rfl, ?_⟩
      | refine ⟨_, _, _, _, _, _, St.rows st 3 rfl, ?_⟩
      | refine ⟨_, _, _, _, _, _, _, St.rows st 3 rfl, ?_⟩
      | refine ⟨_, _, _, _, _, _, _, _, St.rows st 3 rfl, ?_⟩
      | (refine ⟨St.wr st 0 rfl rfl, St.store st 0 rfl ?_⟩; clear st; intro w st; simp only [List.set] at st)
      | (refine ⟨St.wrRow st 0 rfl rfl rfl, St.storeRow st 0 rfl ?_⟩; clear st; intro w st; simp only [List.set, setsL] at st)
      | (refine ⟨St.wr st 1 rfl rfl, St.store st 1 rfl ?_⟩; clear st; intro w st; simp only [List.set] at st)
      | (refine ⟨St.wrRow st 1 rfl rfl rfl, St.storeRow st 1 rfl ?_⟩; clear st; intro w st; simp only [List.set, setsL] at st)
      | (refine ⟨St.wr st 2 rfl rfl, St.store st 2 rfl ?_⟩; clear st; intro w st; simp only [List.set] at st)
      | (refine ⟨St.wrRow st 2 rfl rfl rfl, St.storeRow st 2 rfl ?_⟩; clear st; intro w st; simp only [List.set, setsL] at st)
      | (refine ⟨St.wr st 3 rfl rfl, St.store st 3 rfl ?_⟩; clear st; intro w st; simp only [List.set] at st)
      | (refine ⟨St.wrRow st 3 rfl rfl rfl, St.storeRow st 3 rfl ?_⟩; clear st; intro w st; simp only [List.set, setsL] at st)
      | with_reducible refine LetI.id (by omega) (by omega) ?_
      | with_reducible refine Br.dec (fun h => ?_) (fun h => ?_)
      | with_reducible refine Br.eqi (fun h => ?_) (fun h => ?_)
      | with_reducible refine Br.nei (fun h => ?_) (fun h => ?_)
      | with_reducible refine Br.eqs' (fun h => ?_) (fun h => ?_)
      | with_reducible refine Br.eqs (fun h => ?_) (fun h => ?_)
      | with_reducible refine Br.not ?_
      | with_reducible refine Br.and_ ?_
      | with_reducible refine Br.sure rfl ?_
      | with_reducible refine Br.nay rfl ?_
      | with_reducible refine Br.eqb (fun h => ?_) (fun h => ?_)
      | with_reducible refine Br.bool (fun h => ?_) (fun h => ?_)
      | fail
    exact ⟨rfl, st.kp⟩
  by_cases h0 : okC c
  · have q1 := encC_pos h0
    have q2 := encC_len h0.l2
    have hs : (mk (encC c)).size = (encC c).length := rfl
    have hp : putC c = (encC c, 0) := by unfold putC; rw [if_neg (by simp [chkC_ok.2 h0])]
    have hq : ∀ {w}, MemAt w p c.mem → Pw Try.prog 43 #[chV c.epoch p c.mem.length k c.drain] (.tuple #[.string (mk (encC c)), .int .i64 0]) w := fun h => by
      have := cput_pw (k := k) h rfl
      rwa [hp] at this
    have m1 : (0 : Int) ≤ (cut : Int) % ((mk (encC c)).size : Int) := Int.emod_nonneg _ (by omega)
    have m2 : (cut : Int) % ((mk (encC c)).size : Int) < ((mk (encC c)).size : Int) := Int.emod_lt_of_pos _ (by omega)
    repeat' first
      | (with_reducible refine St.alloc st ?_; clear st; intro b w st)
      | with_reducible refine sz_and (by (repeat rw [ByteArray.size_append]); omega) ?_
      | (refine Pw.go (hq (hM.no st.kp)) st ?_; clear st; intro w st; refine ⟨_, _, rfl, ?_⟩)
      | refine ⟨St.cell st 0 rfl rfl, ?_⟩
      | refine ⟨_, St.cell st 0 rfl rfl, ?_⟩
      | refine ⟨_, _, St.cell st 0 rfl rfl, ?_⟩
      | refine ⟨_, _, _, St.cell st 0 rfl rfl, ?_⟩
      | refine ⟨St.cell st 1 rfl rfl, ?_⟩
      | refine ⟨_, St.cell st 1 rfl rfl, ?_⟩
      | refine ⟨_, _, St.cell st 1 rfl rfl, ?_⟩
      | refine ⟨_, _, _, St.cell st 1 rfl rfl, ?_⟩
      | refine ⟨St.cell st 2 rfl rfl, ?_⟩
      | refine ⟨_, St.cell st 2 rfl rfl, ?_⟩
      | refine ⟨_, _, St.cell st 2 rfl rfl, ?_⟩
      | refine ⟨_, _, _, St.cell st 2 rfl rfl, ?_⟩
      | refine ⟨St.cell st 3 rfl rfl, ?_⟩
      | refine ⟨_, St.cell st 3 rfl rfl, ?_⟩
      | refine ⟨_, _, St.cell st 3 rfl rfl, ?_⟩
      | refine ⟨_, _, _, St.cell st 3 rfl rfl, ?_⟩
      | refine ⟨St.rows st 0 rfl, ?_⟩
      | refine ⟨_, _, St.rows st 0 rfl, ?_⟩
      | refine ⟨_, _, _, St.rows st 0 rfl, ?_⟩
      | refine ⟨_, _, _, _, St.rows st 0 rfl, ?_⟩
      | refine ⟨_, _, _, _, _, St.rows st 0 rfl, ?_⟩
      | refine ⟨_, _, _, _, _, _, St.rows st 0 rfl, ?_⟩
      | refine ⟨_, _, _, _, _, _, _, St.rows st 0 rfl, ?_⟩
      | refine ⟨_, _, _, _, _, _, _, _, St.rows st 0 rfl, ?_⟩
      | refine ⟨St.rows st 1 rfl, ?_⟩
      | refine ⟨_, _, St.rows st 1 rfl, ?_⟩
      | refine ⟨_, _, _, St.rows st 1 rfl, ?_⟩
      | refine ⟨_, _, _, _, St.rows st 1 rfl, ?_⟩
      | refine ⟨_, _, _, _, _, St.rows st 1 rfl, ?_⟩
      | refine ⟨_, _, _, _, _, _, St.rows st 1 rfl, ?_⟩
      | refine ⟨_, _, _, _, _, _, _, St.rows st 1 rfl, ?_⟩
      | refine ⟨_, _, _, _, _, _, _, _, St.rows st 1 rfl, ?_⟩
      | refine ⟨St.rows st 2 rfl, ?_⟩
      | refine ⟨_, _, St.rows st 2 rfl, ?_⟩
      | refine ⟨_, _, _, St.rows st 2 rfl, ?_⟩
      | refine ⟨_, _, _, _, St.rows st 2 rfl, ?_⟩
      | refine ⟨_, _, _, _, _, St.rows st 2 rfl, ?_⟩
      | refine ⟨_, _, _, _, _, _, St.rows st 2 rfl, ?_⟩
      | refine ⟨_, _, _, _, _, _, _, St.rows st 2 rfl, ?_⟩
      | refine ⟨_, _, _, _, _, _, _, _, St.rows st 2 rfl, ?_⟩
      | refine ⟨St.rows st 3 rfl, ?_⟩
      | refine ⟨_, _, St.rows st 3 rfl, ?_⟩
      | refine ⟨_, _, _, St.rows st 3 rfl, ?_⟩
      | refine ⟨_, _, _, _, St.rows st 3 rfl, ?_⟩
      | refine ⟨_, _, _, _, _, St.rows st 3 rfl, ?_⟩
      | refine ⟨_, _, _, _, _, _, St.rows st 3 rfl, ?_⟩
      | refine ⟨_, _, _, _, _, _, _, St.rows st 3 rfl, ?_⟩
      | refine ⟨_, _, _, _, _, _, _, _, St.rows st 3 rfl, ?_⟩
      | (refine ⟨St.wr st 0 rfl rfl, St.store st 0 rfl ?_⟩; clear st; intro w st; simp only [List.set] at st)
      | (refine ⟨St.wrRow st 0 rfl rfl rfl, St.storeRow st 0 rfl ?_⟩; clear st; intro w st; simp only [List.set, setsL] at st)
      | (refine ⟨St.wr st 1 rfl rfl, St.store st 1 rfl ?_⟩; clear st; intro w st; simp only [List.set] at st)
      | (refine ⟨St.wrRow st 1 rfl rfl rfl, St.storeRow st 1 rfl ?_⟩; clear st; intro w st; simp only [List.set, setsL] at st)
      | (refine ⟨St.wr st 2 rfl rfl, St.store st 2 rfl ?_⟩; clear st; intro w st; simp only [List.set] at st)
      | (refine ⟨St.wrRow st 2 rfl rfl rfl, St.storeRow st 2 rfl ?_⟩; clear st; intro w st; simp only [List.set, setsL] at st)
      | (refine ⟨St.wr st 3 rfl rfl, St.store st 3 rfl ?_⟩; clear st; intro w st; simp only [List.set] at st)
      | (refine ⟨St.wrRow st 3 rfl rfl rfl, St.storeRow st 3 rfl ?_⟩; clear st; intro w st; simp only [List.set, setsL] at st)
      | with_reducible refine LetI.id (by omega) (by omega) ?_
      | (exfalso; omega)
      | exact absurd rfl h
      | with_reducible refine Br.dec (fun h => ?_) (fun h => ?_)
      | with_reducible refine Br.eqi (fun h => ?_) (fun h => ?_)
      | with_reducible refine Br.nei (fun h => ?_) (fun h => ?_)
      | with_reducible refine Br.eqs' (fun h => ?_) (fun h => ?_)
      | with_reducible refine Br.eqs (fun h => ?_) (fun h => ?_)
      | with_reducible refine Br.not ?_
      | with_reducible refine Br.and_ ?_
      | with_reducible refine Br.sure rfl ?_
      | with_reducible refine Br.nay rfl ?_
      | with_reducible refine Br.eqb (fun h => ?_) (fun h => ?_)
      | with_reducible refine Br.bool (fun h => ?_) (fun h => ?_)
      | fail
    refine (cget_ca (s0 := encC c) (by omega)).mono ?_
    rintro _ w ⟨x, _, hx, rfl, px, kx, rfl, ho, hk⟩; replace st := st.pushRow hk ho; clear ho hk; refine ⟨_, _, _, _, _, _, rfl, ?_⟩
    obtain rfl := IsC.put h0 hx
    repeat' first
      | (with_reducible refine St.alloc st ?_; clear st; intro b w st)
      | with_reducible refine sz_and (by (repeat rw [ByteArray.size_append]); omega) ?_
      | refine ⟨St.cell st 0 rfl rfl, ?_⟩
      | refine ⟨_, St.cell st 0 rfl rfl, ?_⟩
      | refine ⟨_, _, St.cell st 0 rfl rfl, ?_⟩
      | refine ⟨_, _, _, St.cell st 0 rfl rfl, ?_⟩
      | refine ⟨St.cell st 1 rfl rfl, ?_⟩
      | refine ⟨_, St.cell st 1 rfl rfl, ?_⟩
      | refine ⟨_, _, St.cell st 1 rfl rfl, ?_⟩
      | refine ⟨_, _, _, St.cell st 1 rfl rfl, ?_⟩
      | refine ⟨St.cell st 2 rfl rfl, ?_⟩
      | refine ⟨_, St.cell st 2 rfl rfl, ?_⟩
      | refine ⟨_, _, St.cell st 2 rfl rfl, ?_⟩
      | refine ⟨_, _, _, St.cell st 2 rfl rfl, ?_⟩
      | refine ⟨St.cell st 3 rfl rfl, ?_⟩
      | refine ⟨_, St.cell st 3 rfl rfl, ?_⟩
      | refine ⟨_, _, St.cell st 3 rfl rfl, ?_⟩
      | refine ⟨_, _, _, St.cell st 3 rfl rfl, ?_⟩
      | refine ⟨St.cell st 4 rfl rfl, ?_⟩
      | refine ⟨_, St.cell st 4 rfl rfl, ?_⟩
      | refine ⟨_, _, St.cell st 4 rfl rfl, ?_⟩
      | refine ⟨_, _, _, St.cell st 4 rfl rfl, ?_⟩
      | refine ⟨St.rows st 0 rfl, ?_⟩
      | refine ⟨_, _, St.rows st 0 rfl, ?_⟩
      | refine ⟨_, _, _, St.rows st 0 rfl, ?_⟩
      | refine ⟨_, _, _, _, St.rows st 0 rfl, ?_⟩
      | refine ⟨_, _, _, _, _, St.rows st 0 rfl, ?_⟩
      | refine ⟨_, _, _, _, _, _, St.rows st 0 rfl, ?_⟩
      | refine ⟨_, _, _, _, _, _, _, St.rows st 0 rfl, ?_⟩
      | refine ⟨_, _, _, _, _, _, _, _, St.rows st 0 rfl, ?_⟩
      | refine ⟨St.rows st 1 rfl, ?_⟩
      | refine ⟨_, _, St.rows st 1 rfl, ?_⟩
      | refine ⟨_, _, _, St.rows st 1 rfl, ?_⟩
      | refine ⟨_, _, _, _, St.rows st 1 rfl, ?_⟩
      | refine ⟨_, _, _, _, _, St.rows st 1 rfl, ?_⟩
      | refine ⟨_, _, _, _, _, _, St.rows st 1 rfl, ?_⟩
      | refine ⟨_, _, _, _, _, _, _, St.rows st 1 rfl, ?_⟩
      | refine ⟨_, _, _, _, _, _, _, _, St.rows st 1 rfl, ?_⟩
      | refine ⟨St.rows st 2 rfl, ?_⟩
      | refine ⟨_, _, St.rows st 2 rfl, ?_⟩
      | refine ⟨_, _, _, St.rows st 2 rfl, ?_⟩
      | refine ⟨_, _, _, _, St.rows st 2 rfl, ?_⟩
      | refine ⟨_, _, _, _, _, St.rows st 2 rfl, ?_⟩
      | refine ⟨_, _, _, _, _, _, St.rows st 2 rfl, ?_⟩
      | refine ⟨_, _, _, _, _, _, _, St.rows st 2 rfl, ?_⟩
      | refine ⟨_, _, _, _, _, _, _, _, St.rows st 2 rfl, ?_⟩
      | refine ⟨St.rows st 3 rfl, ?_⟩
      | refine ⟨_, _, St.rows st 3 rfl, ?_⟩
      | refine ⟨_, _, _, St.rows st 3 rfl, ?_⟩
      | refine ⟨_, _, _, _, St.rows st 3 rfl, ?_⟩
      | refine ⟨_, _, _, _, _, St.rows st 3 rfl, ?_⟩
      | refine ⟨_, _, _, _, _, _, St.rows st 3 rfl, ?_⟩
      | refine ⟨_, _, _, _, _, _, _, St.rows st 3 rfl, ?_⟩
      | refine ⟨_, _, _, _, _, _, _, _, St.rows st 3 rfl, ?_⟩
      | refine ⟨St.rows st 4 rfl, ?_⟩
      | refine ⟨_, _, St.rows st 4 rfl, ?_⟩
      | refine ⟨_, _, _, St.rows st 4 rfl, ?_⟩
      | refine ⟨_, _, _, _, St.rows st 4 rfl, ?_⟩
      | refine ⟨_, _, _, _, _, St.rows st 4 rfl, ?_⟩
      | refine ⟨_, _, _, _, _, _, St.rows st 4 rfl, ?_⟩
      | refine ⟨_, _, _, _, _, _, _, St.rows st 4 rfl, ?_⟩
      | refine ⟨_, _, _, _, _, _, _, _, St.rows st 4 rfl, ?_⟩
      | (refine ⟨St.wr st 0 rfl rfl, St.store st 0 rfl ?_⟩; clear st; intro w st; simp only [List.set] at st)
      | (refine ⟨St.wrRow st 0 rfl rfl rfl, St.storeRow st 0 rfl ?_⟩; clear st; intro w st; simp only [List.set, setsL] at st)
      | (refine ⟨St.wr st 1 rfl rfl, St.store st 1 rfl ?_⟩; clear st; intro w st; simp only [List.set] at st)
      | (refine ⟨St.wrRow st 1 rfl rfl rfl, St.storeRow st 1 rfl ?_⟩; clear st; intro w st; simp only [List.set, setsL] at st)
      | (refine ⟨St.wr st 2 rfl rfl, St.store st 2 rfl ?_⟩; clear st; intro w st; simp only [List.set] at st)
      | (refine ⟨St.wrRow st 2 rfl rfl rfl, St.storeRow st 2 rfl ?_⟩; clear st; intro w st; simp only [List.set, setsL] at st)
      | (refine ⟨St.wr st 3 rfl rfl, St.store st 3 rfl ?_⟩; clear st; intro w st; simp only [List.set] at st)
      | (refine ⟨St.wrRow st 3 rfl rfl rfl, St.storeRow st 3 rfl ?_⟩; clear st; intro w st; simp only [List.set, setsL] at st)
      | (refine ⟨St.wr st 4 rfl rfl, St.store st 4 rfl ?_⟩; clear st; intro w st; simp only [List.set] at st)
      | (refine ⟨St.wrRow st 4 rfl rfl rfl, St.storeRow st 4 rfl ?_⟩; clear st; intro w st; simp only [List.set, setsL] at st)
      | with_reducible refine LetI.id (by omega) (by omega) ?_
      | refine ⟨by omega, ?_⟩
      | with_reducible refine LetI.rem (by omega) ?_
      | refine ⟨⟨by omega, by omega, by omega⟩, ?_⟩
      | with_reducible refine Br.dec (fun h => ?_) (fun h => ?_)
      | with_reducible refine Br.eqi (fun h => ?_) (fun h => ?_)
      | with_reducible refine Br.nei (fun h => ?_) (fun h => ?_)
      | with_reducible refine Br.eqs' (fun h => ?_) (fun h => ?_)
      | with_reducible refine Br.eqs (fun h => ?_) (fun h => ?_)
      | with_reducible refine Br.not ?_
      | with_reducible refine Br.and_ ?_
      | with_reducible refine Br.sure rfl ?_
      | with_reducible refine Br.nay rfl ?_
      | with_reducible refine Br.eqb (fun h => ?_) (fun h => ?_)
      | with_reducible refine Br.bool (fun h => ?_) (fun h => ?_)
      | fail
    rw [mk_extract, List.drop_zero]
    refine (cget_ca (s0 := (encC c).take ((cut : Int) % ((mk (encC c)).size : Int)).toNat) (by rw [List.length_take]; omega)).mono ?_
    rintro _ w ⟨y, _, hy, rfl, py, ky, rfl, ho, hk⟩
    obtain rfl := IsC.cut h0 (by omega) hy
    replace st := st.pushRow hk ho
    clear ho hk
    refine ⟨_, _, _, _, _, _, rfl, ?_⟩
    repeat' first
      | (with_reducible refine St.alloc st ?_; clear st; intro b w st)
      | with_reducible refine sz_and (by (repeat rw [ByteArray.size_append]); omega) ?_
      | refine ⟨St.cell st 0 rfl rfl, ?_⟩
      | refine ⟨_, St.cell st 0 rfl rfl, ?_⟩
      | refine ⟨_, _, St.cell st 0 rfl rfl, ?_⟩
      | refine ⟨_, _, _, St.cell st 0 rfl rfl, ?_⟩
      | refine ⟨St.cell st 1 rfl rfl, ?_⟩
      | refine ⟨_, St.cell st 1 rfl rfl, ?_⟩
      | refine ⟨_, _, St.cell st 1 rfl rfl, ?_⟩
      | refine ⟨_, _, _, St.cell st 1 rfl rfl, ?_⟩
      | refine ⟨St.cell st 2 rfl rfl, ?_⟩
      | refine ⟨_, St.cell st 2 rfl rfl, ?_⟩
      | refine ⟨_, _, St.cell st 2 rfl rfl, ?_⟩
      | refine ⟨_, _, _, St.cell st 2 rfl rfl, ?_⟩
      | refine ⟨St.cell st 3 rfl rfl, ?_⟩
      | refine ⟨_, St.cell st 3 rfl rfl, ?_⟩
      | refine ⟨_, _, St.cell st 3 rfl rfl, ?_⟩
      | refine ⟨_, _, _, St.cell st 3 rfl rfl, ?_⟩
      | refine ⟨St.cell st 4 rfl rfl, ?_⟩
      | refine ⟨_, St.cell st 4 rfl rfl, ?_⟩
      | refine ⟨_, _, St.cell st 4 rfl rfl, ?_⟩
      | refine ⟨_, _, _, St.cell st 4 rfl rfl, ?_⟩
      | refine ⟨St.rows st 0 rfl, ?_⟩
      | refine ⟨_, _, St.rows st 0 rfl, ?_⟩
      | refine ⟨_, _, _, St.rows st 0 rfl, ?_⟩
      | refine ⟨_, _, _, _, St.rows st 0 rfl, ?_⟩
      | refine ⟨_, _, _, _, _, St.rows st 0 rfl, ?_⟩
      | refine ⟨_, _, _, _, _, _, St.rows st 0 rfl, ?_⟩
      | refine ⟨_, _, _, _, _, _, _, St.rows st 0 rfl, ?_⟩
      | refine ⟨_, _, _, _, _, _, _, _, St.rows st 0 rfl, ?_⟩
      | refine ⟨St.rows st 1 rfl, ?_⟩
      | refine ⟨_, _, St.rows st 1 rfl, ?_⟩
      | refine ⟨_, _, _, St.rows st 1 rfl, ?_⟩
      | refine ⟨_, _, _, _, St.rows st 1 rfl, ?_⟩
      | refine ⟨_, _, _, _, _, St.rows st 1 rfl, ?_⟩
      | refine ⟨_, _, _, _, _, _, St.rows st 1 rfl, ?_⟩
      | refine ⟨_, _, _, _, _, _, _, St.rows st 1 rfl, ?_⟩
      | refine ⟨_, _, _, _, _, _, _, _, St.rows st 1 rfl, ?_⟩
      | refine ⟨St.rows st 2 rfl, ?_⟩
      | refine ⟨_, _, St.rows st 2 rfl, ?_⟩
      | refine ⟨_, _, _, St.rows st 2 rfl, ?_⟩
      | refine ⟨_, _, _, _, St.rows st 2 rfl, ?_⟩
      | refine ⟨_, _, _, _, _, St.rows st 2 rfl, ?_⟩
      | refine ⟨_, _, _, _, _, _, St.rows st 2 rfl, ?_⟩
      | refine ⟨_, _, _, _, _, _, _, St.rows st 2 rfl, ?_⟩
      | refine ⟨_, _, _, _, _, _, _, _, St.rows st 2 rfl, ?_⟩
      | refine ⟨St.rows st 3 rfl, ?_⟩
      | refine ⟨_, _, St.rows st 3 rfl, ?_⟩
      | refine ⟨_, _, _, St.rows st 3 rfl, ?_⟩
      | refine ⟨_, _, _, _, St.rows st 3 rfl, ?_⟩
      | refine ⟨_, _, _, _, _, St.rows st 3 rfl, ?_⟩
      | refine ⟨_, _, _, _, _, _, St.rows st 3 rfl, ?_⟩
      | refine ⟨_, _, _, _, _, _, _, St.rows st 3 rfl, ?_⟩
      | refine ⟨_, _, _, _, _, _, _, _, St.rows st 3 rfl, ?_⟩
      | refine ⟨St.rows st 4 rfl, ?_⟩
      | refine ⟨_, _, St.rows st 4 rfl, ?_⟩
      | refine ⟨_, _, _, St.rows st 4 rfl, ?_⟩
      | refine ⟨_, _, _, _, St.rows st 4 rfl, ?_⟩
      | refine ⟨_, _, _, _, _, St.rows st 4 rfl, ?_⟩
      | refine ⟨_, _, _, _, _, _, St.rows st 4 rfl, ?_⟩
      | refine ⟨_, _, _, _, _, _, _, St.rows st 4 rfl, ?_⟩
      | refine ⟨_, _, _, _, _, _, _, _, St.rows st 4 rfl, ?_⟩
      | (refine ⟨St.wr st 0 rfl rfl, St.store st 0 rfl ?_⟩; clear st; intro w st; simp only [List.set] at st)
      | (refine ⟨St.wrRow st 0 rfl rfl rfl, St.storeRow st 0 rfl ?_⟩; clear st; intro w st; simp only [List.set, setsL] at st)
      | (refine ⟨St.wr st 1 rfl rfl, St.store st 1 rfl ?_⟩; clear st; intro w st; simp only [List.set] at st)
      | (refine ⟨St.wrRow st 1 rfl rfl rfl, St.storeRow st 1 rfl ?_⟩; clear st; intro w st; simp only [List.set, setsL] at st)
      | (refine ⟨St.wr st 2 rfl rfl, St.store st 2 rfl ?_⟩; clear st; intro w st; simp only [List.set] at st)
      | (refine ⟨St.wrRow st 2 rfl rfl rfl, St.storeRow st 2 rfl ?_⟩; clear st; intro w st; simp only [List.set, setsL] at st)
      | (refine ⟨St.wr st 3 rfl rfl, St.store st 3 rfl ?_⟩; clear st; intro w st; simp only [List.set] at st)
      | (refine ⟨St.wrRow st 3 rfl rfl rfl, St.storeRow st 3 rfl ?_⟩; clear st; intro w st; simp only [List.set, setsL] at st)
      | (refine ⟨St.wr st 4 rfl rfl, St.store st 4 rfl ?_⟩; clear st; intro w st; simp only [List.set] at st)
      | (refine ⟨St.wrRow st 4 rfl rfl rfl, St.storeRow st 4 rfl ?_⟩; clear st; intro w st; simp only [List.set, setsL] at st)
      | with_reducible refine LetI.id (by omega) (by omega) ?_
      | fail
    rw [show (⟨#[0]⟩ : ByteArray) = mk [0] from rfl, mk_append]
    refine (cget_ca (s0 := encC c ++ [0]) (by rw [List.length_append, List.length_singleton]; omega)).mono ?_
    rintro _ w ⟨z, _, hz, rfl, pz, kz, rfl, ho, hk⟩
    obtain rfl := IsC.more h0 (by simp) hz
    replace st := st.pushRow hk ho
    clear ho hk
    refine ⟨_, _, _, _, _, _, rfl, ?_⟩
    have h6 := h0.l2
    repeat' first
      | (with_reducible refine St.alloc st ?_; clear st; intro b w st)
      | with_reducible refine sz_and (by (repeat rw [ByteArray.size_append]); omega) ?_
      | (refine Pu.go (linked_pu) st ?_; clear st; intro w st; refine ⟨_, rfl, ?_⟩)
      | (refine Pw.go (csame_pw (c := c) (d := c) (ElAt.of_owns memE_len (st.hold 5 _ rfl) rfl) (hM.no st.kp) rfl rfl (by omega)) st ?_; clear st; intro w st; refine ⟨_, rfl, ?_⟩)
      | refine ⟨St.cell st 0 rfl rfl, ?_⟩
      | refine ⟨_, St.cell st 0 rfl rfl, ?_⟩
      | refine ⟨_, _, St.cell st 0 rfl rfl, ?_⟩
      | refine ⟨_, _, _, St.cell st 0 rfl rfl, ?_⟩
      | refine ⟨St.cell st 1 rfl rfl, ?_⟩
      | refine ⟨_, St.cell st 1 rfl rfl, ?_⟩
      | refine ⟨_, _, St.cell st 1 rfl rfl, ?_⟩
      | refine ⟨_, _, _, St.cell st 1 rfl rfl, ?_⟩
      | refine ⟨St.cell st 2 rfl rfl, ?_⟩
      | refine ⟨_, St.cell st 2 rfl rfl, ?_⟩
      | refine ⟨_, _, St.cell st 2 rfl rfl, ?_⟩
      | refine ⟨_, _, _, St.cell st 2 rfl rfl, ?_⟩
      | refine ⟨St.cell st 3 rfl rfl, ?_⟩
      | refine ⟨_, St.cell st 3 rfl rfl, ?_⟩
      | refine ⟨_, _, St.cell st 3 rfl rfl, ?_⟩
      | refine ⟨_, _, _, St.cell st 3 rfl rfl, ?_⟩
      | refine ⟨St.cell st 4 rfl rfl, ?_⟩
      | refine ⟨_, St.cell st 4 rfl rfl, ?_⟩
      | refine ⟨_, _, St.cell st 4 rfl rfl, ?_⟩
      | refine ⟨_, _, _, St.cell st 4 rfl rfl, ?_⟩
      | refine ⟨St.cell st 5 rfl rfl, ?_⟩
      | refine ⟨_, St.cell st 5 rfl rfl, ?_⟩
      | refine ⟨_, _, St.cell st 5 rfl rfl, ?_⟩
      | refine ⟨_, _, _, St.cell st 5 rfl rfl, ?_⟩
      | refine ⟨St.cell st 6 rfl rfl, ?_⟩
      | refine ⟨_, St.cell st 6 rfl rfl, ?_⟩
      | refine ⟨_, _, St.cell st 6 rfl rfl, ?_⟩
      | refine ⟨_, _, _, St.cell st 6 rfl rfl, ?_⟩
      | refine ⟨St.cell st 7 rfl rfl, ?_⟩
      | refine ⟨_, St.cell st 7 rfl rfl, ?_⟩
      | refine ⟨_, _, St.cell st 7 rfl rfl, ?_⟩
      | refine ⟨_, _, _, St.cell st 7 rfl rfl, ?_⟩
      | refine ⟨St.rows st 0 rfl, ?_⟩
      | refine ⟨_, _, St.rows st 0 rfl, ?_⟩
      | refine ⟨_, _, _, St.rows st 0 rfl, ?_⟩
      | refine ⟨_, _, _, _, St.rows st 0 rfl, ?_⟩
      | refine ⟨_, _, _, _, _, St.rows st 0 rfl, ?_⟩
      | refine ⟨_, _, _, _, _, _, St.rows st 0 rfl, ?_⟩
      | refine ⟨_, _, _, _, _, _, _, St.rows st 0 rfl, ?_⟩
      | refine ⟨_, _, _, _, _, _, _, _, St.rows st 0 rfl, ?_⟩
      | refine ⟨St.rows st 1 rfl, ?_⟩
      | refine ⟨_, _, St.rows st 1 rfl, ?_⟩
      | refine ⟨_, _, _, St.rows st 1 rfl, ?_⟩
      | refine ⟨_, _, _, _, St.rows st 1 rfl, ?_⟩
      | refine ⟨_, _, _, _, _, St.rows st 1 rfl, ?_⟩
      | refine ⟨_, _, _, _, _, _, St.rows st 1 rfl, ?_⟩
      | refine ⟨_, _, _, _, _, _, _, St.rows st 1 rfl, ?_⟩
      | refine ⟨_, _, _, _, _, _, _, _, St.rows st 1 rfl, ?_⟩
      | refine ⟨St.rows st 2 rfl, ?_⟩
      | refine ⟨_, _, St.rows st 2 rfl, ?_⟩
      | refine ⟨_, _, _, St.rows st 2 rfl, ?_⟩
      | refine ⟨_, _, _, _, St.rows st 2 rfl, ?_⟩
      | refine ⟨_, _, _, _, _, St.rows st 2 rfl, ?_⟩
      | refine ⟨_, _, _, _, _, _, St.rows st 2 rfl, ?_⟩
      | refine ⟨_, _, _, _, _, _, _, St.rows st 2 rfl, ?_⟩
      | refine ⟨_, _, _, _, _, _, _, _, St.rows st 2 rfl, ?_⟩
      | refine ⟨St.rows st 3 rfl, ?_⟩
      | refine ⟨_, _, St.rows st 3 rfl, ?_⟩
      | refine ⟨_, _, _, St.rows st 3 rfl, ?_⟩
      | refine ⟨_, _, _, _, St.rows st 3 rfl, ?_⟩
      | refine ⟨_, _, _, _, _, St.rows st 3 rfl, ?_⟩
      | refine ⟨_, _, _, _, _, _, St.rows st 3 rfl, ?_⟩
      | refine ⟨_, _, _, _, _, _, _, St.rows st 3 rfl, ?_⟩
      | refine ⟨_, _, _, _, _, _, _, _, St.rows st 3 rfl, ?_⟩
      | refine ⟨St.rows st 4 rfl, ?_⟩
      | refine ⟨_, _, St.rows st 4 rfl, ?_⟩
      | refine ⟨_, _, _, St.rows st 4 rfl, ?_⟩
      | refine ⟨_, _, _, _, St.rows st 4 rfl, ?_⟩
      | refine ⟨_, _, _, _, _, St.rows st 4 rfl, ?_⟩
      | refine ⟨_, _, _, _, _, _, St.rows st 4 rfl, ?_⟩
      | refine ⟨_, _, _, _, _, _, _, St.rows st 4 rfl, ?_⟩
      | refine ⟨_, _, _, _, _, _, _, _, St.rows st 4 rfl, ?_⟩
      | refine ⟨St.rows st 5 rfl, ?_⟩
      | refine ⟨_, _, St.rows st 5 rfl, ?_⟩
      | refine ⟨_, _, _, St.rows st 5 rfl, ?_⟩
      | refine ⟨_, _, _, _, St.rows st 5 rfl, ?_⟩
      | refine ⟨_, _, _, _, _, St.rows st 5 rfl, ?_⟩
      | refine ⟨_, _, _, _, _, _, St.rows st 5 rfl, ?_⟩
      | refine ⟨_, _, _, _, _, _, _, St.rows st 5 rfl, ?_⟩
      | refine ⟨_, _, _, _, _, _, _, _, St.rows st 5 rfl, ?_⟩
      | refine ⟨St.rows st 6 rfl, ?_⟩
      | refine ⟨_, _, St.rows st 6 rfl, ?_⟩
      | refine ⟨_, _, _, St.rows st 6 rfl, ?_⟩
      | refine ⟨_, _, _, _, St.rows st 6 rfl, ?_⟩
      | refine ⟨_, _, _, _, _, St.rows st 6 rfl, ?_⟩
      | refine ⟨_, _, _, _, _, _, St.rows st 6 rfl, ?_⟩
      | refine ⟨_, _, _, _, _, _, _, St.rows st 6 rfl, ?_⟩
      | refine ⟨_, _, _, _, _, _, _, _, St.rows st 6 rfl, ?_⟩
      | refine ⟨St.rows st 7 rfl, ?_⟩
      | refine ⟨_, _, St.rows st 7 rfl, ?_⟩
      | refine ⟨_, _, _, St.rows st 7 rfl, ?_⟩
      | refine ⟨_, _, _, _, St.rows st 7 rfl, ?_⟩
      | refine ⟨_, _, _, _, _, St.rows st 7 rfl, ?_⟩
      | refine ⟨_, _, _, _, _, _, St.rows st 7 rfl, ?_⟩
      | refine ⟨_, _, _, _, _, _, _, St.rows st 7 rfl, ?_⟩
      | refine ⟨_, _, _, _, _, _, _, _, St.rows st 7 rfl, ?_⟩
      | (refine ⟨St.wr st 0 rfl rfl, St.store st 0 rfl ?_⟩; clear st; intro w st; simp only [List.set] at st)
      | (refine ⟨St.wrRow st 0 rfl rfl rfl, St.storeRow st 0 rfl ?_⟩; clear st; intro w st; simp only [List.set, setsL] at st)
      | (refine ⟨St.wr st 1 rfl rfl, St.store st 1 rfl ?_⟩; clear st; intro w st; simp only [List.set] at st)
      | (refine ⟨St.wrRow st 1 rfl rfl rfl, St.storeRow st 1 rfl ?_⟩; clear st; intro w st; simp only [List.set, setsL] at st)
      | (refine ⟨St.wr st 2 rfl rfl, St.store st 2 rfl ?_⟩; clear st; intro w st; simp only [List.set] at st)
      | (refine ⟨St.wrRow st 2 rfl rfl rfl, St.storeRow st 2 rfl ?_⟩; clear st; intro w st; simp only [List.set, setsL] at st)
      | (refine ⟨St.wr st 3 rfl rfl, St.store st 3 rfl ?_⟩; clear st; intro w st; simp only [List.set] at st)
      | (refine ⟨St.wrRow st 3 rfl rfl rfl, St.storeRow st 3 rfl ?_⟩; clear st; intro w st; simp only [List.set, setsL] at st)
      | (refine ⟨St.wr st 4 rfl rfl, St.store st 4 rfl ?_⟩; clear st; intro w st; simp only [List.set] at st)
      | (refine ⟨St.wrRow st 4 rfl rfl rfl, St.storeRow st 4 rfl ?_⟩; clear st; intro w st; simp only [List.set, setsL] at st)
      | (refine ⟨St.wr st 5 rfl rfl, St.store st 5 rfl ?_⟩; clear st; intro w st; simp only [List.set] at st)
      | (refine ⟨St.wrRow st 5 rfl rfl rfl, St.storeRow st 5 rfl ?_⟩; clear st; intro w st; simp only [List.set, setsL] at st)
      | (refine ⟨St.wr st 6 rfl rfl, St.store st 6 rfl ?_⟩; clear st; intro w st; simp only [List.set] at st)
      | (refine ⟨St.wrRow st 6 rfl rfl rfl, St.storeRow st 6 rfl ?_⟩; clear st; intro w st; simp only [List.set, setsL] at st)
      | (refine ⟨St.wr st 7 rfl rfl, St.store st 7 rfl ?_⟩; clear st; intro w st; simp only [List.set] at st)
      | (refine ⟨St.wrRow st 7 rfl rfl rfl, St.storeRow st 7 rfl ?_⟩; clear st; intro w st; simp only [List.set, setsL] at st)
      | with_reducible refine LetI.id (by omega) (by omega) ?_
      | exact absurd rfl h
      | with_reducible refine Br.dec (fun h => ?_) (fun h => ?_)
      | with_reducible refine Br.eqi (fun h => ?_) (fun h => ?_)
      | with_reducible refine Br.nei (fun h => ?_) (fun h => ?_)
      | with_reducible refine Br.eqs' (fun h => ?_) (fun h => ?_)
      | with_reducible refine Br.eqs (fun h => ?_) (fun h => ?_)
      | with_reducible refine Br.not ?_
      | with_reducible refine Br.and_ ?_
      | with_reducible refine Br.sure rfl ?_
      | with_reducible refine Br.nay rfl ?_
      | with_reducible refine Br.eqb (fun h => ?_) (fun h => ?_)
      | with_reducible refine Br.bool (fun h => ?_) (fun h => ?_)
      | fail
    exact ⟨rfl, st.kp⟩
  · have hc := chkC_no h0
    have hp : putC c = ([], 2) := by unfold putC; rw [if_pos (by omega)]
    have hq : ∀ {w}, MemAt w p c.mem → Pw Try.prog 43 #[chV c.epoch p c.mem.length k c.drain] (.tuple #[.string (mk []), .int .i64 2]) w := fun h => by
      have := cput_pw (k := k) h rfl
      rwa [hp] at this
    have hk : ∀ {w}, MemAt w p c.mem → Pw Try.prog 34 #[chV c.epoch p c.mem.length k c.drain] (.int .i64 2) w := fun h => by
      have := ccheck_pw (k := k) h rfl
      rwa [hc] at this
    repeat' first
      | (with_reducible refine St.alloc st ?_; clear st; intro b w st)
      | with_reducible refine sz_and (by (repeat rw [ByteArray.size_append]); omega) ?_
      | (refine Pu.go (linked_pu) st ?_; clear st; intro w st; refine ⟨_, rfl, ?_⟩)
      | (refine Pw.go (hq (hM.no st.kp)) st ?_; clear st; intro w st; refine ⟨_, _, rfl, ?_⟩)
      | (refine Pw.go (hk (hM.no st.kp)) st ?_; clear st; intro w st; refine ⟨_, rfl, ?_⟩)
      | refine ⟨St.cell st 0 rfl rfl, ?_⟩
      | refine ⟨_, St.cell st 0 rfl rfl, ?_⟩
      | refine ⟨_, _, St.cell st 0 rfl rfl, ?_⟩
      | refine ⟨_, _, _, St.cell st 0 rfl rfl, ?_⟩
      | refine ⟨St.cell st 1 rfl rfl, ?_⟩
      | refine ⟨_, St.cell st 1 rfl rfl, ?_⟩
      | refine ⟨_, _, St.cell st 1 rfl rfl, ?_⟩
      | refine ⟨_, _, _, St.cell st 1 rfl rfl, ?_⟩
      | refine ⟨St.cell st 2 rfl rfl, ?_⟩
      | refine ⟨_, St.cell st 2 rfl rfl, ?_⟩
      | refine ⟨_, _, St.cell st 2 rfl rfl, ?_⟩
      | refine ⟨_, _, _, St.cell st 2 rfl rfl, ?_⟩
      | refine ⟨St.cell st 3 rfl rfl, ?_⟩
      | refine ⟨_, St.cell st 3 rfl rfl, ?_⟩
      | refine ⟨_, _, St.cell st 3 rfl rfl, ?_⟩
      | refine ⟨_, _, _, St.cell st 3 rfl rfl, ?_⟩
      | refine ⟨St.rows st 0 rfl, ?_⟩
      | refine ⟨_, _, St.rows st 0 rfl, ?_⟩
      | refine ⟨_, _, _, St.rows st 0 rfl, ?_⟩
      | refine ⟨_, _, _, _, St.rows st 0 rfl, ?_⟩
      | refine ⟨_, _, _, _, _, St.rows st 0 rfl, ?_⟩
      | refine ⟨_, _, _, _, _, _, St.rows st 0 rfl, ?_⟩
      | refine ⟨_, _, _, _, _, _, _, St.rows st 0 rfl, ?_⟩
      | refine ⟨_, _, _, _, _, _, _, _, St.rows st 0 rfl, ?_⟩
      | refine ⟨St.rows st 1 rfl, ?_⟩
      | refine ⟨_, _, St.rows st 1 rfl, ?_⟩
      | refine ⟨_, _, _, St.rows st 1 rfl, ?_⟩
      | refine ⟨_, _, _, _, St.rows st 1 rfl, ?_⟩
      | refine ⟨_, _, _, _, _, St.rows st 1 rfl, ?_⟩
      | refine ⟨_, _, _, _, _, _, St.rows st 1 rfl, ?_⟩
      | refine ⟨_, _, _, _, _, _, _, St.rows st 1 rfl, ?_⟩
      | refine ⟨_, _, _, _, _, _, _, _, St.rows st 1 rfl, ?_⟩
      | refine ⟨St.rows st 2 rfl, ?_⟩
      | refine ⟨_, _, St.rows st 2 rfl, ?_⟩
      | refine ⟨_, _, _, St.rows st 2 rfl, ?_⟩
      | refine ⟨_, _, _, _, St.rows st 2 rfl, ?_⟩
      | refine ⟨_, _, _, _, _, St.rows st 2 rfl, ?_⟩
      | refine ⟨_, _, _, _, _, _, St.rows st 2 rfl, ?_⟩
      | refine ⟨_, _, _, _, _, _, _, St.rows st 2 rfl, ?_⟩
      | refine ⟨_, _, _, _, _, _, _, _, St.rows st 2 rfl, ?_⟩
      | refine ⟨St.rows st 3 rfl, ?_⟩
      | refine ⟨_, _, St.rows st 3 rfl, ?_⟩
      | refine ⟨_, _, _, St.rows st 3 rfl, ?_⟩
      | refine ⟨_, _, _, _, St.rows st 3 rfl, ?_⟩
      | refine ⟨_, _, _, _, _, St.rows st 3 rfl, ?_⟩
      | refine ⟨_, _, _, _, _, _, St.rows st 3 rfl, ?_⟩
      | refine ⟨_, _, _, _, _, _, _, St.rows st 3 rfl, ?_⟩
      | refine ⟨_, _, _, _, _, _, _, _, St.rows st 3 rfl, ?_⟩
      | (refine ⟨St.wr st 0 rfl rfl, St.store st 0 rfl ?_⟩; clear st; intro w st; simp only [List.set] at st)
      | (refine ⟨St.wrRow st 0 rfl rfl rfl, St.storeRow st 0 rfl ?_⟩; clear st; intro w st; simp only [List.set, setsL] at st)
      | (refine ⟨St.wr st 1 rfl rfl, St.store st 1 rfl ?_⟩; clear st; intro w st; simp only [List.set] at st)
      | (refine ⟨St.wrRow st 1 rfl rfl rfl, St.storeRow st 1 rfl ?_⟩; clear st; intro w st; simp only [List.set, setsL] at st)
      | (refine ⟨St.wr st 2 rfl rfl, St.store st 2 rfl ?_⟩; clear st; intro w st; simp only [List.set] at st)
      | (refine ⟨St.wrRow st 2 rfl rfl rfl, St.storeRow st 2 rfl ?_⟩; clear st; intro w st; simp only [List.set, setsL] at st)
      | (refine ⟨St.wr st 3 rfl rfl, St.store st 3 rfl ?_⟩; clear st; intro w st; simp only [List.set] at st)
      | (refine ⟨St.wrRow st 3 rfl rfl rfl, St.storeRow st 3 rfl ?_⟩; clear st; intro w st; simp only [List.set, setsL] at st)
      | with_reducible refine LetI.id (by omega) (by omega) ?_
      | (exfalso; omega)
      | exact absurd rfl h
      | with_reducible refine Br.dec (fun h => ?_) (fun h => ?_)
      | with_reducible refine Br.eqi (fun h => ?_) (fun h => ?_)
      | with_reducible refine Br.nei (fun h => ?_) (fun h => ?_)
      | with_reducible refine Br.eqs' (fun h => ?_) (fun h => ?_)
      | with_reducible refine Br.eqs (fun h => ?_) (fun h => ?_)
      | with_reducible refine Br.not ?_
      | with_reducible refine Br.and_ ?_
      | with_reducible refine Br.sure rfl ?_
      | with_reducible refine Br.nay rfl ?_
      | with_reducible refine Br.eqb (fun h => ?_) (fun h => ?_)
      | with_reducible refine Br.bool (fun h => ?_) (fun h => ?_)
      | fail
    all_goals first | exact ⟨rfl, st.kp⟩ | exact absurd rfl h
end Go.Proofs.Ytbdhdjbdooccoaa
