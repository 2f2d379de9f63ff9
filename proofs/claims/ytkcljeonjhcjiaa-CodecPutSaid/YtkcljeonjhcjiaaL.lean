/- The laws of chapter 02: what they tell is true for every input. -/
import Derived.Test.YtkcljeonjhcjiaaP
namespace Go.Proofs.Ytkcljeonjhcjiaa
open Go.Vc Go.Codec

theorem dec_beq {a b : List UInt8} (h : a = b) : ((mk a).toList == b) = true := by rw [mk_eqb]; simp [h]
theorem dec_beq' {a b : List UInt8} (h : a = b) : ((mk a).toList == (mk b).toList) = true := by rw [mk_eqb']; simp [h]
theorem no_pu {l : List UInt8} (h : l.length ≤ 1099511627776) (hn : (rdN l).2.2 = false) : Pu Try.prog 20 #[.string (mk l)] (.bool true) := by
  intro w0
  have hk := Kp.refl No w0
  refine no__ok _ _ _ ?_
  unfold no_
  refine (read_pu h).step hk fun w hk _ => ⟨_, _, _, rfl, ?_⟩
  rw [rd_none hn]
  refine Br.sure (rfl) ?_
  refine Br.sure (dec_beq rfl) ?_
  exact ⟨rfl, hk⟩
theorem coded_pu : Pu Try.prog 7 #[] (.bool true) := by
  intro w0
  have hk := Kp.refl No w0
  refine coded_ok _ _ ?_
  unfold coded
  refine (read_pu (l := [249, 1, 44, 120]) (by decide)).step hk fun w hk _ => ⟨_, _, _, rfl, ?_⟩
  refine (num_pu (n := 0) (by decide)).step hk fun w hk _ => ⟨_, rfl, ?_⟩
  refine Br.sure (dec_beq (by simp [encN])) ?_
  refine (num_pu (n := 247) (by decide)).step hk fun w hk _ => ⟨_, rfl, ?_⟩
  refine Br.sure (dec_beq (by simp [encN])) ?_
  refine (num_pu (n := 248) (by decide)).step hk fun w hk _ => ⟨_, rfl, ?_⟩
  refine Br.sure (dec_beq (by simp [encN, digs])) ?_
  refine (num_pu (n := 300) (by decide)).step hk fun w hk _ => ⟨_, rfl, ?_⟩
  refine Br.sure (dec_beq (by simp [encN, digs])) ?_
  refine Br.sure (by decide) ?_
  refine Br.sure (dec_beq (by decide)) ?_
  refine Br.sure (by decide) ?_
  refine (no_pu (l := [248, 5]) (by decide) (by decide)).step hk fun w hk _ => ⟨_, rfl, ?_⟩
  refine Br.sure (rfl) ?_
  refine (no_pu (l := [249, 0, 248]) (by decide) (by decide)).step hk fun w hk _ => ⟨_, rfl, ?_⟩
  refine Br.sure (rfl) ?_
  refine (no_pu (l := [248]) (by decide) (by decide)).step hk fun w hk _ => ⟨_, rfl, ?_⟩
  refine Br.sure (rfl) ?_
  refine (int_pu (-1)).step hk fun w hk _ => ⟨_, rfl, ?_⟩
  refine Br.sure (dec_beq (by simp [encI, encN])) ?_
  refine (int_pu 246).step hk fun w hk _ => ⟨_, rfl, ?_⟩
  refine Br.sure (dec_beq (by simp [encI, encN])) ?_
  refine (int_pu 247).step hk fun w hk _ => ⟨_, rfl, ?_⟩
  refine Br.sure (dec_beq (by simp [encI, encN, digs])) ?_
  refine (text_pu (l := [97, 98]) (by decide)).step hk fun w hk _ => ⟨_, rfl, ?_⟩
  rw [dec_beq (by simp [encT, encN])]
  exact ⟨rfl, hk⟩

theorem lawPut_pu {n : Nat} (h : n < 18446744073709551616) (m : Int) (l : List UInt8) : Pu Try.prog 3 #[.int .u64 n, .int .i64 m, .string (mk l)] (.bool true) := by
  intro w0
  have hk := Kp.refl No w0
  refine lawPut_ok _ _ _ _ _ (Br.intro (fun h1 => ?_) fun h1 => ?_)
  · refine (coded_pu).step hk fun w hk _ => ⟨_, rfl, ?_⟩
    exact ⟨rfl, hk⟩
  have hl : l.length ≤ 1099511627776 := by simp [mk_size] at h1; omega
  refine (num_pu h).step hk fun w hk _ => ⟨_, rfl, ?_⟩
  refine (rnum_pu h).step hk fun w hk _ => ⟨_, rfl, ?_⟩
  refine Br.sure (dec_beq' rfl) ?_
  refine (int_pu _).step hk fun w hk _ => ⟨_, rfl, ?_⟩
  refine (rint_pu _).step hk fun w hk _ => ⟨_, rfl, ?_⟩
  refine Br.sure (dec_beq' rfl) ?_
  refine LetI.eq rfl ?_
  refine (int_pu _).step hk fun w hk _ => ⟨_, rfl, ?_⟩
  refine LetI.eq rfl ?_
  refine (rint_pu _).step hk fun w hk _ => ⟨_, rfl, ?_⟩
  refine Br.sure (dec_beq' rfl) ?_
  refine (text_pu hl).step hk fun w hk _ => ⟨_, rfl, ?_⟩
  refine (rtext_pu hl).step hk fun w hk _ => ⟨_, rfl, ?_⟩
  refine Br.sure (dec_beq' rfl) ?_
  refine (coded_pu).step hk fun w hk _ => ⟨_, rfl, ?_⟩
  exact ⟨rfl, hk⟩
theorem lawRead_pu (l : List UInt8) : Pu Try.prog 4 #[.string (mk l)] (.bool true) := by
  intro w0
  have hk := Kp.refl No w0
  refine lawRead_ok _ _ _ (Br.intro (fun h1 => ?_) fun h1 => ?_)
  · refine (coded_pu).step hk fun w hk _ => ⟨_, rfl, ?_⟩
    exact ⟨rfl, hk⟩
  have hl : l.length ≤ 1099511627776 := by simp [mk_size] at h1; omega
  refine (read_pu hl).step hk fun w hk _ => ⟨_, _, _, rfl, ?_⟩
  refine (rread_pu hl).step hk fun w hk _ => ⟨_, _, _, rfl, ?_⟩
  refine (unint_pu hl).step hk fun w hk _ => ⟨_, _, _, rfl, ?_⟩
  refine (runint_pu hl).step hk fun w hk _ => ⟨_, _, _, rfl, ?_⟩
  refine (cut_pu hl).step hk fun w hk _ => ⟨_, _, _, rfl, ?_⟩
  refine (rcut_pu hl).step hk fun w hk _ => ⟨_, _, _, rfl, ?_⟩
  refine Br.sure (beq_self_eq_true _) ?_
  refine Br.sure (dec_beq' rfl) ?_
  refine Br.sure (beq_self_eq_true _) ?_
  refine Br.sure (beq_self_eq_true _) ?_
  refine Br.sure (dec_beq' rfl) ?_
  refine Br.sure (beq_self_eq_true _) ?_
  refine Br.sure (dec_beq' rfl) ?_
  refine Br.sure (dec_beq' rfl) ?_
  refine Br.sure (beq_self_eq_true _) ?_
  refine (coded_pu).step hk fun w hk _ => ⟨_, rfl, ?_⟩
  exact ⟨rfl, hk⟩
theorem lawBack_pu {n m : Nat} (h : n < 18446744073709551616) (hm : m ≤ 65535) (l : List UInt8) : Pu Try.prog 5 #[.int .u64 n, .int .u16 m, .string (mk l)] (.bool true) := by
  intro w0
  have hk := Kp.refl No w0
  refine lawBack_ok _ _ _ _ _ (Br.intro (fun h1 => ?_) fun h1 => ?_)
  · refine (coded_pu).step hk fun w hk _ => ⟨_, rfl, ?_⟩
    exact ⟨rfl, hk⟩
  have hl : l.length ≤ 500 := by simp [mk_size] at h1; omega
  have ha := encN_len h
  have hb := encI_len ((m : Int) - 1)
  have hc := encT_len (l := l) (by omega)
  have hc' : l.length < (encT l).length := by have := encN_pos l.length; unfold encT; simp; omega
  have hb' := encI_pos (n := (m : Int) - 1) (by omega) (by omega)
  have ha' := encN_pos n
  have hmax : IntKind.i64.max = 9223372036854775807 := by decide
  refine LetI.id (by omega) (by omega) (LetI.id (by omega) (by omega) ?_)
  refine (num_pu h).step hk fun w hk _ => ⟨_, rfl, ?_⟩
  refine (int_pu _).step hk fun w hk _ => ⟨_, rfl, ?_⟩
  refine (text_pu (l := l) (by omega)).step hk fun w hk _ => ⟨_, rfl, ?_⟩
  simp only [mk_append, mk_size, List.length_append, mk_extract, hmax]
  refine ⟨by omega, by omega, by omega, ?_⟩
  refine (read_pu (by simp only [List.length_append]; omega)).step hk fun w hk _ => ⟨_, _, _, rfl, ?_⟩
  rw [List.append_assoc, List.append_assoc, rd_enc h]
  simp only
  refine (unint_pu (by simp only [List.length_append]; omega)).step hk fun w hk _ => ⟨_, _, _, rfl, ?_⟩
  rw [un_enc (by omega) (by omega)]
  simp only
  refine (cut_pu (by simp only [List.length_append]; omega)).step hk fun w hk _ => ⟨_, _, _, rfl, ?_⟩
  rw [cut_enc (by omega)]
  simp only [mk_eqb', decide_true, Bool.not_true, bne_self_eq_false, Br]
  refine Br.nay (by rw [beq_eq_false_iff_ne]; omega) ?_
  refine Br.nay (by simp; omega) ?_
  refine Br.nay (by rw [beq_eq_false_iff_ne]; omega) ?_
  refine Br.nay (by simp; omega) ?_
  refine LetI.id (by omega) (by omega) ⟨⟨by omega, by omega, by omega⟩, ?_⟩
  have e1 := un_cutoff (n := (m : Int) - 1) (by omega) (by omega) (i := (encI ((m : Int) - 1)).length - 1) (by omega)
  have e2 := cut_cutoff (t := l) (by omega) (i := (encT l).length - 1) (by omega)
  have e3 := rd_cutoff h (i := (encN n).length - 1) (by omega)
  refine (unint_pu (by simp only [List.length_drop, List.length_take]; omega)).step hk fun w hk _ => ⟨_, _, _, rfl, ?_⟩
  refine LetI.id (by omega) (by omega) ⟨⟨by omega, by omega, by omega⟩, ?_⟩
  refine (cut_pu (by simp only [List.length_drop, List.length_take]; omega)).step hk fun w hk _ => ⟨_, _, _, rfl, ?_⟩
  refine LetI.id (by omega) (by omega) ⟨⟨by omega, by omega, by omega⟩, ?_⟩
  rw [show (((encI ((m : Int) - 1)).length : Int) - 1).toNat = (encI ((m : Int) - 1)).length - 1 by omega, show (((encT l).length : Int) - 1).toNat = (encT l).length - 1 by omega, show (((encN n).length : Int) - 1).toNat = (encN n).length - 1 by omega]
  simp only [List.drop_zero, e1, e2]
  refine (no_pu (by simp only [List.length_take]; omega) e3).step hk fun w hk _ => ⟨_, rfl, ?_⟩
  simp only [Bool.not_false]
  refine (coded_pu).step hk fun w hk _ => ⟨_, rfl, ?_⟩
  exact ⟨rfl, hk⟩
theorem lawForm_pu (l : List UInt8) : Pu Try.prog 6 #[.string (mk l)] (.bool true) := by
  intro w0
  have hk := Kp.refl No w0
  refine lawForm_ok _ _ _ (Br.intro (fun h1 => ?_) fun h1 => ?_)
  · refine (coded_pu).step hk fun w hk _ => ⟨_, rfl, ?_⟩
    exact ⟨rfl, hk⟩
  have hl : l.length ≤ 1099511627776 := by simp [mk_size] at h1; omega
  have hmax : IntKind.i64.max = 9223372036854775807 := by decide
  have A : (∃ n r, rdN l = (n, r, true) ∧ l = encN n ++ r ∧ n < 18446744073709551616) ∨ rdN l = (0, [], false) := by
    cases hb : (rdN l).2.2 with
    | false => exact .inr (rd_none hb)
    | true => exact .inl ⟨_, _, Prod.ext rfl (Prod.ext rfl hb), (rd_some hb).1, (rd_some hb).2⟩
  have U : (∃ n r, unN l = (n, r, true) ∧ l = encI n ++ r ∧ -1 ≤ n) ∨ unN l = (0, [], false) := by
    cases hb : (unN l).2.2 with
    | false => exact .inr (un_none hb)
    | true => exact .inl ⟨_, _, Prod.ext rfl (Prod.ext rfl hb), (un_some hb).1, (un_some hb).2.1⟩
  have C : (∃ s r, cutN l = (s, r, true) ∧ l = encT s ++ r ∧ s.length ≤ 1099511627776) ∨ cutN l = ([], [], false) := by
    cases hb : (cutN l).2.2 with
    | false => exact .inr (cut_none hb)
    | true => exact .inl ⟨_, _, Prod.ext rfl (Prod.ext rfl hb), cut_some hb, Nat.le_trans (cut_len l).1 hl⟩
  refine (read_pu hl).step hk fun w hk _ => ⟨_, _, _, rfl, ?_⟩
  refine (unint_pu hl).step hk fun w hk _ => ⟨_, _, _, rfl, ?_⟩
  refine (cut_pu hl).step hk fun w hk _ => ⟨_, _, _, rfl, ?_⟩
  rcases A with ⟨n, r, eA, hA, hn⟩ | eA <;> rcases U with ⟨i, q, eU, hU, hi⟩ | eU <;> rcases C with ⟨x, z, eC, hC, hx⟩ | eC <;> simp only [eA, eU, eC, mk_size, hmax]
  all_goals repeat' first
    | exact ⟨rfl, hk⟩
    | refine (coded_pu).step hk fun w hk _ => ⟨_, rfl, ?_⟩
    | refine (num_pu hn).step hk fun w hk _ => ⟨_, rfl, ?_⟩
    | refine (int_pu _).step hk fun w hk _ => ⟨_, rfl, ?_⟩
    | refine (text_pu hx).step hk fun w hk _ => ⟨_, rfl, ?_⟩
    | refine Br.sure rfl ?_
    | refine Br.nay rfl ?_
    | refine Br.sure (dec_beq rfl) ?_
    | refine Br.nay (by rw [decide_eq_false]; omega) ?_
    | (refine ⟨by have h9 := congrArg List.length hA; rw [List.length_append] at h9; simp only [mk_size]; omega, ?_⟩; refine Br.nay (by rw [mk_append, mk_eqb', ← hA]; simp) ?_)
    | (refine ⟨by have h9 := congrArg List.length hU; rw [List.length_append] at h9; simp only [mk_size]; omega, ?_⟩; refine Br.nay (by rw [mk_append, mk_eqb', ← hU]; simp) ?_)
    | (refine ⟨by have h9 := congrArg List.length hC; rw [List.length_append] at h9; simp only [mk_size]; omega, ?_⟩; refine Br.nay (by rw [mk_append, mk_eqb', ← hC]; simp) ?_)
end Go.Proofs.Ytkcljeonjhcjiaa
