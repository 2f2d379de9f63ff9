/- Numbers and texts: their contracts, and the document's, as values. -/
import Derived.Test.YtbdhdjbdooccoaaR
import Derived.Test.YtbdhdjbdooccoaaV13
namespace Go.Proofs.Ytbdhdjbdooccoaa
open Go.Vc Go.Codec
theorem num_pu {n : Nat} (h : n < 18446744073709551616) : Pu Try.prog 83 #[.int .u64 n] (.string (mk (encN n))) := fun w => num_ca h w
theorem rnum_pu {n : Nat} (h : n < 18446744073709551616) : Pu Try.prog 84 #[.int .u64 n] (.string (mk (encN n))) := fun w => rnum_ca h w
theorem int_pu (n : Int) : Pu Try.prog 53 #[.int .i64 n] (.string (mk (encI n))) := fun w => int_ca n w
theorem rint_pu (n : Int) : Pu Try.prog 56 #[.int .i64 n] (.string (mk (encI n))) := fun w => rint_ca n w
theorem text_pu {l : List UInt8} (h : l.length ≤ 1099511627776) : Pu Try.prog 54 #[.string (mk l)] (.string (mk (encT l))) := fun w => text_ca h w
theorem rtext_pu {l : List UInt8} (h : l.length ≤ 1099511627776) : Pu Try.prog 57 #[.string (mk l)] (.string (mk (encT l))) := fun w => rtext_ca h w
theorem read_pu {l : List UInt8} (h : l.length ≤ 1099511627776) : Pu Try.prog 85 #[.string (mk l)] (.tuple #[.int .u64 (rdN l).1, .string (mk (rdN l).2.1), .bool (rdN l).2.2]) := fun w => read_ca h w
theorem rread_pu {l : List UInt8} (h : l.length ≤ 1099511627776) : Pu Try.prog 86 #[.string (mk l)] (.tuple #[.int .u64 (rdN l).1, .string (mk (rdN l).2.1), .bool (rdN l).2.2]) := fun w => rread_ca h w
theorem unint_pu {l : List UInt8} (h : l.length ≤ 1099511627776) : Pu Try.prog 58 #[.string (mk l)] (.tuple #[.int .i64 (unN l).1, .string (mk (unN l).2.1), .bool (unN l).2.2]) := fun w => unint_ca h w
theorem runint_pu {l : List UInt8} (h : l.length ≤ 1099511627776) : Pu Try.prog 60 #[.string (mk l)] (.tuple #[.int .i64 (unN l).1, .string (mk (unN l).2.1), .bool (unN l).2.2]) := fun w => runint_ca h w
theorem cut_pu {l : List UInt8} (h : l.length ≤ 1099511627776) : Pu Try.prog 59 #[.string (mk l)] (.tuple #[.string (mk (cutN l).1), .string (mk (cutN l).2.1), .bool (cutN l).2.2]) := fun w => cut_ca h w
theorem rcut_pu {l : List UInt8} (h : l.length ≤ 1099511627776) : Pu Try.prog 61 #[.string (mk l)] (.tuple #[.string (mk (cutN l).1), .string (mk (cutN l).2.1), .bool (cutN l).2.2]) := fun w => rcut_ca h w
end Go.Proofs.Ytbdhdjbdooccoaa
