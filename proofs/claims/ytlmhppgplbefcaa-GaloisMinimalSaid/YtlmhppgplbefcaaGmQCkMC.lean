/- Polynomials over two elements of degree 1 to 8: products, or irreducible (a part of the table). -/
import Derived.Test.YtlmhppgplbefcaaGmQCkM
namespace Go.Proofs.Ytlmhppgplbefcaa.P
theorem ckM126 : (List.range 128).all (fun n => ckMi (126 + n)) = true := by decide +kernel
end Go.Proofs.Ytlmhppgplbefcaa.P
