/- Polynomials over two elements of degree 3 to 8: which are primitive (a part of the table). -/
import Derived.Test.YtpgecdidddoglaaRbQCk
namespace Go.Proofs.Ytpgecdidddoglaa.P
theorem ck384 : (List.range 32).all (fun n => ckP (384 + n) 256) = true := by decide +kernel
theorem ck416 : (List.range 32).all (fun n => ckP (416 + n) 256) = true := by decide +kernel
theorem ck448 : (List.range 32).all (fun n => ckP (448 + n) 256) = true := by decide +kernel
theorem ck480 : (List.range 32).all (fun n => ckP (480 + n) 256) = true := by decide +kernel
end Go.Proofs.Ytpgecdidddoglaa.P
