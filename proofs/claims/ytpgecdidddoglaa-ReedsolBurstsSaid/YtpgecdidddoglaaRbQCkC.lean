/- Polynomials over two elements of degree 3 to 8: which are primitive (a part of the table). -/
import Derived.Test.YtpgecdidddoglaaRbQCk
namespace Go.Proofs.Ytpgecdidddoglaa.P
theorem ck288 : (List.range 32).all (fun n => ckP (288 + n) 256) = true := by decide +kernel
theorem ck320 : (List.range 32).all (fun n => ckP (320 + n) 256) = true := by decide +kernel
theorem ck352 : (List.range 32).all (fun n => ckP (352 + n) 256) = true := by decide +kernel
end Go.Proofs.Ytpgecdidddoglaa.P
