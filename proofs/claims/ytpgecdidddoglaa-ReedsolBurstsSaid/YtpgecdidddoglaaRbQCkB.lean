/- Polynomials over two elements of degree 3 to 8: which are primitive (a part of the table). -/
import Derived.Test.YtpgecdidddoglaaRbQCk
namespace Go.Proofs.Ytpgecdidddoglaa.P
theorem ck160 : (List.range 32).all (fun n => ckP (160 + n) 128) = true := by decide +kernel
theorem ck192 : (List.range 32).all (fun n => ckP (192 + n) 128) = true := by decide +kernel
theorem ck224 : (List.range 32).all (fun n => ckP (224 + n) 128) = true := by decide +kernel
theorem ck256 : (List.range 32).all (fun n => ckP (256 + n) 256) = true := by decide +kernel
end Go.Proofs.Ytpgecdidddoglaa.P
