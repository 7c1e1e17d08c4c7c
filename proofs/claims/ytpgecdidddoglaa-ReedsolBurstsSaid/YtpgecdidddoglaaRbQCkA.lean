/- Polynomials over two elements of degree 3 to 8: which are primitive (a part of the table). -/
import Derived.Test.YtpgecdidddoglaaRbQCk
namespace Go.Proofs.Ytpgecdidddoglaa.P
theorem ck8 : (List.range 8).all (fun n => ckP (8 + n) 8) = true := by decide +kernel
theorem ck16 : (List.range 16).all (fun n => ckP (16 + n) 16) = true := by decide +kernel
theorem ck32 : (List.range 32).all (fun n => ckP (32 + n) 32) = true := by decide +kernel
theorem ck64 : (List.range 32).all (fun n => ckP (64 + n) 64) = true := by decide +kernel
theorem ck96 : (List.range 32).all (fun n => ckP (96 + n) 64) = true := by decide +kernel
theorem ck128 : (List.range 32).all (fun n => ckP (128 + n) 128) = true := by decide +kernel
end Go.Proofs.Ytpgecdidddoglaa.P
