/- Pure laws: PHar, PHarH, PSz. No condition. -/
import Derived.Test.YtcfbjloblbhdhaaGreatPA
import Derived.Test.YtcfbjloblbhdhaaGreatEngD
set_option linter.unusedVariables false
set_option linter.unusedSimpArgs false
namespace Go.Proofs.YtcfbjloblbhdhaaGreat.Eng
theorem eq_loop {k:Nat} (hk:K0≤k) {n:Nat} (hn:n≤1048576) {F:(Int×Unit→Option (Bool×Unit))→Int×Unit→Option (Bool×Unit)} (hF:∀(i:Nat) rec,i<n→F rec ((i:Int),())=rec (((i+1:Nat):Int),())) (hE:∀rec,F rec ((n:Int),())=chkP True):loopN F k (0,())=chkP True:=by
 unfold K0 at hk
 exact loop_run (n:=n) (fun i=>((i:Int),())) (by simp) (fun i hi rec=>hF i rec hi) hE (by omega)
end Go.Proofs.YtcfbjloblbhdhaaGreat.Eng
namespace Go.Proofs.YtcfbjloblbhdhaaGreat.Eng
theorem rd_mem {α:Type} {d:α} {l:List α} {i:Nat} (h:i<l.length):rdP d l i∈l:=by rw [rd_lt h];exact List.getElem_mem h
end Go.Proofs.YtcfbjloblbhdhaaGreat.Eng
namespace Go.Proofs.YtcfbjloblbhdhaaGreat.Eng
structure BigH (x:HallT):Prop where
 wait:x.2.1.length≤9223372036854775807
 items:x.2.2.2.2.2.2.2.1.length≤9223372036854775807
 trays:x.2.2.2.2.2.2.2.2.1.length≤9223372036854775807
 chutes:x.2.2.2.2.2.2.2.2.2.2.1.length≤9223372036854775807
 bags:∀c∈x.2.2.2.2.2.2.2.2.2.2.1,c.2.2.1.length≤9223372036854775807
 wants:x.2.2.2.2.2.2.2.2.2.2.2.1.length≤9223372036854775807
 told:∀w∈x.2.2.2.2.2.2.2.2.2.2.2.1,w.2.1.length≤9223372036854775807
 lanes:x.2.2.2.2.2.2.2.2.2.2.2.2.2.1.length≤9223372036854775807
 kept:∀l∈x.2.2.2.2.2.2.2.2.2.2.2.2.2.1,l.1.length≤9223372036854775807
 notes:x.2.2.2.2.2.2.2.2.2.2.2.2.2.2.1.length≤9223372036854775807
 flights:x.2.2.2.2.2.2.2.2.2.2.2.2.2.2.2.1.length≤9223372036854775807
 cases_:x.2.2.2.2.2.2.2.2.2.2.2.2.2.2.2.2.1.length≤9223372036854775807
end Go.Proofs.YtcfbjloblbhdhaaGreat.Eng
