/- Merged lists of notes: what is held, what is refused. No condition. -/
import Derived.Test.YtpmjopbgccajgaaGreatPC
namespace Go.Proofs.YtpmjopbgccajgaaGreat.Eng
set_option linter.unusedVariables false
set_option linter.unusedSimpArgs false
def agree (a b:List NoteT):Prop:=∀x∈a,∀y∈b,x.1=y.1→x=y
end Go.Proofs.YtpmjopbgccajgaaGreat.Eng
