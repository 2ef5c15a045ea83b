/- ChainKnown's plain law: the chapter's examples, evaluated. -/
import Derived.Test.YtokfalcmkmelpaaPAllx9
namespace Go.Proofs.Ytokfalcmkmelpaa.Pure
open Go.RowKit Go.Proofs.Ytokfalcmkmelpaa.PAll Go.Proofs.YtokfalcmkmelpaaW.PrintWords Go.Proofs.YtokfalcmkmelpaaW.PrintLast

theorem ChainKnown : chaperonlaw10_ChainKnown.Pure := ⟨12, by kernel_rfl⟩

end Go.Proofs.Ytokfalcmkmelpaa.Pure
