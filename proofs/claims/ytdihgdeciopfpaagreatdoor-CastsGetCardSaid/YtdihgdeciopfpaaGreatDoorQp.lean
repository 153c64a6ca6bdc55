/- What the proof of the statement leans on (part 16). -/
import Derived.Lib.ConvBytes
import Derived.Lib.AtoiErrMem
import Derived.Laws.Runes
import Derived.Test.YtdihgdeciopfpaaGreatDoorQo

namespace Go.Lw
open Go.RowKit
section
variable {P:Program}{ρ:Env}{h:au}{dst:Option Nat}{ty:TypeId}{pos:String}{after:Array Edge}{guard:Option (Nat×Bool)}{X:List PanicEntry->au->Prop}
theorem ai.KK {s d:TypeId}{x:Operand}{k:IntKind}{n:Int}{u:TypeDesc}(hs:P.underlying s=some u) (hd:P.underlying d=some .string) (hx:bE ρ x=some (.int k n)) :
 ai P ⟨dst,.convert s d x,ty,pos,after,guard⟩ ρ h (.string (Utf8.encode n)):=by
 intro _ B a w hf ha;simp only[execOp,hf.eval hx,Sem.run_bind,run_convert_int_string w s d k n (by rw[hs];rfl) hd,Result.andThen_ok,Sem.run_pure]
theorem ai.oU {t e:TypeId}{x:Operand}{b o m sz:Nat}(hu:P.underlying t=some (.array m e)) (hs:ck P e=some sz) (hx:bE ρ x=some (.pointer (some ⟨b,o,none⟩))) :
 ai P ⟨dst,.slice t x none none none,ty,pos,after,guard⟩ ρ h (.slice (bQ (some ⟨b,o,none⟩) 0 sz m) (m-0) (m-0)):=by
 intro _ B a w hf _;simp[execOp,Instr.sliceAt,Instr.sliceBounds,Instr.sliceBound,run_underlying hu,hf.eval hx,run_sizeOf hs,bQ,Instr.sureAddr];split<;>simp
end
end Go.Lw
