/- What the proof of the statement leans on (part 16). -/
import Derived.Lib.MakeNoZero
import Derived.Laws.CopyOwn
import Derived.Test.YtmehdcdbeafljaaGreatDoorQo

namespace Go.Lw
open Go.RowKit
section
variable {P:Program}{ρ:Env}{h:az}{dst:Option Nat}{ty:TypeId}{pos:String}{after:Array Edge}{guard:Option (Nat×Bool)}{X:List PanicEntry->az->Prop}
theorem aj.A7 {t e:TypeId}{x:Operand}{oa:Option Addr}{n c:Nat}(hu:P.underlying t=some (.slice e)) (hx:bO ρ x=some (.slice oa n c)) :
 aj P ⟨dst,.call ⟨.builtin .cap,#[x],#[t]⟩,ty,pos,after,guard⟩ ρ h (.int .i64 c):=by
 intro _ B a w hf _;simp[execOp,resolve,invoke,builtin,Builtin.cap_,run_underlying hu,hf.eval hx,goInt]
theorem aj.Gw {t t' e:TypeId}{x y:Operand}{oa ob:Option Addr}{n c m d:Nat}(hu:P.underlying t=some (.slice e)) (hs:(P.info? e).map (·.size)=some 1) (hx:bO ρ x=some (.slice oa n c)) (hy:bO ρ y=some (.slice ob m d)) (h0:Nat.min m n=0) :
 aj P ⟨dst,.call ⟨.builtin .copy,#[x,y],#[t,t']⟩,ty,pos,after,guard⟩ ρ h (.int .i64 0):=by
 intro _ B a w hf _;have hrun:=run_copy_none (P:=P) w t t' ty e oa ob n c m d hu hs h0;simp[execOp,resolve,invoke,builtin,hf.eval hx,hf.eval hy,hrun,goInt]
theorem aA.makeNoZero {f:FuncId}{fn:Func}{x:Operand}{ts ps:Array TypeId}{t e:TypeId}{i:Int}(hf:P.funcs[f]? =some fn) (hname:(fn.name == "runtime.NumGoroutine")=false)
 (hb:fn.body.isNone=true) (hn:Extern.findNext fn=none) (he:Extern.find fn=some (Extern.BytealgMakeNoZero.makeNoZero ps #[t])) (ht:P.underlying t=some (.slice e)) (hx:bO ρ x=some (.int .i64 i)) (n:Nat) (hi:i=n) (hle:n<=1000000000) :
 aA P ⟨dst,.call ⟨.value (.func f),#[x],ts⟩,ty,pos,after,guard⟩ ρ h (fun v g=>∃cs:Array Value,v= .slice (some ⟨h.size,0,none⟩) n cs.size/\g=h.push (.cells cs e)/\n<=cs.size/\cs.size<=maxLen) X:=by
 intro nn B a w hfit ha next Q hq _
 subst hi;obtain⟨cs,hr,h1,h2⟩:=Lib.run_makeNoZero (P:=P) w ps t e ht n (by omega);have hc:=run_callFunc_extern (P:=P) hf hname hb hn he #[.int .i64 n] w;rw[hr] at hc
 have hrun:(execOp a.eval ⟨dst,.call ⟨.value (.func f),#[x],ts⟩,ty,pos,after,guard⟩).run P w= .ok (.value (.slice (some ⟨w.heap.size,0,none⟩) n cs.size)) (w.drew.drew.alloc (.cells cs e)):=by
  simp only[execOp,resolve,Act.eval,Deferred.ofValue,invoke];simp[hfit.eval hx,hc]
 unfold Oper.wp;rw[hrun];refine hq _ (w.heap.push (.cells cs e)) _ ⟨rfl,ha.os,ha.tape,ha.output⟩ ⟨cs,by rw[ha.heap],by rw[ha.heap],h1,h2 (by simp only[maxLen];omega)⟩
end
end Go.Lw
