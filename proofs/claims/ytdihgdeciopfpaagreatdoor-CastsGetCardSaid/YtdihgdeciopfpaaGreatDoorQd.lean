/- What the proof of the statement leans on (part 4). -/
import Derived.Laws.Tables
import Derived.Laws.CopyRow
import Derived.Laws.Small
import Derived.Laws.Pointers
import Derived.Laws.Cover3
import Derived.Test.YtdihgdeciopfpaaGreatDoorQc

namespace Go.Lw
section
variable {t e yt:TypeId}{x y:Operand}
section
variable {P:Program}{ρ:Env}{h:au}{dst:Option Nat}{ty:TypeId}{pos:String}{after:Array Edge}{guard:Option (Nat×Bool)}{X:List PanicEntry->au->Prop}
theorem Bu (hu:P.underlying t=some (.pointer e)):P.underlying t=some (.pointer (P.pointee t)):=by
 rw[hu];simp[Program.pointee,hu]
theorem ai.fN {p:Option Addr}(hu:P.underlying t=some (.pointer e)) (hx:bE ρ x=some (.pointer p)) (hy:bE ρ y=some (.pointer none)) :
 ai P ⟨dst,.binOp .eql t x y yt,ty,pos,after,guard⟩ ρ h (.bool p.isNone):=by
 intro _ B a w hf _;simp[execOp,eqGuard,binOp,run_equal_pointer_nil w t p (Bu hu),hf.eval hx,hf.eval hy]
theorem ai.Db {p:Option Addr}{n c:Nat}(hu:P.underlying t=some (.slice e)) (hx:bE ρ x=some (.slice p n c)) (hy:bE ρ y=some (.slice none 0 0)) :
 ai P ⟨dst,.binOp .eql t x y yt,ty,pos,after,guard⟩ ρ h (.bool p.isNone):=by
 intro _ B a w hf _;simp[execOp,eqGuard,binOp,run_equal_slice_nil w t e p n c hu,hf.eval hx,hf.eval hy]
theorem Dq {t yt:TypeId}{x y:Operand}{k k':IntKind}{i j:Int}(hx:bE ρ x=some (.int k i)) (hy:bE ρ y=some (.int k' j)) (hj:0<=j) :
 ai P ⟨dst,.binOp .shl t x y yt,ty,pos,after,guard⟩ ρ h (.int k (k.wrap (i*2 ^ min j.toNat k.bits))):=by
 intro _ B a w hf _;have:¬j<0:=by omega
 simp[execOp,eqGuard,binOp,Op.shift,hf.eval hx,hf.eval hy,this]
theorem Dp {t yt:TypeId}{x y:Operand}{k k':IntKind}{i j:Int}(hx:bE ρ x=some (.int k i)) (hy:bE ρ y=some (.int k' j)) (hj:0<=j) :
 ai P ⟨dst,.binOp .shr t x y yt,ty,pos,after,guard⟩ ρ h (.int k (i.fdiv (2 ^ min j.toNat k.bits))):=by
 intro _ B a w hf _;have:¬j<0:=by omega
 simp[execOp,eqGuard,binOp,Op.shift,hf.eval hx,hf.eval hy,this]
theorem ai.GM {k:IntKind}{i j:Int}(hx:bE ρ x=some (.int k i)) (hy:bE ρ y=some (.int k j)) :
 ai P ⟨dst,.binOp .and t x y yt,ty,pos,after,guard⟩ ρ h (.int k (k.wrap (BitVec.ofInt k.bits i &&& BitVec.ofInt k.bits j).toNat)):=by
 intro _ B a w hf _;simp[execOp,eqGuard,binOp,Op.intBits,hf.eval hx,hf.eval hy]
theorem ai.xP {k:IntKind}{i j:Int}(hx:bE ρ x=some (.int k i)) (hy:bE ρ y=some (.int k j)) :
 ai P ⟨dst,.binOp .or t x y yt,ty,pos,after,guard⟩ ρ h (.int k (k.wrap (BitVec.ofInt k.bits i |||BitVec.ofInt k.bits j).toNat)):=by
 intro _ B a w hf _;simp[execOp,eqGuard,binOp,Op.intBits,hf.eval hx,hf.eval hy]
theorem aE {t:TypeId}{ps:Array (Nat×Operand)}{vs:List (Nat×Value)}{cells:Array Value}(hb:P.built t vs=some cells)
 (hps:ps.toList.map (fun p=>(p.1,bE ρ p.2))=vs.map (fun p=>(p.1,some p.2))) :
 ai P ⟨dst,.build t ps,ty,pos,after,guard⟩ ρ h (.agg cells):=by
 intro _ B a w hf _;have hmp:=u5 hf hps;have:=run_build (P:=P) w t vs.toArray cells (by simpa using hb);simp[execOp,hmp,this]
def setRow (h:au) (g:Nat) (cs:Array Value):au:=h.modify g fun|.cells _ e f=>.cells cs e f|o=>o
theorem Bl {h:au}{g:Nat}{cur:Array Value}{fr:Nat×Nat}(hg:h[g]? =some (.cells cur t fr)) (cs:Array Value):(setRow h g cs)[g]? =some (.cells cs t fr):=by
 simp[setRow,Array.getElem?_modify,hg]
theorem setRow_size (h:au) (g:Nat) (cs:Array Value):(setRow h g cs).size=h.size:=by simp[setRow]
theorem Ext.setRow {M:Nat->Prop}(h:au) (g:Nat) (cs:Array Value) (hm:M g):Ext M h (setRow h g cs) :=
 ⟨by simp[setRow_size],fun b _ hb=>by
  have hne:¬g=b:=fun e=>hb (e▸hm)
  unfold Lw.setRow;rw[Array.getElem?_modify,if_neg hne]⟩
theorem ax.Fk {g o:Nat}{cur:Array Value}{cs:Array Value}{sz:Nat}(hs:ck P t=some sz) (hx:bE ρ x=some (.pointer (some ⟨g,o,none⟩))) (hy:bE ρ y=some (.agg cs))
 (hn:cs.size=sz) (hg:h[g]? =some (.cells cur e (0,0))) (hl:o+cs.size<=cur.size) (h1:∀v∈cs.toList,v.oneCell'=true) :
 ax P ⟨dst,.store t x y,ty,pos,after,guard⟩ ρ h (fun u h'=>u=undef/\h'=setRow h g (cur.toList.take o++cs.toList++cur.toList.drop (o+cs.size)).toArray) X:=by
 subst hn;intro n B a w hf ha next Q hn _
 have hgw:w.heap[g]? =some (.cells cur e (0,0)):=by rw[ha.heap];exact hg
 have hst:=run_storeCells_at (P:=P) g o e cs.toList 0 cur w hgw (by simpa using hl) h1;simp only[Nat.add_zero,Array.length_toList] at hst
 have hrun:(execOp a.eval ⟨dst,.store t x y,ty,pos,after,guard⟩).run P w= .ok .skip (w.setRow g (cur.toList.take o++cs.toList++cur.toList.drop (o+cs.size)).toArray):=by
  simp only[execOp,Instr.storeAt,Instr.sureAddr,storeVar,Sem.run_bind,hf.eval hx,hf.eval hy,run_sizeOf hs,Result.andThen_ok,Sem.run_pure,Value.cells];simp[hst]
 unfold Oper.wp;rw[hrun];refine hn undef _ _ ⟨?_,ha.os,ha.tape,ha.output⟩ ⟨rfl,rfl⟩;rw[<-ha.heap];rfl
end
end
end Go.Lw
namespace Go.Lw
end Go.Lw
namespace Go.Lw
end Go.Lw
namespace Go.Lw
theorem Aj {h:au}{b:Nat}{cs:Array Value}{t:TypeId}{fr:Nat×Nat}(hb:h[b]? =some (.cells cs t fr)){i:Nat}{v:Value}(hv:cs[i]? =some v):cellAt h ⟨b,i,none⟩=some v:=by
 simp[cellAt,hb,hv]
end Go.Lw
