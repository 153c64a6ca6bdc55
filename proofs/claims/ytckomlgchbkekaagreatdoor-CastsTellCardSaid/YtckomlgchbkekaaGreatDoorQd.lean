/- What the proof of the statement leans on (part 4). -/
import Derived.Laws.Tables
import Derived.Laws.CopyRow
import Derived.Laws.Small
import Derived.Laws.Pointers
import Derived.Laws.Cover3
import Derived.Test.YtckomlgchbkekaaGreatDoorQc

namespace Go.Lw
section
variable {t yt e:TypeId}{x y:Operand}
section
variable {P:Program}{ρ:Env}{h:ai}{dst:Option Nat}{ty:TypeId}{pos:String}{after:Array Edge}{guard:Option (Nat×Bool)}{X:List PanicEntry->ai->Prop}
theorem an.I1 {i j:Bool}(hu:P.underlying t=some .bool) (hx:aT ρ x=some (.bool i)) (hy:aT ρ y=some (.bool j)) :
 an P ⟨dst,.binOp .eql t x y yt,ty,pos,after,guard⟩ ρ h (.bool (i ==j)):=by
 intro _ B a w hf _;simp[execOp,eqGuard,binOp,run_equal_bool w t i j hu,hf.eval hx,hf.eval hy]
theorem an.IM {i j:Bool}(hu:P.underlying t=some .bool) (hx:aT ρ x=some (.bool i)) (hy:aT ρ y=some (.bool j)) :
 an P ⟨dst,.binOp .neq t x y yt,ty,pos,after,guard⟩ ρ h (.bool (!(i ==j))):=by
 intro _ B a w hf _;simp[execOp,eqGuard,binOp,run_equal_bool w t i j hu,hf.eval hx,hf.eval hy]
theorem Cj (hu:P.underlying t=some (.pointer e)):P.underlying t=some (.pointer (P.pointee t)):=by
 rw[hu];simp[Program.pointee,hu]
theorem an.gp {p:Option Addr}(hu:P.underlying t=some (.pointer e)) (hx:aT ρ x=some (.pointer p)) (hy:aT ρ y=some (.pointer none)) :
 an P ⟨dst,.binOp .eql t x y yt,ty,pos,after,guard⟩ ρ h (.bool p.isNone):=by
 intro _ B a w hf _;simp[execOp,eqGuard,binOp,run_equal_pointer_nil w t p (Cj hu),hf.eval hx,hf.eval hy]
theorem an.D0 {p:Option Addr}{n c:Nat}(hu:P.underlying t=some (.slice e)) (hx:aT ρ x=some (.slice p n c)) (hy:aT ρ y=some (.slice none 0 0)) :
 an P ⟨dst,.binOp .eql t x y yt,ty,pos,after,guard⟩ ρ h (.bool p.isNone):=by
 intro _ B a w hf _;simp[execOp,eqGuard,binOp,run_equal_slice_nil w t e p n c hu,hf.eval hx,hf.eval hy]
theorem Ee {t yt:TypeId}{x y:Operand}{k k':IntKind}{i j:Int}(hx:aT ρ x=some (.int k i)) (hy:aT ρ y=some (.int k' j)) (hj:0<=j) :
 an P ⟨dst,.binOp .shl t x y yt,ty,pos,after,guard⟩ ρ h (.int k (k.wrap (i*2 ^ min j.toNat k.bits))):=by
 intro _ B a w hf _;have:¬j<0:=by omega
 simp[execOp,eqGuard,binOp,Op.shift,hf.eval hx,hf.eval hy,this]
theorem zq {t yt:TypeId}{x y:Operand}{k k':IntKind}{i j:Int}(hx:aT ρ x=some (.int k i)) (hy:aT ρ y=some (.int k' j)) (hj:0<=j) :
 an P ⟨dst,.binOp .shr t x y yt,ty,pos,after,guard⟩ ρ h (.int k (i.fdiv (2 ^ min j.toNat k.bits))):=by
 intro _ B a w hf _;have:¬j<0:=by omega
 simp[execOp,eqGuard,binOp,Op.shift,hf.eval hx,hf.eval hy,this]
theorem an.tS {k:IntKind}{i j:Int}(hx:aT ρ x=some (.int k i)) (hy:aT ρ y=some (.int k j)) :
 an P ⟨dst,.binOp .and t x y yt,ty,pos,after,guard⟩ ρ h (.int k (k.wrap (BitVec.ofInt k.bits i &&& BitVec.ofInt k.bits j).toNat)):=by
 intro _ B a w hf _;simp[execOp,eqGuard,binOp,Op.intBits,hf.eval hx,hf.eval hy]
theorem an.zh {k:IntKind}{i j:Int}(hx:aT ρ x=some (.int k i)) (hy:aT ρ y=some (.int k j)) :
 an P ⟨dst,.binOp .or t x y yt,ty,pos,after,guard⟩ ρ h (.int k (k.wrap (BitVec.ofInt k.bits i |||BitVec.ofInt k.bits j).toNat)):=by
 intro _ B a w hf _;simp[execOp,eqGuard,binOp,Op.intBits,hf.eval hx,hf.eval hy]
theorem Ef {t:TypeId}{x:Operand}{k:IntKind}{i:Int}(hx:aT ρ x=some (.int k i)) :
 an P ⟨dst,.unOp .neg t x,ty,pos,after,guard⟩ ρ h (.int k (k.wrap (0-i))):=by
 intro _ B a w hf _;simp[execOp,Op.unary,Op.intArith,hf.eval hx]
theorem au {t:TypeId}{ps:Array (Nat×Operand)}{vs:List (Nat×Value)}{cells:Array Value}(hb:P.built t vs=some cells)
 (hps:ps.toList.map (fun p=>(p.1,aT ρ p.2))=vs.map (fun p=>(p.1,some p.2))) :
 an P ⟨dst,.build t ps,ty,pos,after,guard⟩ ρ h (.agg cells):=by
 intro _ B a w hf _;have hmp:=vU hf hps;have:=run_build (P:=P) w t vs.toArray cells (by simpa using hb);simp[execOp,hmp,this]
theorem an.field {t:TypeId}{fs:Array Field}{fd:Field}{x:Operand}{i off:Nat}{cs:Array Value}{v:Value}(hu:P.underlying t=some (.struct fs)) (hfd:fs[i]? =some fd) (hoff:fd.offset=off) (hr:aJ P fd.type=some false)
 (hx:aT ρ x=some (.agg cs)) (hv:cs[off]? =some v):an P ⟨dst,.field t x i,ty,pos,after,guard⟩ ρ h v:=by
 intro _ B a w hf _;subst hoff;simp[execOp,Instr.field,run_underlying hu,hfd,part,fY hr,hf.eval hx,asAgg,hv]
def setRow (h:ai) (g:Nat) (cs:Array Value):ai:=h.modify g fun|.cells _ e f=>.cells cs e f|o=>o
theorem Ca {h:ai}{g:Nat}{cur:Array Value}{fr:Nat×Nat}(hg:h[g]? =some (.cells cur t fr)) (cs:Array Value):(setRow h g cs)[g]? =some (.cells cs t fr):=by
 simp[setRow,Array.getElem?_modify,hg]
theorem setRow_size (h:ai) (g:Nat) (cs:Array Value):(setRow h g cs).size=h.size:=by simp[setRow]
theorem Ext.setRow {M:Nat->Prop}(h:ai) (g:Nat) (cs:Array Value) (hm:M g):Ext M h (setRow h g cs) :=
 ⟨by simp[setRow_size],fun b _ hb=>by
  have hne:¬g=b:=fun e=>hb (e▸hm)
  unfold Lw.setRow;rw[Array.getElem?_modify,if_neg hne]⟩
theorem aH.Ga {g o:Nat}{cur:Array Value}{cs:Array Value}{sz:Nat}(hs:bE P t=some sz) (hx:aT ρ x=some (.pointer (some ⟨g,o,none⟩))) (hy:aT ρ y=some (.agg cs))
 (hn:cs.size=sz) (hg:h[g]? =some (.cells cur e (0,0))) (hl:o+cs.size<=cur.size) (h1:∀v∈cs.toList,v.oneCell'=true) :
 aH P ⟨dst,.store t x y,ty,pos,after,guard⟩ ρ h (fun u h'=>u=undef/\h'=setRow h g (cur.toList.take o++cs.toList++cur.toList.drop (o+cs.size)).toArray) X:=by
 subst hn;intro n B a w hf ha next Q hn _
 have hgw:w.heap[g]? =some (.cells cur e (0,0)):=by rw[ha.heap];exact hg
 have hst:=run_storeCells_at (P:=P) g o e cs.toList 0 cur w hgw (by simpa using hl) h1;simp only[Nat.add_zero,Array.length_toList] at hst
 have hrun:(execOp a.eval ⟨dst,.store t x y,ty,pos,after,guard⟩).run P w= .ok .skip (w.setRow g (cur.toList.take o++cs.toList++cur.toList.drop (o+cs.size)).toArray):=by
  simp only[execOp,Instr.storeAt,Instr.sureAddr,storeVar,Sem.run_bind,hf.eval hx,hf.eval hy,run_sizeOf hs,Result.andThen_ok,Sem.run_pure,Value.cells];simp[hst]
 unfold Oper.wp;rw[hrun];refine hn undef _ _ ⟨?_,ha.os,ha.tape,ha.output⟩ ⟨rfl,rfl⟩;rw[<-ha.heap];rfl
end
end
end Go.Lw
namespace Go.Lw
end Go.Lw
namespace Go.Lw
end Go.Lw
namespace Go.Lw
theorem Bp {h:ai}{b:Nat}{cs:Array Value}{t:TypeId}{fr:Nat×Nat}(hb:h[b]? =some (.cells cs t fr)){i:Nat}{v:Value}(hv:cs[i]? =some v):cellAt h ⟨b,i,none⟩=some v:=by
 simp[cellAt,hb,hv]
end Go.Lw
