/- Part 4. -/
import Derived.Laws.Tables
import Derived.Laws.CopyRow
import Derived.Laws.Small
import Derived.Laws.Pointers
import Derived.Laws.Cover3
import Derived.Test.YtnjahnbpnpkmhaaGreatDoorQc

namespace Go.Lw
section
variable {t yt e:TypeId}{x y:Operand}
section
variable {P:Program}{ρ:Env}{h:aq}{dst:Option Nat}{ty:TypeId}{pos:String}{after:Array Edge}{guard:Option (Nat×Bool)}{X:List PanicEntry->aq->Prop}
theorem az.K5 {i j:Bool}(hu:P.underlying t=some .bool) (U:bp ρ x=some (.bool i)) (J:bp ρ y=some (.bool j)) :
 az P ⟨dst,.binOp .eql t x y yt,ty,pos,after,guard⟩ ρ h (.bool (i ==j)):=by
 intro _ B a w I _;simp[execOp,eqGuard,binOp,run_equal_bool w t i j hu,I.eval U,I.eval J]
theorem Ex (hu:P.underlying t=some (.pointer e)):P.underlying t=some (.pointer (P.pointee t)):=by
 rw[hu];simp[Program.pointee,hu]
theorem az.tY {p:Option Addr}(hu:P.underlying t=some (.pointer e)) (U:bp ρ x=some (.pointer p)) (J:bp ρ y=some (.pointer none)) :
 az P ⟨dst,.binOp .eql t x y yt,ty,pos,after,guard⟩ ρ h (.bool p.isNone):=by
 intro _ B a w I _;simp[execOp,eqGuard,binOp,run_equal_pointer_nil w t p (Ex hu),I.eval U,I.eval J]
theorem B3 {t yt:TypeId}{x y:Operand}{k k':IntKind}{i j:Int}(U:bp ρ x=some (.int k i)) (J:bp ρ y=some (.int k' j)) (hj:0<=j) :
 az P ⟨dst,.binOp .shl t x y yt,ty,pos,after,guard⟩ ρ h (.int k (k.wrap (i*2 ^ min j.toNat k.bits))):=by
 intro _ B a w I _;have:¬j<0:=by omega
 simp[execOp,eqGuard,binOp,Op.shift,I.eval U,I.eval J,this]
theorem Gi {t yt:TypeId}{x y:Operand}{k k':IntKind}{i j:Int}(U:bp ρ x=some (.int k i)) (J:bp ρ y=some (.int k' j)) (hj:0<=j) :
 az P ⟨dst,.binOp .shr t x y yt,ty,pos,after,guard⟩ ρ h (.int k (i.fdiv (2 ^ min j.toNat k.bits))):=by
 intro _ B a w I _;have:¬j<0:=by omega
 simp[execOp,eqGuard,binOp,Op.shift,I.eval U,I.eval J,this]
theorem az.DP {k:IntKind}{i j:Int}(U:bp ρ x=some (.int k i)) (J:bp ρ y=some (.int k j)) :
 az P ⟨dst,.binOp .and t x y yt,ty,pos,after,guard⟩ ρ h (.int k (k.wrap (BitVec.ofInt k.bits i &&& BitVec.ofInt k.bits j).toNat)):=by
 intro _ B a w I _;simp[execOp,eqGuard,binOp,Op.intBits,I.eval U,I.eval J]
theorem az.BQ {k:IntKind}{i j:Int}(U:bp ρ x=some (.int k i)) (J:bp ρ y=some (.int k j)) :
 az P ⟨dst,.binOp .or t x y yt,ty,pos,after,guard⟩ ρ h (.int k (k.wrap (BitVec.ofInt k.bits i |||BitVec.ofInt k.bits j).toNat)):=by
 intro _ B a w I _;simp[execOp,eqGuard,binOp,Op.intBits,I.eval U,I.eval J]
theorem av {t:TypeId}{ps:Array (Nat×Operand)}{vs:List (Nat×Value)}{cells:Array Value}(Y:P.built t vs=some cells)
 (I:ps.toList.map (λp=>(p.1,bp ρ p.2))=vs.map (λp=>(p.1,some p.2))) :
 az P ⟨dst,.build t ps,ty,pos,after,guard⟩ ρ h (.agg cells):=by
 intro _ B a w U _;have J:=zZ U I;have:=run_build (P:=P) w t vs.toArray cells (by simpa using Y);simp[execOp,J,this]
theorem HT {t:TypeId}{U:Array Field}{fd:Field}{x:Operand}{i off:Nat}{cs:Array Value}{v:Value}(hu:P.underlying t=some (.struct U)) (J:U[i]? =some fd) (I:fd.offset=off) (hr:aX P fd.type=some false)
 (Y:bp ρ x=some (.agg cs)) (Z:cs[off]? =some v):az P ⟨dst,.field t x i,ty,pos,after,guard⟩ ρ h v:=by
 intro _ B a w hf _;subst I;simp[execOp,Instr.field,run_underlying hu,J,part,kf hr,hf.eval Y,asAgg,Z]
def setRow (h:aq) (g:Nat) (cs:Array Value):aq:=h.modify g fun|.cells _ e f=>.cells cs e f|o=>o
theorem Es {h:aq}{g:Nat}{cur:Array Value}{fr:Nat×Nat}(I:h[g]? =some (.cells cur t fr)) (cs:Array Value):(setRow h g cs)[g]? =some (.cells cs t fr):=by
 simp[setRow,Array.getElem?_modify,I]
theorem setRow_size (h:aq) (g:Nat) (cs:Array Value):(setRow h g cs).size=h.size:=by simp[setRow]
theorem Ext.setRow {M:Nat->Prop}(h:aq) (g:Nat) (cs:Array Value) (hm:M g):Ext M h (setRow h g cs) :=
 ⟨by simp[setRow_size],λb _ J=>by
  have I:¬g=b:=λe=>J (e▸hm)
  unfold Lw.setRow;rw[Array.getElem?_modify,if_neg I]⟩
theorem aV.Iy {g o:Nat}{cur:Array Value}{cs:Array Value}{sz:Nat}(hs:cK P t=some sz) (hx:bp ρ x=some (.pointer (some ⟨g,o,none⟩))) (hy:bp ρ y=some (.agg cs))
 (Y:cs.size=sz) (hg:h[g]? =some (.cells cur e (0,0))) (hl:o+cs.size<=cur.size) (h1:∀v∈cs.toList,v.oneCell'=true) :
 aV P ⟨dst,.store t x y,ty,pos,after,guard⟩ ρ h (λu h'=>u=undef/\h'=setRow h g (cur.toList.take o++cs.toList++cur.toList.drop (o+cs.size)).toArray) X:=by
 subst Y;intro n B a w hf U next Q Y _
 have Z:w.heap[g]? =some (.cells cur e (0,0)):=by rw[U.heap];exact hg
 have I:=run_storeCells_at (P:=P) g o e cs.toList 0 cur w Z (by simpa using hl) h1;simp only[Nat.add_zero,Array.length_toList] at I
 have J:(execOp a.eval ⟨dst,.store t x y,ty,pos,after,guard⟩).run P w= .ok .skip (w.setRow g (cur.toList.take o++cs.toList++cur.toList.drop (o+cs.size)).toArray):=by
  simp only[execOp,Instr.storeAt,Instr.sureAddr,storeVar,Sem.run_bind,hf.eval hx,hf.eval hy,run_sizeOf hs,Result.andThen_ok,Sem.run_pure,Value.cells];simp[I]
 unfold Oper.wp;rw[J];refine Y undef _ _ ⟨?_,U.os,U.tape,U.output⟩ ⟨rfl,rfl⟩;rw[<-U.heap];rfl
end
end
end Go.Lw
namespace Go.Lw
end Go.Lw
namespace Go.Lw
end Go.Lw
namespace Go.Lw
theorem DN {h:aq}{b:Nat}{cs:Array Value}{t:TypeId}{fr:Nat×Nat}(J:h[b]? =some (.cells cs t fr)){i:Nat}{v:Value}(I:cs[i]? =some v):cellAt h ⟨b,i,none⟩=some v:=by
 simp[cellAt,J,I]
end Go.Lw
