/- What the proof of the statement leans on (part 26). -/
import Derived.Lib.LaidU8
import Derived.Deep.Fields
import Derived.Test.YtfegacfjgjaghaaGreatDoorQy

namespace Go.Proofs.YtfegacfjgjaghaaGreatDoor
open Go Go.Lw Go.ChangeShapes Go.WideShapes Go.ChangeAt Go.RowKit
set_option maxRecDepth 100000
section
variable {W:World}
theorem first_eq:Go.Pinned.utf8First=Lib.firstData:=by kernel_rfl
theorem table_data:(Rows.laid_limner_rules_table:DataW Unit)= .agg [.slice ((tabR 0).map dataSII) [],.slice ((tabR 1).map dataSII) [],.slice ((tabR 2).map dataSII) []]:=by kernel_rfl
theorem accept_data:(Rows.laid_unicode_utf8_acceptRanges:DataW Unit)=Lib.acceptData:=by kernel_rfl
theorem utf8H_of (h3:Lib.VarReads Tryz.prog W "unicode/utf8.first" Lib.firstData) (h4:Lib.VarReads Tryz.prog W "unicode/utf8.acceptRanges" Lib.acceptData):Utf8H W.heap:=by
 refine⟨fun c hc=>?_,fun i hi=>?_⟩
 · obtain⟨g,t,cs,fuel,p,hg,hty,hvar,hd⟩:=h3;obtain rfl:=Option.some.inj ((show Tryz.prog.globalNamed "unicode/utf8.first" =some 2 by kernel_rfl).symm.trans hg);obtain rfl:=Option.some.inj ((show (Tryz.prog.globals[2]?).map (·.type)=some 192 by kernel_rfl).symm.trans hty);have hcs:=Lib.cells_of_tab Tryz.underlying192 Tryz.underlying5 (by kernel_rfl) (by kernel_rfl) hd;have:=World.var?_cell hg hvar c;rw[←cell_heap,this,←Array.getElem?_toList,hcs];simp[Lib.firstTab,hc]
 · obtain⟨g,t,cs,fuel,p,hg,hty,hvar,hd⟩:=h4;obtain rfl:=Option.some.inj ((show Tryz.prog.globalNamed "unicode/utf8.acceptRanges" =some 3 by kernel_rfl).symm.trans hg);obtain rfl:=Option.some.inj ((show (Tryz.prog.globals[3]?).map (·.type)=some 195 by kernel_rfl).symm.trans hty);obtain⟨fuel',d,q,hdi,he⟩:=Lib.array_elem Tryz.underlying195 hd i hi;simp only[List.getElem?_map,List.getElem?_range hi,Option.map_some,Option.some.injEq] at hdi;subst hdi;have c2:Tryz.prog.cellsOf 194=2:=by kernel_rfl
   have c1:Tryz.prog.cellsOf 5=1:=by kernel_rfl
   rw[c2] at he
   have hcs:=Lib.ints_of_struct Tryz.underlying194 (fun j f hj=>by
    match j,hj with
    | 0,hj=>simp at hj;subst hj;exact⟨Tryz.underlying5,rfl,c1⟩
    | 1,hj=>simp at hj;subst hj;exact⟨Tryz.underlying5,rfl,c1⟩
    |j+2,hj=>simp at hj) (by rw[c2];rfl) he
   have e0:=congrArg (·[0]?) hcs;have e1:=congrArg (·[1]?) hcs;simp only[List.getElem?_take,List.getElem?_drop] at e0 e1;constructor
   · rw[←cell_heap,World.var?_cell hg hvar (2*i),←Array.getElem?_toList];simpa [Nat.mul_comm] using e0
   · rw[←cell_heap,World.var?_cell hg hvar (2*i+1),←Array.getElem?_toList];simpa [Nat.mul_comm] using e1
theorem rules_of (h:Lib.VarReads Tryz.prog W "limner/rules.table" (.agg [.slice ((tabR 0).map dataSII) [],.slice ((tabR 1).map dataSII) [],.slice ((tabR 2).map dataSII) []])):RulesAt W.heap:=by
 intro m hm;obtain⟨g,t,cs,fuel,p,hg,hty,hvar,hd⟩:=h;obtain rfl:=Option.some.inj ((show Tryz.prog.globalNamed "limner/rules.table" =some 0 by kernel_rfl).symm.trans hg);obtain rfl:=Option.some.inj ((show (Tryz.prog.globals[0]?).map (·.type)=some 94 by kernel_rfl).symm.trans hty);obtain⟨fuel',d,q,hdi,he⟩:=Lib.array_elem Tryz.underlying94 hd m hm
 have hdm:d= .slice ((tabR m).map dataSII) []:=by
  match m,hm with
  | 0,_=>exact(Option.some.inj hdi).symm
  | 1,_=>exact(Option.some.inj hdi).symm
  | 2,_=>exact(Option.some.inj hdi).symm
 subst hdm;have c1:Tryz.prog.cellsOf 91=1:=by kernel_rfl
 rw[c1] at he;obtain⟨v,hv,hs⟩:=laid_recs Tryz.underlying91 Tryz.underlying93 (by kernel_rfl) rfl rfl rfl Tryz.underlying9 Tryz.underlying3 Tryz.underlying3 (by kernel_rfl) (by kernel_rfl) (by kernel_rfl) he;refine⟨v,?_,hs⟩;have e0:=congrArg (·[0]?) hv;simp only[List.getElem?_take,List.getElem?_drop] at e0;rw[←cell_heap,World.var?_cell hg hvar m,←Array.getElem?_toList];simpa using e0
theorem lex_glob (hL:laidMetH Tryz.prog Rows.completeOfRow.laid W) (hS:W.ShapedOpen Tryz.prog):LxG W.heap:=by
 rw[MakeChecks.laidMetH_plain _ _ _ (by kernel_rfl)] at hL;obtain⟨g2,t2,cs2,f2,p2,hg2,ht2,hv2,hd2⟩:=Lib.laidMet.reads hL (n:= "internal/strconv.uint64pow10") (.tail _ (.tail _ (.head _)));have h3:=Lib.laidMet.reads hL (n:= "unicode/utf8.acceptRanges") (.tail _ (.tail _ (.tail _ (.head _))));obtain⟨g4,t4,cs4,f4,p4,hg4,ht4,hv4,hd4⟩:=Lib.laidMet.reads hL (n:= "limner/regs.signs") (.tail _ (.tail _ (.tail _ (.tail _ (.tail _ (.head _))))));have h5:=Lib.laidMet.reads hL (n:= "limner/rules.table") (.tail _ (.tail _ (.tail _ (.tail _ (.tail _ (.tail _ (.head _)))))));have h6:=Lib.laidMet.reads hL (n:= "unicode/utf8.first") (.tail _ (.tail _ (.tail _ (.tail _ (.tail _ (.tail _ (.tail _ (.head _))))))));have h6':Lib.VarReads Tryz.prog W "unicode/utf8.first" Lib.firstData:=by rw[←first_eq];exact h6
 rw[accept_data] at h3;rw[table_data] at h5
 exact⟨⟨_,Nat.le_refl _,signs_of hg4 ht4 hv4 hd4⟩,tens_of hg2 ht2 hv2 hd2,rules_of h5,utf8H_of h6' h3,
  int_of_shape (t:=3) (k:=.i64) (zero:= #[.int .i64 0]) hS (by decide +kernel) (by kernel_rfl) rfl (by kernel_rfl) (by kernel_rfl) Tryz.underlying3⟩
noncomputable def lexW (os:Os):World:=(World.doorLaid Tryz.prog 4000 os).layVars Tryz.prog (Rows.completeOfRow.laid.filter fun x=>["unicode/utf8.first"].contains x.1)
theorem lexW_os (os:Os):(lexW os).os=os:=by unfold lexW;rw[World.layVars_os];rfl
noncomputable def lexB (os:Os):List Nat:=(List.range (World.doorLaid Tryz.prog 4000 os).heap.size).filter fun x=>x !=2
theorem lex_met (os:Os) (args:Array Value):laidMetH Tryz.prog Rows.completeOfRow.laid ((lexW os).forCall (fun _ _=>0) ⟨#[],args,[]⟩).memory:=by
 rw[MakeChecks.laidMetH_plain _ _ _ (by kernel_rfl)]
 have h:laidMet Tryz.prog Rows.completeOfRow.laid (lexW os) :=
  laidMet_layVars (w0:=World.doorLaid Tryz.prog 4000 os) ["unicode/utf8.first"] (lexB os) rfl (by kernel_rfl) (by kernel_rfl)
   (LaidIn.of_run (lexB os) 8 (by kernel_rfl) (by kernel_rfl) (by kernel_rfl) (by kernel_rfl))
 exact h.of_heap (by simp[World.memory,World.forCall,Input.heap])
end
end Go.Proofs.YtfegacfjgjaghaaGreatDoor
namespace Go.Lw
open Go.RowKit
section
variable {P:Program}{ρ:Env}{h:Heap}{dst:Option Nat}{ty:TypeId}{pos:String}{after:Array Edge}{guard:Option (Nat×Bool)}
theorem OpP.geqStr {t yt:TypeId}{x y:Operand}{a b:ByteArray}(hx:opd ρ x=some (.string a)) (hy:opd ρ y=some (.string b)) :
 OpP P ⟨dst,.binOp .geq t x y yt,ty,pos,after,guard⟩ ρ h (.bool (!(Op.bytesLess a.data.toList b.data.toList))):=by
 intro _ B w' w hf _;simp[execOp,eqGuard,binOp,Op.stringOp,hf.eval hx,hf.eval hy,ByteArray.toList_eq]
end
end Go.Lw
namespace Go.Proofs.YtfegacfjgjaghaaGreatDoor
open Go Go.Lw
set_option maxRecDepth 20000
section
variable {h:Heap}
abbrev encT (x:By):Value:=.string (bs x)
theorem pre_take {p s:By}(h:p.length≤s.length):decide (s.take p.length=p)=preB p s:=by
 rw[Bool.eq_iff_iff,decide_eq_true_iff,preB_iff,List.prefix_iff_eq_take];exact eq_comm
theorem pre_short {p s:By}(h:s.length<p.length):preB p s=false:=by
 rw[Bool.eq_false_iff];intro q;have:=(preB_iff.1 q).length_le;omega
theorem hp0_calls (s p:By):CallsH Tryz.prog 53 #[.string (bs s),.string (bs p)] h (Ret fun r h'=>r= .bool (preB p s)∧h'=h):=by
 have hz:=bs_size s;have hp:=bs_size p;refine CallsH.of Tryz.func53 rfl rfl ?_;refine xrd Tryz.func53 1 [0,1,4] rfl ?_;refine G.seq rfl ?_;refine G.regTo1 [(4,.bool (preB p s))] [(0,_),(1,_)] ⟨rfl,rfl,trivial⟩ Tryz.func53 rfl ?_ ?_
 · refine xqp 1 rfl rfl (OpP.lenString Tryz.underlying9 rfl) ?_;refine xqp 1 rfl rfl (OpP.lenString Tryz.underlying9 rfl) ?_;refine xqm 2 rfl ?_;refine RW.split (d:=10) rfl (fun c=>?_) (fun c=>?_)
   · have c:=of_decide_eq_true c;have hpt:=pre_take (p:=p) (s:=s) (by omega);refine xqp 2 rfl rfl (OpP.lenString Tryz.underlying9 rfl) ?_;refine xp rfl (OpP.sliceStrHi Tryz.underlying9 rfl rfl p.length (by omega) (by omega)) ?_;rw[bs_part s 0 p.length (Nat.zero_le _),List.drop_zero];refine xqp 1 rfl rfl (OpP.eqlStr rfl rfl) ?_;refine xqm 2 rfl ?_;refine RW.done rfl ?_;exact⟨rfl,at_bool rfl (by rw[bs_eq];exact hpt),rfl,rfl,trivial⟩
   · have c:=of_decide_eq_false c;refine xqm 8 rfl ?_;refine RW.done rfl ?_;exact⟨rfl,at_bool rfl (by rw[pre_short (by omega)]),rfl,rfl,trivial⟩
 · refine G.ret Tryz.func53 rfl rfl ?_;exact⟨_,rfl,rfl,rfl⟩
theorem hp_calls (s p:By):CallsH Tryz.prog 28 #[.string (bs s),.string (bs p)] h (Ret fun r h'=>r= .bool (preB p s)∧h'=h):=by
 refine CallsH.of Tryz.func28 rfl rfl ?_;refine xrd Tryz.func28 1 [0,1,4] rfl ?_;refine xra Tryz.func28 2 rfl ?_;refine xo rfl (OpX.call (vs:=[_,_]) Tryz.func53 rfl H.nm53 rfl (CallsH.toX (hp0_calls s p))) ?_;rintro _ h ⟨rfl,rfl⟩;refine xqd 1 [0,1,4] rfl ?_;refine G.ret Tryz.func28 rfl rfl ?_;exact⟨_,rfl,rfl,rfl⟩
def greatB (l:List By):Bool:=l.any (fun x=>decide (100<x.length)) ||decide (20<l.length)
theorem great_not {l:List By}(h:greatB l=false):(∀x∈l,x.length≤100)∧l.length≤20:=by
 unfold greatB at h;rw[Bool.or_eq_false_iff] at h;refine⟨fun x hx=>Nat.not_lt.1 fun q=>?_,Nat.not_lt.1 (of_decide_eq_false h.2)⟩;have:=List.any_eq_false.1 h.1 x hx;simp only[decide_eq_true_eq] at this;exact this q
theorem great_calls {v:Value}{O:Nat→Prop}{xs:List By}(hv:SlR eBy h O v xs) :
 CallsH Tryz.prog 6 #[v] h (Ret fun r h'=>r= .bool (greatB xs)∧h'=h):=by
 obtain⟨va,vn,vc,rfl,hvs⟩:=hv.open;have hxl:xs.length=vn:=hvs.len;have hvm:=hvs.cap;have hvc:=hvs.le;simp only[maxLen] at hvm;refine CallsH.of Tryz.func6 rfl rfl ?_;refine xrd Tryz.func6 1 [0,2] rfl ?_;refine G.seq rfl ?_;refine xrd Tryz.func6 1 [0,2,3] rfl ?_;refine G.block rfl rfl ?_;refine G.loop (σ:=Nat) (fun i=>[(0,.slice va vn vc),(3,.int .i64 (i:Nat))]) (fun i h'=>h'=h∧i≤vn∧(xs.take i).any (fun x=>decide (100<x.length))=false) (fun i=>vn-i) (0) rfl ⟨rfl,rfl,trivial⟩ ⟨rfl,Nat.zero_le _,by simp⟩ ?_;rintro i g ⟨rfl,hi,hin⟩ ih;refine G.seq rfl ?_;refine xra Tryz.func6 2 rfl ?_;refine xp rfl (OpP.lenSlice Tryz.underlying22 rfl) ?_;refine xqd 1 [0,3,7] rfl ?_;refine G.ite rfl rfl (fun hlt=>?_) (fun hlt=>?_)
 · have hlt':i<vn:=by omega
   obtain⟨b,o,x,ha,_,hx,hc⟩:=hvs.at hlt';have hz:=bs_size x;refine G.skip rfl ?_;refine G.seq rfl ?_;refine G.block rfl rfl ?_;refine xra Tryz.func6 2 rfl ?_;refine xp rfl (OpP.indexSlice Tryz.underlying22 H.sz9 rfl rfl i rfl ha (by omega)) ?_;refine xp rfl (OpP.load H.ag9 rfl hc) ?_;refine xp rfl (OpP.lenString Tryz.underlying9 rfl) ?_;refine xqd 1 [0,3,7,15] rfl ?_;refine G.ite rfl rfl (fun hg=>?_) (fun hg=>?_)
   · refine xrd Tryz.func6 1 [0,2,3,7,15] rfl ?_;refine G.ret Tryz.func6 rfl rfl ?_;have:xs.any (fun x=>decide (100<x.length))=true:=List.any_eq_true.2 ⟨x,List.mem_of_getElem? hx,decide_eq_true (by omega)⟩;exact⟨_,rfl,by unfold greatB;rw[this];rfl,rfl⟩
   · refine G.skip rfl ?_;refine G.blkEnd ?_;refine G.reg Tryz.func6 rfl ?_;refine xqp 1 rfl rfl (OpP.add64 rfl rfl ⟨by omega,by omega⟩) ?_;refine xqd 1 [0,3,7,15] rfl ?_;exact ih (i+1) _ _ ⟨rfl,rfl,trivial⟩ ⟨rfl,by omega,by rw[List.take_add_one,hx,List.any_append,hin];simp;omega⟩ (by omega)
 · have hie:xs.take i=xs:=List.take_of_length_le (by omega);rw[hie] at hin;refine G.exit rfl rfl ?_;refine xra Tryz.func6 1 rfl ?_;refine xp rfl (OpP.lenSlice Tryz.underlying22 rfl) ?_;refine xqd 2 [0,2,3,7] rfl ?_;refine G.ret Tryz.func6 rfl rfl ?_;exact⟨_,rfl,by unfold greatB;rw[hin,Bool.false_or,hxl];exact congrArg Value.bool (by rw[decide_eq_decide];omega),rfl⟩
end
end Go.Proofs.YtfegacfjgjaghaaGreatDoor
namespace Go.Lw
section
variable {P:Program}{ρ:Env}{h:Heap}{dst:Option Nat}{ty:TypeId}{pos:String}{after:Array Edge}{guard:Option (Nat×Bool)}{X:List PanicEntry→Heap→Prop}
theorem OpX.buildEmpty {t e:TypeId}{size bytes:Nat}(ht:P.underlying t=some (.slice e)) (he:ElemT P e size bytes) :
 OpX P ⟨dst,.buildSlice t 0 #[],ty,pos,after,guard⟩ ρ h (fun u g=>u= .slice (some ⟨h.size,0,none⟩) 0 0∧g=h.push (.cells #[] e)) X :=
 OpX.buildSlice (vs:=[]) (cells:= #[]) ht he rfl (by omega) (fun z _=>by simp[Instr.fill])
end
theorem OwnH.empty (h:Heap) (t:TypeId) (size base:Nat) (hb:base≤h.size):OwnH (h.push (.cells #[] t)) base t size (.slice (some ⟨h.size,0,none⟩) 0 0) 0 [] :=
 ⟨by simp,.inr ⟨h.size,0,#[],rfl,hb,by simp,Nat.le_refl _,by simp[maxLen],by simp,by simp⟩⟩
end Go.Lw
namespace Go.Lw
theorem SlR.open_slice {α:Type}{e:Elt α}{h:Heap}{O:Nat→Prop}{oa:Option Addr}{n c:Nat}{xs:List α}(k:SlR e h O (.slice oa n c) xs):Sl e h O oa n c xs:=by
 obtain⟨oa',n',c',hv,k'⟩:=k.open;cases hv;exact k'
section
variable {P:Program}{ρ:Env}{h:Heap}{dst:Option Nat}{ty:TypeId}{pos:String}{after:Array Edge}{guard:Option (Nat×Bool)}{X:List PanicEntry→Heap→Prop}
end
end Go.Lw
