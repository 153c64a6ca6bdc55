/- What the proof of the statement leans on (part 8). -/
import Derived.Lib.ConvBytes
import Derived.Lib.AtoiErrMem
import Derived.Laws.Runes
import Derived.Test.YtckomlgchbkekaaGreatDoorQg

namespace Go.Lw
open Go.RowKit
section
variable {P:Program}{ρ:Env}{h:ai}{dst:Option Nat}{ty:TypeId}{pos:String}{after:Array Edge}{guard:Option (Nat×Bool)}{X:List PanicEntry->ai->Prop}
theorem an.K3 {s d:TypeId}{x:Operand}{k:IntKind}{n:Int}{u:TypeDesc}(hs:P.underlying s=some u) (hd:P.underlying d=some .string) (hx:aT ρ x=some (.int k n)) :
 an P ⟨dst,.convert s d x,ty,pos,after,guard⟩ ρ h (.string (Utf8.encode n)):=by
 intro _ B a w hf ha;simp only[execOp,hf.eval hx,Sem.run_bind,run_convert_int_string w s d k n (by rw[hs];rfl) hd,Result.andThen_ok,Sem.run_pure]
theorem an.iR {t e:TypeId}{x:Operand}{b o m sz:Nat}(hu:P.underlying t=some (.array m e)) (hs:bE P e=some sz) (hx:aT ρ x=some (.pointer (some ⟨b,o,none⟩))) :
 an P ⟨dst,.slice t x none none none,ty,pos,after,guard⟩ ρ h (.slice (aP (some ⟨b,o,none⟩) 0 sz m) (m-0) (m-0)):=by
 intro _ B a w hf _;simp[execOp,Instr.sliceAt,Instr.sliceBounds,Instr.sliceBound,run_underlying hu,hf.eval hx,run_sizeOf hs,aP,Instr.sureAddr];split<;>simp
end
end Go.Lw
namespace Go.Lw
section
variable {P:Program}{ρ:Env}{h:ai}{dst:Option Nat}{ty:TypeId}{pos:String}{after:Array Edge}{guard:Option (Nat×Bool)}{X:List PanicEntry->ai->Prop}
theorem aH.C8 {t e:TypeId}{size bytes:Nat}(ht:P.underlying t=some (.slice e)) (he:cD P e size bytes) :
 aH P ⟨dst,.buildSlice t 0 #[],ty,pos,after,guard⟩ ρ h (fun u g=>u= .slice (some ⟨h.size,0,none⟩) 0 0/\g=h.push (.cells #[] e)) X :=
 aH.buildSlice (vs:=[]) (cells:= #[]) ht he rfl (by omega) (fun z _=>by simp[Instr.fill])
end
theorem uk (h:ai) (t:TypeId) (size base:Nat) (hb:base<=h.size):ay (h.push (.cells #[] t)) base t size (.slice (some ⟨h.size,0,none⟩) 0 0) 0 [] :=
 ⟨by simp,.inr ⟨h.size,0,#[],rfl,hb,by simp,Nat.le_refl _,by simp[maxLen],by simp,by simp⟩⟩
theorem Sl.MM {α:Type}{sz:Nat}{pos:0<sz}{enc:α->List Value} {hl:∀x,(enc x).length=sz} {h1:∀x,∀v∈enc x,v.oneCell'=true}{h:ai}{O:Nat->Prop}{oa:Option Addr}{n c:Nat}{xs:List α}(k:Sl (.record sz pos enc hl h1) h O oa n c xs) :
 n=0\/∃b o,oa=some ⟨b,o,none⟩/\rowAt h b o (xs.flatMap enc):=by
 rcases Nat.eq_zero_or_pos n with h0|h0
 · exact .inl h0
 · obtain⟨b,o,x,ha,_,_,_⟩:=k.fC h0;refine .inr ⟨b,o,ha,fun j v hv=>?_⟩;have hj:j<(xs.flatMap enc).length:=(List.getElem?_eq_some_iff.1 hv).1;rw[dz hl,k.len] at hj;have hjn:j / sz<n:=Nat.div_lt_of_lt_mul (by rw[Nat.mul_comm];exact hj);obtain⟨b',o',x',ha',_,hx',hr'⟩:=k.fC hjn;rw[ha] at ha';cases ha';have hm:j%sz<(enc x').length:=by rw[hl];exact Nat.mod_lt _ pos
   have h2:=dG hl xs (j / sz) x' (j%sz) _ hx' (List.getElem?_eq_getElem hm);rw[Nat.div_add_mod' j sz,hv] at h2;obtain rfl:=Option.some.inj h2;have h3:=hr' (j%sz) _ (List.getElem?_eq_getElem hm);rw[Nat.add_assoc,Nat.div_add_mod' j sz] at h3;exact h3
end Go.Lw
namespace Go.Lw
section
variable {α:Type}{h:ai}{O:Nat->Prop}
theorem aR.open_slice {e:fS α}{oa:Option Addr}{n c:Nat}{xs:List α}(k:aR e h O (.slice oa n c) xs):Sl e h O oa n c xs:=by
 obtain⟨oa',n',c',hv,k'⟩:=k.open;cases hv;exact k'
theorem ay.KI {sz:Nat}{pos:0<sz}{enc:α->List Value} {hl:∀x,(enc x).length=sz} {h1:∀x,∀v∈enc x,v.oneCell'=true}{base:Nat}{t:TypeId}{v:Value}{n:Nat}{xs:List α}(k:ay h base t sz v n (xs.flatMap enc)) (ho:∀b,v.ownBlock=some b->¬O b):aR (.record sz pos enc hl h1) h O v xs:=by
 have k0:aR (.record sz pos enc hl h1) h (fun _=>False) v xs:=ay.Gc k (fun _ _ k=>k);obtain⟨oa,n',c',hv,hl',hnc',hc',hget⟩:=k0;refine⟨oa,n',c',hv,hl',hnc',hc',fun i x hx=>?_⟩;obtain⟨b,o,cs,h2,_,h3,h4⟩:=hget i x hx;refine⟨b,o,cs,h2,?_,h3,h4⟩
 rcases k.2 with ⟨rfl,_⟩|⟨g,cap,cur,rfl,_⟩
 · cases hv;cases h2
 · cases hv;cases h2;exact ho _ rfl
section
variable {P:Program}{ρ:Env}{h:ai}{dst:Option Nat}{ty:TypeId}{pos:String}{after:Array Edge}{guard:Option (Nat×Bool)}{X:List PanicEntry->ai->Prop}
end
theorem aR.tP {e:fS α}{h':ai}{b:Nat}{v:Value}{xs:List α}(k:aR e h (fun x=>x=b\/O x) v xs) (x:Ext (fun x=>x=b) h h'):aR e h' (fun x=>x=b\/O x) v xs:=k.mv (Mv.dI x fun _ _ ho=>⟨fun q=>ho (.inl q),ho⟩)
end
end Go.Lw
namespace Go.Lw
open Go.RowKit
section
variable {P:Program}{ρ:Env}{h:ai}{dst:Option Nat}{ty:TypeId}{pos:String}{after:Array Edge}{guard:Option (Nat×Bool)}
end
theorem Ext.Pv {M N:Nat->Prop}{a b c:ai}(e:Ext M a b) (x:Ext N b c) (hn:∀i,i<a.size->N i->M i):Ext M a c :=
 ⟨Nat.le_trans e.size x.size,fun i hi hm=>(x.block i (Nat.lt_of_lt_of_le hi e.size) (fun q=>hm (hn i hi q))).trans (e.block i hi hm)⟩
section
variable {P:Program}{ρ:Env}{h:ai}{dst:Option Nat}{ty:TypeId}{pos:String}{after:Array Edge}{guard:Option (Nat×Bool)}
end
end Go.Lw
namespace Go.Lw
structure Oh (P:Program) (g:FuncId):Prop where
 ok:∃fn,P.funcs[g]? =some fn/\fn.body.isSome=true/\(fn.name == "runtime.NumGoroutine")=false
section
variable {P:Program}{ρ:Env}{h:ai}{dst:Option Nat}{ty:TypeId}{pos:String}{after:Array Edge}{guard:Option (Nat×Bool)}
theorem aH.Kr {x:Operand}{g:FuncId}{caps:List Value}{xs:Array Operand}{ts:Array TypeId}{vs:List Value}{Φ:Value->ai->Prop}{X:List PanicEntry->ai->Prop}(hx:aT ρ x=some (.func (.func g) #[] caps.toArray))
 (hf0:Oh P g) (hvs:xs.toList.map (aT ρ)=vs.map some) (k:aj P g (vs++caps).toArray h (fun e h'=>match e with|.returned v=>Φ v h'|.panicked c=>X c h'|.outgrown=>False)) :
 aH P ⟨dst,.call ⟨.value x,xs,ts⟩,ty,pos,after,guard⟩ ρ h Φ X:=by
 obtain⟨fn,hfn,hb,hnm⟩:=hf0.ok;intro n B a w hf ha next Q hn hq
 have hargs:xs.map a.eval=vs.toArray:=by
  apply Array.ext'
  simp only[Array.toList_map]
  have:∀(l:List Operand) (us:List Value),l.map (aT ρ)=us.map some->l.map a.eval=us:=by
   intro l
   induction l with
   |nil=>intro us hu;cases us<;>simp_all
   |cons x r ih =>
    intro us hu;cases us with
    |nil=>simp at hu
    |cons u us =>
     simp only[List.map_cons,List.cons.injEq] at hu ⊢;exact⟨hf.eval hu.1,ih us hu.2⟩
  exact this _ _ hvs
 have hrun:(execOp a.eval ⟨dst,.call ⟨.value x,xs,ts⟩,ty,pos,after,guard⟩).run P w= .ok (.enter g (vs++caps).toArray) w:=by
  have hb':fn.body≠none:=by intro hbb;simp[hbb] at hb
  have hnm':¬fn.name= "runtime.NumGoroutine" :=by simpa using hnm
  simp[execOp,resolve,hf.eval hx,Deferred.ofValue,invoke,callFunc,hfn,hnm',hb',hargs]
 unfold Oper.wp;rw[hrun];refine(k B w ha).mono fun e w' ⟨h',ha',hr⟩=>?_
 cases e with
 |returned v=>exact hn v h' w' ha' hr
 |panicked c=>exact hq c h' w' ha' hr
 |outgrown=>exact hr.elim
end
end Go.Lw
