/- What the proof of the statement leans on (part 18). -/
import GoSem.Core.Utf8
import Derived.Deep.Fields
import Derived.Laws.MakeOwn
import Derived.Test.YtdihgdeciopfpaaGreatDoorQq

namespace Go.Lw
open Go.RowKit
section
variable {k p:Nat}{s:ByteArray}{x:Operand}
variable {P:Program}{ρ:Env}{h:aj}{X:List PanicEntry->aj->Prop}{dst:Option Nat}{ty:TypeId}{pos:String}{after:Array Edge}{guard:Option (Nat×Bool)}
def gi (h:aj) (k:Nat) (s:ByteArray) (p:Nat):Prop:=h[k]? =some (.stringIter s p)
theorem gi.lt (i:gi h k s p):k<h.size:=(Array.getElem?_eq_some_iff.1 i).1
theorem gi.ext {M:Nat->Prop}{h':aj}(i:gi h k s p) (e:Ext M h h') (hm:¬M k):gi h' k s p:=(e.block k i.lt hm).trans i
theorem aB.ve {t:TypeId}(ht:P.underlying t=some .string) (hx:aU ρ x=some (.string s)) :
 aB P ⟨dst,.range t x,ty,pos,after,guard⟩ ρ h (fun u g=>u= .pointer (some ⟨h.size,0,none⟩)/\gi g h.size s 0/\aq h g/\g.size=h.size+1) X:=by
 have k:aB P ⟨dst,.range t x,ty,pos,after,guard⟩ ρ h (fun u g=>u= .pointer (some ⟨h.size,0,none⟩)/\g=h.push (.stringIter s 0)) X:=by
  refine aB.vj fun n B a w hf ha=>⟨{ w with heap:=w.heap.push (.stringIter s 0) },?_,?_⟩
  · simp[execOp,Instr.range,run_underlying ht,hf.eval hx,ha.heap,newObj,Sem.run]
  · rw[ha.heap];exact ha.qd _
 refine k.mono (fun u g ⟨h1,h2⟩=>⟨h1,?_⟩) (fun _ _ h=>h);subst h2;refine⟨by simp[gi],⟨by simp,fun b hb _=>?_⟩,by simp⟩;rw[Array.getElem?_push,if_neg (by omega)]
theorem aB.AK (hx:aU ρ x=some (.pointer (some ⟨k,0,none⟩))) (hI:gi h k s p) (hp:p<s.size) :
 aB P ⟨dst,.next x true,ty,pos,after,guard⟩ ρ h (fun u g=>u= .tuple #[.bool true,.int .i64 p,.int .i32 (Utf8.decode s p).1]/\gi g k s (p+(Utf8.decode s p).2)/\Ext (fun b=>b=k) h g/\g.size=h.size) X:=by
 have q:aB P ⟨dst,.next x true,ty,pos,after,guard⟩ ρ h (fun u g=>u= .tuple #[.bool true,.int .i64 p,.int .i32 (Utf8.decode s p).1]/\g=h.setIfInBounds k (.stringIter s (p+(Utf8.decode s p).2))) X:=by
  refine aB.vj fun n B a w hf ha=>⟨{ w with heap:=w.heap.setIfInBounds k (.stringIter s (p+(Utf8.decode s p).2)) },?_,?_⟩
  · have hI':w.heap[k]? =some (.stringIter s p):=by rw[ha.heap];exact hI
    simp[execOp,Instr.next,hf.eval hx,getObj,setObj,Sem.run,hI',hp,goInt]
  · rw[ha.heap];exact ha.qd _
 refine q.mono (fun u g ⟨h1,h2⟩=>⟨h1,?_⟩) (fun _ _ h=>h);subst h2;have hs:=yZ h k (.stringIter s (p+(Utf8.decode s p).2));refine⟨?_,hs.1,hs.2⟩;unfold gi;rw[Array.getElem?_setIfInBounds,if_pos rfl,if_pos hI.lt]
theorem aB.AL (hx:aU ρ x=some (.pointer (some ⟨k,0,none⟩))) (hI:gi h k s p) (hp:¬p<s.size) :
 aB P ⟨dst,.next x true,ty,pos,after,guard⟩ ρ h (fun u g=>u= .tuple #[.bool false]/\g=h) X:=by
 refine aB.vj fun n B a w hf ha=>⟨w,?_,ha⟩
 have hI':w.heap[k]? =some (.stringIter s p):=by rw[ha.heap];exact hI
 simp[execOp,Instr.next,hf.eval hx,getObj,Sem.run,hI',hp]
section
variable {n:Nat}{ops:Array Oper}{M:Nat->Prop}{keeps:Nat->Bool}{fuel:Nat}{listed:Array Bool}{N:Env->aj->Prop}
end
end
end Go.Lw
namespace Go.Lw
open Go.ChangeShapes Go.WideShapes Go.ChangeAt Go.RowKit
variable {H:Type}{enc:TypeId×Value->H}{P:Program}
theorem Iy {W:World}{base:Nat}{t:TypeId}{fs:Array Field}{v:Value}{d:DataW H}{p:List MemPlace}{sp:Nat->Bool}{held:Bool}(ht:P.underlying t=some (.struct fs))
 (hone:∀(i:Nat) (f:Field),fs[i]? =some f->f.offset=i/\P.cellsOf f.type=1) (hv:Value.okWide P W .any base t v) (h:DataW.Trod enc P W 0 sp held t v d p) :
 ∃cs n,v= .agg cs/\cs.size=P.cellsOf t/\∀(i:Nat) (f:Field) (u:Value),fs[i]? =some f->cs[i]? =some u->∃y,DataW.trod enc P W 0 sp held n f.type [u]=some y:=by
 unfold Value.okWide at hv;rw[ht] at hv;obtain⟨cs,rfl,hs,_⟩:=hv;obtain⟨fuel,hf⟩:=h;obtain⟨xs,k,_,_,hcl,hxl,hfl⟩:=DataW.trod_struct ht hf;refine⟨cs,k,rfl,hs,fun j f u hj hu=>?_⟩;have g:=hfl j f hj;obtain⟨ho,hc⟩:=hone j f hj;have hjs:j<fs.size:=(Array.getElem?_eq_some_iff.1 hj).1;have hu':cs.toList[j]? =some u:=by rw[Array.getElem?_toList];exact hu
 have hcl':(Value.agg cs).cells.toList=cs.toList:=rfl;have hjl:j<cs.toList.length:=(List.getElem?_eq_some_iff.1 hu').1
 have hd:((Value.agg cs).cells.toList.drop f.offset).take (P.cellsOf f.type)=[u]:=by
  rw[hcl',ho,hc,List.drop_eq_getElem_cons hjl];have:cs.toList[j]=u:=by rw[List.getElem?_eq_getElem hjl] at hu';exact Option.some.inj hu'
  simp[this]
 rw[hd,List.getElem?_eq_getElem (by omega)] at g;exact⟨_,g⟩
end Go.Lw
namespace Go.Lw
section
variable {t e:TypeId}{x y:Operand}{oa:Option Addr}{n c bytes:Nat}
theorem add_zero' (a:Addr) (n:Nat):a.add (0*n)=a:=by simp[Addr.add]
theorem iR (oa:Option Addr) (sz m:Nat):bu oa 0 sz m=oa:=by
 unfold bu;split
 · rfl
 · cases oa with
   |none=>rfl
   |some a=>rw[Option.map_some,add_zero']
section
variable {P:Program}{ρ:Env}{h:aj}{dst:Option Nat}{ty:TypeId}{pos:String}{after:Array Edge}{guard:Option (Nat×Bool)}{X:List PanicEntry->aj->Prop}
theorem ai.gV {hi mx:Operand}{sz:Nat}{k k':IntKind}{jl ml:Int}(hu:P.underlying t=some (.slice e)) (hs:bU P e=some sz) (hx:aU ρ x=some (.slice oa n c)) (hh:aU ρ hi=some (.int k jl)) (j:Nat) (hjl:jl=j) (hm:aU ρ mx=some (.int k' ml)) (m:Nat) (hml:ml=m) (hj:j<=m) (hmc:m<=c) :
 ai P ⟨dst,.slice t x none (some hi) (some mx),ty,pos,after,guard⟩ ρ h (.slice oa j m):=by
 intro _ B a w hf _;subst hjl;subst hml;have h0:oa.map (fun x=>x.add 0)=oa:=by cases oa<;>simp[Addr.add]
 simp[execOp,Instr.sliceAt,Instr.slice,Instr.sliceBounds,Instr.sliceBound,run_underlying hu,asIntOf,hf.eval hx,hf.eval hh,hf.eval hm,hj,hmc,run_sizeOf hs,h0]
theorem aB.wT {size:Nat}{xs news:List Value}{ob:Option Addr}{m d:Nat}(ht:P.underlying t=some (.slice e)) (he:dn P e size bytes)
 (hx:aU ρ x=some (.slice oa n c)) (hy:aU ρ y=some (.slice ob m d)) (hl:xs.length=n*size) (ho:n=0\/∃b o,oa=some ⟨b,o,none⟩/\rowAt h b o xs) (hc:c=n)
 (hl2:news.length=m*size) (hnews:∃b o,ob=some ⟨b,o,none⟩/\rowAt h b o news) (hm:0<m) (h63:n+m<=maxLen) (hbytes:(n+m)*bytes<=140737488355328) :
 aB P ⟨dst,.call ⟨.builtin .append,#[x,y],#[t,t]⟩,ty,pos,after,guard⟩ ρ h (fun v' h'=>az h' h.size e size v' (n+m) (xs++news)/\aq h h') X:=by
 intro nn B a w hf ha next Q hn _
 obtain⟨b2,o2,rfl,hrow2⟩:=hnews;obtain⟨⟨i,z,hi,hz,rfl,rfl,hzs⟩,hsz⟩:=he;have hsmall:n+m<=9223372036854775807:=by simp only[maxLen] at h63;omega
 have hlen:(xs++news).length=(n+m)*i.size:=by rw[List.length_append,hl,hl2,Nat.add_mul]
 have hnw:∀j u,news[j]? =some u->w.cell? ((⟨b2,o2,none⟩:Addr).add j)=some u:=fun j u hu=>by rw[Addr.add_mid,ha.cell];exact hrow2 j u hu
 obtain⟨old,ho2,e0⟩:∃old,old<n+m/\(Builtin.append_ #[t,t] ty #[.slice oa n c,.slice (some ⟨b2,o2,none⟩) m d]).run P w= .ok (.slice (some ⟨w.heap.size,0,none⟩) (n+m) (grownCap w (n+m) old e)) (w.drew.alloc (.cells (xs.toArray++news.toArray++Builtin.zeroCells z.cells (grownCap w (n+m) old e-(n+m))) e)):=by
  subst hc
  have ho2:(oa=none/\c=0)\/∃a,oa=some a/\∀j u,xs[j]? =some u->w.cell? (a.add j)=some u:=by
   rcases ho with rfl|⟨b1,o1,rfl,hrow1⟩
   · cases oa with
     |none=>exact .inl ⟨rfl,rfl⟩
     |some a=>exact .inr ⟨a,rfl,fun j u hu=>by
      have hx0:xs=[]:=List.eq_nil_of_length_eq_zero (by simpa using hl);subst hx0;simp at hu⟩
   · exact .inr ⟨_,rfl,fun j u hu=>by rw[Addr.add_mid,ha.cell];exact hrow1 j u hu⟩
  rcases ho2 with ⟨rfl,rfl⟩|⟨a1,rfl,hold⟩
  · have hx0:xs=[]:=List.eq_nil_of_length_eq_zero (by simpa using hl);subst hx0;have hr:=run_append_nil (P:=P) w t ty e i z ht hi hz ⟨b2,o2,none⟩ m d news hl2 hnw (by omega) (by omega) (by simp only[Nat.zero_add] at hbytes;omega);exact⟨0,by omega,by simpa using hr⟩
  · exact⟨c,by omega,run_append_grow (P:=P) w t ty e i z ht hi hz a1 c c xs hl hold ⟨b2,o2,none⟩ m d news hl2 hnw (by omega) (by omega) (growslice_fits (by omega) hbytes)⟩
 have hge:=grownCap_ge w (n+m) old e;have hcm:grownCap w (n+m) old e<=maxLen:=grownCap_le_maxLen w (n+m) old e h63
 have hown:(w.drew.alloc (.cells (xs.toArray++news.toArray++Builtin.zeroCells z.cells (grownCap w (n+m) old e-(n+m))) e)).ownsRow w.heap.size e i.size (.slice (some ⟨w.heap.size,0,none⟩) (n+m) (grownCap w (n+m) old e)) (n+m) (xs++news):=by
  refine⟨hlen,.inr ⟨w.heap.size,_,_,rfl,Nat.le_refl _,heap_alloc_new w.drew _,hge,hcm,?_,?_⟩⟩
  · simp only[Array.size_append,List.size_toArray,size_zeroCells,hzs,hl,hl2,<-Nat.add_mul]
    congr 1
    omega
  · simp only[Array.toList_append,List.append_assoc];rw[<-List.append_assoc,<-hlen];exact List.take_left
 have hgr:w.grownBy (w.drew.alloc (.cells (xs.toArray++news.toArray++Builtin.zeroCells z.cells (grownCap w (n+m) old e-(n+m))) e)) none:=⟨rfl,rfl,rfl,by simp,fun k hk _=>by first|exact heap_alloc_old w.drew _ k hk|exact heap_alloc_old w.drew _ hk⟩
 unfold Oper.wp execOp;simp only[resolve,invoke,builtin,Sem.run_bind,Sem.run_pure,Result.andThen_ok,List.map_toArray,List.map_cons,List.map_nil,hf.eval hx,hf.eval hy,e0];refine hn _ _ _ (ha.grown hgr) ⟨?_,?_⟩
 · have:=(At.own (ha.grown hgr)).1 hown
   rwa [ha.heap] at this ⊢
 · rw[<-ha.heap];exact iM (iL hgr)
theorem aB.wS {size:Nat}{d:Nat}{ob:Option Addr}(ht:P.underlying t=some (.slice e)) (he:dn P e size bytes)
 (hx:aU ρ x=some (.slice oa n c)) (hy:aU ρ y=some (.slice ob 0 d)) (hle:n<=c) :
 aB P ⟨dst,.call ⟨.builtin .append,#[x,y],#[t,t]⟩,ty,pos,after,guard⟩ ρ h (fun v' h'=>v'= .slice oa n c/\h'=h) X:=by
 intro nn B a w hf ha next Q hn _
 have hrun:(execOp a.eval ⟨dst,.call ⟨.builtin .append,#[x,y],#[t,t]⟩,ty,pos,after,guard⟩).run P w= .ok (.value (.slice oa n c)) w:=by
  obtain⟨⟨i,z,hi,hz,hsz,hby,hzs⟩,hpos⟩:=he;cases oa<;>cases ob
  · simp[execOp,resolve,invoke,builtin,hf.eval hx,hf.eval hy,Builtin.append_,run_underlying ht,sizeOf,typeInfo,hi,Builtin.lenOf,Builtin.firstCells,hle]
  · simp[execOp,resolve,invoke,builtin,hf.eval hx,hf.eval hy,Builtin.append_,run_underlying ht,sizeOf,typeInfo,hi,Builtin.lenOf,Builtin.firstCells,loadCells,loadCellsFrom,hle]
  · simp[execOp,resolve,invoke,builtin,hf.eval hx,hf.eval hy,Builtin.append_,run_underlying ht,sizeOf,typeInfo,hi,Builtin.lenOf,Builtin.firstCells,hle,storeCells]
  · simp[execOp,resolve,invoke,builtin,hf.eval hx,hf.eval hy,Builtin.append_,run_underlying ht,sizeOf,typeInfo,hi,Builtin.lenOf,Builtin.firstCells,loadCells,loadCellsFrom,hle,storeCells]
 unfold Oper.wp;rw[hrun];exact hn _ h w ha ⟨rfl,rfl⟩
end
theorem aB.Cx {P:Program}{ρ:Env}{h:aj}{dst:Option Nat}{ty:TypeId}{pos:String}{after:Array Edge}{guard:Option (Nat×Bool)}{X:List PanicEntry->aj->Prop}{sz:Nat}{kl kc:IntKind}{z:Value}
 (ht:P.underlying t=some (.slice e)) (he:dn P e sz bytes) (hz:(P.info? e).bind (·.zero)=some z) (hx:aU ρ x=some (.int kl (n:Nat))) (hy:aU ρ y=some (.int kc (n:Nat))) (hn:n*sz<=1000000) (hn2:n<=1000000) (hb:bytes<=1000) :
 aB P ⟨dst,.makeSlice t x y,ty,pos,after,guard⟩ ρ h (fun u g=>u= .slice (some ⟨h.size,0,none⟩) n n/\aH g h.size e (madeCells z.cells (n*sz)).toList/\aq h g/\g.size=h.size+1) X:=by
 obtain⟨⟨i,z',hi,hz',hsz,hby,hzs⟩,_⟩:=he;have hzz:z'=z:=by rw[hi] at hz;simpa [hz'] using hz
 subst hzz;intro nn B a w hf ha next Q hnx _
 have hmul:i.bytes*n<=1000*1000000:=Nat.mul_le_mul (by omega) hn2;have hr:=run_makeSlice (P:=P) (w:=w) t e i z' ht hi hz' kl kc (n:Int) (n:Int) (by omega) (by omega) (by rw[Int.toNat_natCast,hsz];omega) (by rw[<-Int.natCast_mul];omega) (by omega);unfold Oper.wp execOp;simp only[hf.eval hx,hf.eval hy,Sem.run_bind,Sem.run_pure,Result.andThen_ok,hr];refine hnx _ (h.push (.cells (madeCells z'.cells (n*sz)) e)) _ ⟨?_,ha.os,ha.tape,ha.output⟩ ⟨?_,?_,Ext.push _ _ _,by simp⟩
 · simp[World.alloc,ha.heap,hsz]
 · simp[ha.heap]
 · unfold aH;simp
end
end Go.Lw
namespace Go.Lw
section
variable {P:Program}{ρ:Env}{h:aj}{dst:Option Nat}{ty:TypeId}{pos:String}{after:Array Edge}{guard:Option (Nat×Bool)}
theorem ai.BW {t e:TypeId}{x lo hi mx:Operand}{oa:Option Addr}{n c sz:Nat}{k k' k'':IntKind}{il jl ml:Int}(hu:P.underlying t=some (.slice e)) (hs:bU P e=some sz) (hx:aU ρ x=some (.slice oa n c)) (hl:aU ρ lo=some (.int k il)) (i:Nat) (hil:il=i) (hh:aU ρ hi=some (.int k' jl)) (j:Nat) (hjl:jl=j) (hm:aU ρ mx=some (.int k'' ml)) (m:Nat) (hml:ml=m) (hij:i<=j) (hj:j<=m) (hmc:m<=c) :
 ai P ⟨dst,.slice t x (some lo) (some hi) (some mx),ty,pos,after,guard⟩ ρ h (.slice (bu oa i sz m) (j-i) (m-i)):=by
 intro _ B a w hf _;subst hil;subst hjl;subst hml;simp[execOp,Instr.sliceAt,Instr.slice,Instr.sliceBounds,Instr.sliceBound,run_underlying hu,asIntOf,hf.eval hx,hf.eval hl,hf.eval hh,hf.eval hm,run_sizeOf hs,hij,hj,hmc,bu]
end
end Go.Lw
namespace Go.Lw
section
variable {P:Program}{ρ:Env}{h:aj}{dst:Option Nat}{ty:TypeId}{pos:String}{after:Array Edge}{guard:Option (Nat×Bool)}
theorem ai.Hw {t xt:TypeId}{x:Operand}{v:Value}(hu:P.underlying t=some .string) (hx:aU ρ x=some (.iface t v)):ai P ⟨dst,.typeAssert x xt t false,ty,pos,after,guard⟩ ρ h v:=by
 intro n B a w hf ha;simp[execOp,Instr.typeAssert,run_underlying hu,hf.eval hx]
theorem ai.ER {t t' xt e:TypeId}{x:Operand}{v z:Value}(hu:P.underlying t=some (.pointer e)) (hz:(P.info? t).bind (·.zero)=some z) (hx:aU ρ x=some (.iface t' v)) (hne:¬t'=t):ai P ⟨dst,.typeAssert x xt t true,ty,pos,after,guard⟩ ρ h (.tuple #[z,.bool false]):=by
 intro n B a w hf ha
 obtain⟨i,hi,hz'⟩:∃i,P.info? t=some i/\i.zero=some z:=by
  cases hi:P.info? t with
  |none=>rw[hi] at hz;cases hz
  |some i=>rw[hi] at hz;exact⟨i,rfl,hz⟩
 simp[execOp,Instr.typeAssert,run_underlying hu,hf.eval hx,hne,zeroValue,typeInfo,hi,hz']
end
end Go.Lw
namespace Go.Lw
open Go.RowKit
section
variable {P:Program}{ρ:Env}{h:aj}{dst:Option Nat}{ty:TypeId}{pos:String}{after:Array Edge}{guard:Option (Nat×Bool)}{X:List PanicEntry->aj->Prop}
end
theorem sL {α:Type}{sz:Nat}:∀(css:List (List α)) (i:Nat) (cs:List α),(∀c∈css,c.length=sz)->cs.length=sz->i<css.length->(css.set i cs).flatten=css.flatten.take (i*sz)++cs++css.flatten.drop (i*sz+sz)
 | [],i,cs,_,_,hi=>by cases hi
 |c::css,0,cs,hl,hc,_=>by
  have h0:c.length=sz:=hl c (by simp);rw[List.set_cons_zero,List.flatten_cons,List.flatten_cons,Nat.zero_mul,List.take_zero,List.nil_append,Nat.zero_add,List.drop_append_of_le_length (Nat.le_of_eq h0.symm),List.drop_of_length_le (Nat.le_of_eq h0),List.nil_append]
 |c::css,i+1,cs,hl,hc,hi=>by
  have h0:c.length=sz:=hl c (by simp);have e:(i+1)*sz=c.length+i*sz:=by rw[h0,Nat.add_mul];omega
  rw[List.set_cons_succ,List.flatten_cons,List.flatten_cons,sL css i cs (fun c hc=>hl c (by simp[hc])) hc (by simpa using hi),e,List.take_length_add_append,Nat.add_assoc,List.drop_length_add_append];simp
section
variable {P:Program}{f:FuncId}{fn:Func}{k:List It}{ρ:Env}{h:aj}{R:Ending->aj->Prop}{p:List Nat}
theorem GD.B5 {b0:Nat}{vs:List Value}(hfn:P.funcs[f]? =some fn) (hk:kind (Lw.sub (ay fn) p)=4) (hm:h[b0]? =some (.deferred (some []))) (hr:fY P ρ (cu h b0 (.deferred none)) fn.results.toList vs) (hR:R (.returned (packed vs)) (cu h b0 (.deferred none))):GD P (lB b0) f fn (.code p::k) ρ h R:=by
 intro B a w hf ha b hb hkk cs
 have hstep:Go.step P (lone (b.at a ((It.code p::k).map (aL (ay fn)))) cs w)= .next (lone { b.at a ((It.code p::k).map (aL (ay fn))) with mode:=.returning } cs w):=by
  simp only[List.map_cons,aL];cases hc:Lw.sub (ay fn) p<;>simp[hc,kind] at hk
  · rename_i d;cases d<;>simp at hk
  · exact step_ret
 have htake:(Instr.takeDeferred b0).run P w= .ok [] (w.putObj b0 (.deferred none)):=run_takeDeferred (by rw[ha.heap];exact hm);have h2:=step_collected (P:=P) (fr:= { b.at a ((It.code p::k).map (aL (ay fn))) with mode:=.returning }) (cs:=cs) (by simp) (hf.nd:_=_) rfl htake;have hz:=hf.zero;exact⟨.returned (packed vs),_,_,_,ha.cu b0 _,hR,.head hstep (.one h2),hb,rfl,rfl,hkk,fn,(show P.funcs[b.fn]? =some fn by rw[hb];exact hfn),gm hz (ha.cu b0 _) hr⟩
end
end Go.Lw
