/- What the proof of the statement leans on (part 17). -/
import GoSem.Core.Utf8
import Derived.Laws.MakeOwn
import Derived.Test.YtdihgdeciopfpaaGreatDoorQp

namespace Go.Lw
open Go.RowKit
section
variable {k p:Nat}{s:ByteArray}{x:Operand}
variable {P:Program}{ρ:Env}{h:au}{X:List PanicEntry->au->Prop}{dst:Option Nat}{ty:TypeId}{pos:String}{after:Array Edge}{guard:Option (Nat×Bool)}
def eZ (h:au) (k:Nat) (s:ByteArray) (p:Nat):Prop:=h[k]? =some (.stringIter s p)
theorem eZ.lt (i:eZ h k s p):k<h.size:=(Array.getElem?_eq_some_iff.1 i).1
theorem eZ.ext {M:Nat->Prop}{h':au}(i:eZ h k s p) (e:Ext M h h') (hm:¬M k):eZ h' k s p:=(e.block k i.lt hm).trans i
theorem ax.rD {t:TypeId}(ht:P.underlying t=some .string) (hx:bE ρ x=some (.string s)) :
 ax P ⟨dst,.range t x,ty,pos,after,guard⟩ ρ h (fun u g=>u= .pointer (some ⟨h.size,0,none⟩)/\eZ g h.size s 0/\av h g/\g.size=h.size+1) X:=by
 have k:ax P ⟨dst,.range t x,ty,pos,after,guard⟩ ρ h (fun u g=>u= .pointer (some ⟨h.size,0,none⟩)/\g=h.push (.stringIter s 0)) X:=by
  refine ax.rG fun n B a w hf ha=>⟨{ w with heap:=w.heap.push (.stringIter s 0) },?_,?_⟩
  · simp[execOp,Instr.range,run_underlying ht,hf.eval hx,ha.heap,newObj,Sem.run]
  · rw[ha.heap];exact ha.nr _
 refine k.mono (fun u g ⟨h1,h2⟩=>⟨h1,?_⟩) (fun _ _ h=>h);subst h2;refine⟨by simp[eZ],⟨by simp,fun b hb _=>?_⟩,by simp⟩;rw[Array.getElem?_push,if_neg (by omega)]
theorem ax.wF (hx:bE ρ x=some (.pointer (some ⟨k,0,none⟩))) (hI:eZ h k s p) (hp:p<s.size) :
 ax P ⟨dst,.next x true,ty,pos,after,guard⟩ ρ h (fun u g=>u= .tuple #[.bool true,.int .i64 p,.int .i32 (Utf8.decode s p).1]/\eZ g k s (p+(Utf8.decode s p).2)/\Ext (fun b=>b=k) h g/\g.size=h.size) X:=by
 have q:ax P ⟨dst,.next x true,ty,pos,after,guard⟩ ρ h (fun u g=>u= .tuple #[.bool true,.int .i64 p,.int .i32 (Utf8.decode s p).1]/\g=h.setIfInBounds k (.stringIter s (p+(Utf8.decode s p).2))) X:=by
  refine ax.rG fun n B a w hf ha=>⟨{ w with heap:=w.heap.setIfInBounds k (.stringIter s (p+(Utf8.decode s p).2)) },?_,?_⟩
  · have hI':w.heap[k]? =some (.stringIter s p):=by rw[ha.heap];exact hI
    simp[execOp,Instr.next,hf.eval hx,getObj,setObj,Sem.run,hI',hp,goInt]
  · rw[ha.heap];exact ha.nr _
 refine q.mono (fun u g ⟨h1,h2⟩=>⟨h1,?_⟩) (fun _ _ h=>h);subst h2;have hs:=uP h k (.stringIter s (p+(Utf8.decode s p).2));refine⟨?_,hs.1,hs.2⟩;unfold eZ;rw[Array.getElem?_setIfInBounds,if_pos rfl,if_pos hI.lt]
theorem ax.wG (hx:bE ρ x=some (.pointer (some ⟨k,0,none⟩))) (hI:eZ h k s p) (hp:¬p<s.size) :
 ax P ⟨dst,.next x true,ty,pos,after,guard⟩ ρ h (fun u g=>u= .tuple #[.bool false]/\g=h) X:=by
 refine ax.rG fun n B a w hf ha=>⟨w,?_,ha⟩
 have hI':w.heap[k]? =some (.stringIter s p):=by rw[ha.heap];exact hI
 simp[execOp,Instr.next,hf.eval hx,getObj,Sem.run,hI',hp]
section
variable {n:Nat}{ops:Array Oper}{M:Nat->Prop}{keeps:Nat->Bool}{fuel:Nat}{listed:Array Bool}{N:Env->au->Prop}
end
end
end Go.Lw
namespace Go.Lw
open Go.RowKit
section
variable {P:Program}{ρ:Env}{h:au}{dst:Option Nat}{ty:TypeId}{pos:String}{after:Array Edge}{guard:Option (Nat×Bool)}
end
theorem Ext.ON {M N:Nat->Prop}{a b c:au}(e:Ext M a b) (x:Ext N b c) (hn:∀i,i<a.size->N i->M i):Ext M a c :=
 ⟨Nat.le_trans e.size x.size,fun i hi hm=>(x.block i (Nat.lt_of_lt_of_le hi e.size) (fun q=>hm (hn i hi q))).trans (e.block i hi hm)⟩
section
variable {P:Program}{ρ:Env}{h:au}{dst:Option Nat}{ty:TypeId}{pos:String}{after:Array Edge}{guard:Option (Nat×Bool)}
end
end Go.Lw
namespace Go.Lw
section
variable {P:Program}{ρ:Env}{h:au}{dst:Option Nat}{ty:TypeId}{pos:String}{after:Array Edge}{guard:Option (Nat×Bool)}{X:List PanicEntry->au->Prop}
theorem ax.tq {t e:TypeId}{size bytes:Nat}(ht:P.underlying t=some (.slice e)) (he:de P e size bytes) :
 ax P ⟨dst,.buildSlice t 0 #[],ty,pos,after,guard⟩ ρ h (fun u g=>u= .slice (some ⟨h.size,0,none⟩) 0 0/\g=h.push (.cells #[] e)) X :=
 ax.buildSlice (vs:=[]) (cells:= #[]) ht he rfl (by omega) (fun z _=>by simp[Instr.fill])
end
theorem tP (h:au) (t:TypeId) (size base:Nat) (hb:base<=h.size):aC (h.push (.cells #[] t)) base t size (.slice (some ⟨h.size,0,none⟩) 0 0) 0 [] :=
 ⟨by simp,.inr ⟨h.size,0,#[],rfl,hb,by simp,Nat.le_refl _,by simp[maxLen],by simp,by simp⟩⟩
theorem Sl.LB {α:Type}{sz:Nat}{pos:0<sz}{enc:α->List Value} {hl:∀x,(enc x).length=sz} {h1:∀x,∀v∈enc x,v.oneCell'=true}{h:au}{O:Nat->Prop}{oa:Option Addr}{n c:Nat}{xs:List α}(k:Sl (.record sz pos enc hl h1) h O oa n c xs) :
 n=0\/∃b o,oa=some ⟨b,o,none⟩/\rowAt h b o (xs.flatMap enc):=by
 rcases Nat.eq_zero_or_pos n with h0|h0
 · exact .inl h0
 · obtain⟨b,o,x,ha,_,_,_⟩:=k.iR h0;refine .inr ⟨b,o,ha,fun j v hv=>?_⟩;have hj:j<(xs.flatMap enc).length:=(List.getElem?_eq_some_iff.1 hv).1;rw[ec hl,k.len] at hj;have hjn:j / sz<n:=Nat.div_lt_of_lt_mul (by rw[Nat.mul_comm];exact hj);obtain⟨b',o',x',ha',_,hx',hr'⟩:=k.iR hjn;rw[ha] at ha';cases ha';have hm:j%sz<(enc x').length:=by rw[hl];exact Nat.mod_lt _ pos
   have h2:=eW hl xs (j / sz) x' (j%sz) _ hx' (List.getElem?_eq_getElem hm);rw[Nat.div_add_mod' j sz,hv] at h2;obtain rfl:=Option.some.inj h2;have h3:=hr' (j%sz) _ (List.getElem?_eq_getElem hm);rw[Nat.add_assoc,Nat.div_add_mod' j sz] at h3;exact h3
end Go.Lw
namespace Go.Lw
section
variable {α:Type}{h:au}{O:Nat->Prop}
theorem bF.open_slice {e:fF α}{oa:Option Addr}{n c:Nat}{xs:List α}(k:bF e h O (.slice oa n c) xs):Sl e h O oa n c xs:=by
 obtain⟨oa',n',c',hv,k'⟩:=k.open;cases hv;exact k'
theorem aC.Ks {sz:Nat}{pos:0<sz}{enc:α->List Value} {hl:∀x,(enc x).length=sz} {h1:∀x,∀v∈enc x,v.oneCell'=true}{base:Nat}{t:TypeId}{v:Value}{n:Nat}{xs:List α}(k:aC h base t sz v n (xs.flatMap enc)) (ho:∀b,v.ownBlock=some b->¬O b):bF (.record sz pos enc hl h1) h O v xs:=by
 have k0:bF (.record sz pos enc hl h1) h (fun _=>False) v xs:=aC.Fp k (fun _ _ k=>k);obtain⟨oa,n',c',hv,hl',hnc',hc',hget⟩:=k0;refine⟨oa,n',c',hv,hl',hnc',hc',fun i x hx=>?_⟩;obtain⟨b,o,cs,h2,_,h3,h4⟩:=hget i x hx;refine⟨b,o,cs,h2,?_,h3,h4⟩
 rcases k.2 with ⟨rfl,_⟩|⟨g,cap,cur,rfl,_⟩
 · cases hv;cases h2
 · cases hv;cases h2;exact ho _ rfl
section
variable {P:Program}{ρ:Env}{h:au}{dst:Option Nat}{ty:TypeId}{pos:String}{after:Array Edge}{guard:Option (Nat×Bool)}{X:List PanicEntry->au->Prop}
end
theorem bF.qk {e:fF α}{h':au}{b:Nat}{v:Value}{xs:List α}(k:bF e h (fun x=>x=b\/O x) v xs) (x:Ext (fun x=>x=b) h h'):bF e h' (fun x=>x=b\/O x) v xs:=k.mv (Mv.eE x fun _ _ ho=>⟨fun q=>ho (.inl q),ho⟩)
end
end Go.Lw
namespace Go.Lw
theorem add_zero' (a:Addr) (n:Nat):a.add (0*n)=a:=by simp[Addr.add]
theorem uW (oa:Option Addr) (sz m:Nat):bQ oa 0 sz m=oa:=by
 unfold bQ;split
 · rfl
 · cases oa with
   |none=>rfl
   |some a=>rw[Option.map_some,add_zero']
section
variable {P:Program}{ρ:Env}{h:au}{dst:Option Nat}{ty:TypeId}{pos:String}{after:Array Edge}{guard:Option (Nat×Bool)}{X:List PanicEntry->au->Prop}
theorem ai.ud {t e:TypeId}{x hi mx:Operand}{oa:Option Addr}{n c sz:Nat}{k k':IntKind}{jl ml:Int}(hu:P.underlying t=some (.slice e)) (hs:ck P e=some sz) (hx:bE ρ x=some (.slice oa n c)) (hh:bE ρ hi=some (.int k jl)) (j:Nat) (hjl:jl=j) (hm:bE ρ mx=some (.int k' ml)) (m:Nat) (hml:ml=m) (hj:j<=m) (hmc:m<=c) :
 ai P ⟨dst,.slice t x none (some hi) (some mx),ty,pos,after,guard⟩ ρ h (.slice oa j m):=by
 intro _ B a w hf _;subst hjl;subst hml;have h0:oa.map (fun x=>x.add 0)=oa:=by cases oa<;>simp[Addr.add]
 simp[execOp,Instr.sliceAt,Instr.slice,Instr.sliceBounds,Instr.sliceBound,run_underlying hu,asIntOf,hf.eval hx,hf.eval hh,hf.eval hm,hj,hmc,run_sizeOf hs,h0]
theorem ax.Cq {t e:TypeId}{size bytes:Nat}{x y:Operand}{n c:Nat}{xs news:List Value}{oa ob:Option Addr}{m d:Nat}(ht:P.underlying t=some (.slice e)) (he:de P e size bytes)
 (hx:bE ρ x=some (.slice oa n c)) (hy:bE ρ y=some (.slice ob m d)) (hl:xs.length=n*size) (ho:n=0\/∃b o,oa=some ⟨b,o,none⟩/\rowAt h b o xs) (hc:c=n)
 (hl2:news.length=m*size) (hnews:∃b o,ob=some ⟨b,o,none⟩/\rowAt h b o news) (hm:0<m) (h63:n+m<=maxLen) (hbytes:(n+m)*bytes<=140737488355328) :
 ax P ⟨dst,.call ⟨.builtin .append,#[x,y],#[t,t]⟩,ty,pos,after,guard⟩ ρ h (fun v' h'=>aC h' h.size e size v' (n+m) (xs++news)/\av h h') X:=by
 intro nn B a w hf ha next Q hn _
 obtain⟨b2,o2,rfl,hrow2⟩:=hnews;obtain⟨⟨i,z,hi,hz,rfl,rfl,hzs⟩,hsz⟩:=he;have hsmall:n+m<=9223372036854775807:=by simp only[maxLen] at h63;omega
 have hlen:(xs++news).length=(n+m)*i.size:=by rw[List.length_append,hl,hl2,Nat.add_mul]
 have hnw:∀j u,news[j]? =some u->w.cell? ((⟨b2,o2,none⟩:Addr).add j)=some u:=fun j u hu=>by rw[Addr.add_mid,ha.cell];exact hrow2 j u hu
 obtain⟨old,ho2,e0⟩:∃old,old<n+m/\(Builtin.append_ #[t,t] ty #[.slice oa n c,.slice (some ⟨b2,o2,none⟩) m d]).run P w= .ok (.slice (some ⟨w.heap.size,0,none⟩) (n+m) (grownCap w (n+m) old e)) (w.drew.alloc (.cells (xs.toArray++news.toArray++Builtin.zeroCells z.cells (grownCap w (n+m) old e-(n+m))) e)):=by
  subst hc
  have ho2:(oa=none/\c=0)\/∃a,oa=some a/\∀j u,xs[j]? =some u->w.cell? (a.add j)=some u:=by
   rcases ho with rfl|⟨b1,o1,rfl,hrow1⟩
   · cases oa with
     |none=>exact .inl ⟨rfl,rfl⟩
     |some a=>exact .inr ⟨a,rfl,fun j u hu=>by
      have hx0:xs=[]:=List.eq_nil_of_length_eq_zero (by simpa using hl);subst hx0;simp at hu⟩
   · exact .inr ⟨_,rfl,fun j u hu=>by rw[Addr.add_mid,ha.cell];exact hrow1 j u hu⟩
  rcases ho2 with ⟨rfl,rfl⟩|⟨a1,rfl,hold⟩
  · have hx0:xs=[]:=List.eq_nil_of_length_eq_zero (by simpa using hl);subst hx0;have hr:=run_append_nil (P:=P) w t ty e i z ht hi hz ⟨b2,o2,none⟩ m d news hl2 hnw (by omega) (by omega) (by simp only[Nat.zero_add] at hbytes;omega);exact⟨0,by omega,by simpa using hr⟩
  · exact⟨c,by omega,run_append_grow (P:=P) w t ty e i z ht hi hz a1 c c xs hl hold ⟨b2,o2,none⟩ m d news hl2 hnw (by omega) (by omega) (growslice_fits (by omega) hbytes)⟩
 have hge:=grownCap_ge w (n+m) old e;have hcm:grownCap w (n+m) old e<=maxLen:=grownCap_le_maxLen w (n+m) old e h63
 have hown:(w.drew.alloc (.cells (xs.toArray++news.toArray++Builtin.zeroCells z.cells (grownCap w (n+m) old e-(n+m))) e)).ownsRow w.heap.size e i.size (.slice (some ⟨w.heap.size,0,none⟩) (n+m) (grownCap w (n+m) old e)) (n+m) (xs++news):=by
  refine⟨hlen,.inr ⟨w.heap.size,_,_,rfl,Nat.le_refl _,heap_alloc_new w.drew _,hge,hcm,?_,?_⟩⟩
  · simp only[Array.size_append,List.size_toArray,size_zeroCells,hzs,hl,hl2,<-Nat.add_mul]
    congr 1
    omega
  · simp only[Array.toList_append,List.append_assoc];rw[<-List.append_assoc,<-hlen];exact List.take_left
 have hgr:w.grownBy (w.drew.alloc (.cells (xs.toArray++news.toArray++Builtin.zeroCells z.cells (grownCap w (n+m) old e-(n+m))) e)) none:=⟨rfl,rfl,rfl,by simp,fun k hk _=>by first|exact heap_alloc_old w.drew _ k hk|exact heap_alloc_old w.drew _ hk⟩
 unfold Oper.wp execOp;simp only[resolve,invoke,builtin,Sem.run_bind,Sem.run_pure,Result.andThen_ok,List.map_toArray,List.map_cons,List.map_nil,hf.eval hx,hf.eval hy,e0];refine hn _ _ _ (ha.grown hgr) ⟨?_,?_⟩
 · have:=(At.own (ha.grown hgr)).1 hown
   rwa [ha.heap] at this ⊢
 · rw[<-ha.heap];exact gP (gO hgr)
end
end Go.Lw
namespace Go.Lw
open Go.RowKit
section
variable {P:Program}{ρ:Env}{h:au}{dst:Option Nat}{ty:TypeId}{pos:String}{after:Array Edge}{guard:Option (Nat×Bool)}{X:List PanicEntry->au->Prop}
end
theorem pK {α:Type}{sz:Nat}:∀(css:List (List α)) (i:Nat) (cs:List α),(∀c∈css,c.length=sz)->cs.length=sz->i<css.length->(css.set i cs).flatten=css.flatten.take (i*sz)++cs++css.flatten.drop (i*sz+sz)
 | [],i,cs,_,_,hi=>by cases hi
 |c::css,0,cs,hl,hc,_=>by
  have h0:c.length=sz:=hl c (by simp);rw[List.set_cons_zero,List.flatten_cons,List.flatten_cons,Nat.zero_mul,List.take_zero,List.nil_append,Nat.zero_add,List.drop_append_of_le_length (Nat.le_of_eq h0.symm),List.drop_of_length_le (Nat.le_of_eq h0),List.nil_append]
 |c::css,i+1,cs,hl,hc,hi=>by
  have h0:c.length=sz:=hl c (by simp);have e:(i+1)*sz=c.length+i*sz:=by rw[h0,Nat.add_mul];omega
  rw[List.set_cons_succ,List.flatten_cons,List.flatten_cons,pK css i cs (fun c hc=>hl c (by simp[hc])) hc (by simpa using hi),e,List.take_length_add_append,Nat.add_assoc,List.drop_length_add_append];simp
end Go.Lw
namespace Go.Lw
section
variable {o oi:Oper}{v:Value}
section
variable {P:Program}{ops:Array Oper}{M:Nat->Prop}{keeps:Nat->Bool}{Q:Exit->Act->World->Prop}
def eJ (P:Program) (ops:Array Oper) (o:Oper) (v:Value) (a:Act):Prop :=
 (Region.wanted o (yielded ops a.tmps)=true/\∀w',(execOp a.eval o).run P w'= .ok (.value v) w') \/
 (Region.wanted o (yielded ops a.tmps)=false/\v=undef)
theorem eJ.wpOp {i:Nat}{o:Oper}{v:Value}{a:Act}{w:World}(hi:ops[i]? =some o) (hy:eJ P ops o v a)
 {K:Act->World->Prop}(h:K (a.put o.dst v) w):wpOp P ops Q i K a w:=by
 unfold Go.wpOp;simp only[hi]
 rcases hy with ⟨hw,hv⟩|⟨hw,rfl⟩
 · simp only[hw,if_true,Oper.wp,hv w,Oper.upon];exact .inl h
 · simp only[hw,Bool.false_eq_true,if_false];exact h
theorem eJ.of_same {a a':Act}(hy:eJ P ops o v a) (he:execOp a'.eval o=execOp a.eval o)
 (hw:Region.wanted o (yielded ops a'.tmps)=Region.wanted o (yielded ops a.tmps)):eJ P ops o v a':=by
 unfold eJ at *;rw[he,hw]
 rcases hy with ⟨h1,h2⟩|h
 · exact .inl ⟨h1,h2⟩
 · exact .inr h
theorem Dv {j:Nat}{oj:Oper}(hj:ops[j]? =some oj) (hap:oi.apart ops oj=true)
 (hsi:∀cs b,oi.op≠ .select cs b) (hsj:∀cs b,oj.op≠ .select cs b)
 (hQ:∀c a w,Q (.panic c) (a.put oi.dst v) w->Q (.panic c) a w){K:Act->World->Prop}{a:Act}{w:World}
 (hy:eJ P ops oi v a) (h:Go.wpOp P ops Q j K (a.put oi.dst v) w) :
 Go.wpOp P ops Q j (fun a' w'=>eJ P ops oi v a'/\K (a'.put oi.dst v) w') a w:=by
 obtain⟨h1,h2,h3⟩:=Oper.apart_spec hap
 have keep:∀(a:Act),eJ P ops oi v a->∀u,eJ P ops oi v (a.put oj.dst u):=fun a hy u =>
  hy.of_same (execOp_put oi hsi a oj.dst u h3) (wanted_put oi a oj.dst u h3)
 have keepD:∀d,eJ P ops oi v { a with defers:=d::a.defers }:=fun d=>hy.of_same rfl rfl
 unfold Go.wpOp at *;simp only[hj] at *;rw[wanted_put oj a oi.dst v h1] at h;split
 · rename_i hw;simp only[hw,if_true] at h
   rcases h with h|⟨hasks,hlets⟩
   case inr=>exact .inr ⟨by unfold Oper.asks at *;rw[execOp_put oj hsj a oi.dst v h1] at hasks;exact hasks,hlets⟩
   refine .inl ?_;unfold Oper.wp at *;rw[execOp_put oj hsj a oi.dst v h1] at h;generalize (execOp a.eval oj).run P w=r at *;cases r with
   |ok n w' =>
    cases n<;>simp only[Oper.upon] at h ⊢
    case value u=>exact⟨keep _ hy u,by rw[<-Act.put_comm a v u h2];exact h⟩
    case skip=>exact⟨keep _ hy undef,by rw[<-Act.put_comm a v undef h2];exact h⟩
    case defer d =>
     refine⟨?_,?_⟩
     · exact(keepD d).of_same (execOp_put oi hsi _ oj.dst undef h3) (wanted_put oi _ oj.dst undef h3)
     · have hk:=h;rw[Act.put_defers] at hk;rw[<-Act.put_comm _ v undef h2];exact hk
    case enter f args =>
     refine h.mono fun e w'' hr=>?_
     cases e with
     |returned u=>exact⟨keep _ hy u,by rw[<-Act.put_comm a v u h2];exact hr⟩
     |panicked c=>exact hQ c a w'' hr
     |outgrown=>exact hr
    case row row args =>
     exact h.mono fun u w'' hr=>⟨keep _ hy u,by rw[<-Act.put_comm a v u h2];exact hr⟩
   |halt x w' =>
    cases x<;>simp only[Oper.upon] at h ⊢
    case panic u=>exact hQ _ a w' h
 · rename_i hw;simp only[hw] at h;exact⟨keep _ hy _,by rw[<-Act.put_comm a v undef h2];exact h⟩
theorem AK {i:Nat}(hi:ops[i]? =some oi) (hsel:∀(j:Nat) (o:Oper) cs b,ops[j]? =some o->o.op≠ .select cs b)
 (hQ:∀c a w,Q (.panic c) (a.put oi.dst v) w->Q (.panic c) a w) :
 ∀(fuel:Nat) (listed:Array Bool) (a:Act) (w:World),
  (∀j oj,ops[j]? =some oj->j≠i->listed.getD j true=false->(∃m,dK ops listed i m j=true)\/oi.apart ops oj=true) ->
  i∈Region.ready .any ops listed->eJ P ops oi v a ->
  uv P ops M keeps Q fuel (listed.setIfInBounds i true) (a.put oi.dst v) w->uv P ops M keeps Q (fuel+1) listed a w:=by
 intro fuel
 induction fuel with
 |zero =>
  intro listed a w _ hr hy H;refine⟨fun h=>(by rw[h] at hr;cases hr),fun j hj=>?_⟩
  by_cases hji:j=i
  · subst hji;exact hy.wpOp hi ⟨fun _=>Ext.refl _ _,H⟩
  · have:=ready_mono hj hji;rw[H.1] at this;cases this
 |succ fuel ih =>
  intro listed a w hfree hr hy H;refine⟨fun h=>(by rw[h] at hr;cases hr),fun j hj=>?_⟩
  by_cases hji:j=i
  · subst hji;exact hy.wpOp hi ⟨fun _=>Ext.refl _ _,H⟩
  · have h1:=H.2 j (ready_mono hj hji);obtain⟨hjun,oj,hoj,hall⟩:=mem_ready.1 hj;have hapj:=(hfree j oj hoj hji hjun).resolve_left fun⟨m,hm⟩=>mq hr hm hj
    have h2:=Dv hoj hapj (fun cs b=>hsel i oi cs b hi) (fun cs b=>hsel j oj cs b hoj) hQ hy h1
    have hfree':∀k ok,ops[k]? =some ok->k≠i->(listed.setIfInBounds j true).getD k true=false ->
     (∃m,dK ops (listed.setIfInBounds j true) i m k=true)\/oi.apart ops ok=true:=fun k ok hk hki hun=>by
     refine(hfree k ok hk hki ?_).imp (fun⟨m,hm⟩=>⟨m,kH hr hj m k hm⟩) id
     by_cases hjk:j=k
     · subst hjk;exact hjun
     · rw[getD_set_ne true hjk] at hun;exact hun
    refine wpOp_mono (fun a' w' h3=>⟨h3.2.1,ih (listed.setIfInBounds j true) a' w' hfree' (ready_mono hr (Ne.symm hji)) h3.1 ?_⟩) h2;rw[Array.setIfInBounds_comm _ _ hji];exact h3.2.2
def C8 (ops:Array Oper) (listed:Array Bool) (i:Nat):Bool :=
 match ops[i]? with
 |none=>false
 |some oi=>(List.range ops.size).all fun j=>j ==i ||listed.getD j true ||match ops[j]? with
  |some oj=>oj.after.any (fun e=>Region.binds .any e && e.on ==i) ||(oi.apart ops oj ||dK ops listed i 6 j)
  |none=>true
theorem BT {i:Nat}{listed:Array Bool}(hi:ops[i]? =some oi) (h:C8 ops listed i=true) (j:Nat) (oj:Oper)
 (hj:ops[j]? =some oj) (hne:j≠i) (hun:listed.getD j true=false):(∃m,dK ops listed i m j=true)\/oi.apart ops oj=true:=by
 simp only[C8,hi,List.all_eq_true,List.mem_range] at h;have h1:=h j (Array.getElem?_eq_some_iff.1 hj).1;simp only[hj,Bool.or_eq_true,beq_iff_eq,hne,false_or,hun,Bool.false_eq_true] at h1
 rcases h1 with h1|h1|h1
 · obtain⟨e,he,hb⟩:=Array.any_eq_true'.1 h1;simp only[Bool.and_eq_true,beq_iff_eq] at hb;exact .inl ⟨1,nX hj he hb.1 (.inl hb.2)⟩
 · exact .inr h1
 · exact .inl ⟨6,h1⟩
end
section
variable {P:Program}{n:Nat}{ops:Array Oper}{M:Nat->Prop}{keeps:Nat->Bool}{fuel:Nat}{listed:Array Bool}{ρ:Env}{h:au}{N:Env->au->Prop}{X:List PanicEntry->au->Prop}
theorem RD.Kr (i:Nat){listed':Array Bool}(ho':nth ops.toList i=some o) (hs:Region.noSelect ops=true) (hf:C8 ops listed i=true) (hr:(Region.ready .any ops listed).contains i=true)
 (hw:bL ops ρ o=some true){od:Option Nat}(hod:o.dst=od) (hd:ir n od=true) (k:∀h',ai P o ρ h' v) (hl:listed.setIfInBounds i true=listed')
 (next:RD P n ops M keeps fuel listed' (ρ.put od v) h N X):RD P n ops M keeps (fuel+1) listed ρ h N X:=by
 subst hl;subst hod;have ho:=dN ho';intro B a w hf' ha;exact AK ho (Region.noSelect_spec hs) (fun c a w hq=>⟨by cases hdd:o.dst<;>simpa [Act.put,hdd] using hq.1,hq.2⟩) fuel listed a w (BT ho hf) (by simpa using hr) (.inl ⟨cN hf' hw,fun w'=>k w'.heap n w' a w' hf' (At.refl w')⟩) (next B _ w (hf'.put hd v) ha)
theorem RD.dR (i:Nat){d:Nat}{listed':Array Bool}(ho:nth ops.toList i=some o) (hs:Region.noSelect ops=true) (hf:C8 ops listed i=true) (hr:(Region.ready .any ops listed).contains i=true)
 (hw:bL ops ρ o=some true) (hod:o.dst=some d) (hd:Nat.blt d n=true) (k:∀h',ai P o ρ h' v) (hl:listed.setIfInBounds i true=listed')
 (next:RD P n ops M keeps fuel listed' ((d,v)::ρ) h N X):RD P n ops M keeps (fuel+1) listed ρ h N X:=RD.Kr i ho hs hf hr hw hod hd k hl next
end
theorem ax.zv {P:Program}{ρ:Env}{h:au}{dst:Option Nat}{ty:TypeId}{pos:String}{after:Array Edge}{guard:Option (Nat×Bool)}{X:List PanicEntry->au->Prop}{t e:TypeId}{bytes sz n:Nat}{x y:Operand}{kl kc:IntKind}{z:Value}
 (ht:P.underlying t=some (.slice e)) (he:de P e sz bytes) (hz:(P.info? e).bind (·.zero)=some z) (hx:bE ρ x=some (.int kl (n:Nat))) (hy:bE ρ y=some (.int kc (n:Nat))) (hn:n*sz<=1000000) (hn2:n<=1000000) (hb:bytes<=1000) :
 ax P ⟨dst,.makeSlice t x y,ty,pos,after,guard⟩ ρ h (fun u g=>u= .slice (some ⟨h.size,0,none⟩) n n/\aL g h.size e (madeCells z.cells (n*sz)).toList/\av h g/\g.size=h.size+1) X:=by
 obtain⟨⟨i,z',hi,hz',hsz,hby,hzs⟩,_⟩:=he;have hzz:z'=z:=by rw[hi] at hz;simpa [hz'] using hz
 subst hzz;intro nn B a w hf ha next Q hnx _
 have hmul:i.bytes*n<=1000*1000000:=Nat.mul_le_mul (by omega) hn2;have hr:=run_makeSlice (P:=P) (w:=w) t e i z' ht hi hz' kl kc (n:Int) (n:Int) (by omega) (by omega) (by rw[Int.toNat_natCast,hsz];omega) (by rw[<-Int.natCast_mul];omega) (by omega);unfold Oper.wp execOp;simp only[hf.eval hx,hf.eval hy,Sem.run_bind,Sem.run_pure,Result.andThen_ok,hr];refine hnx _ (h.push (.cells (madeCells z'.cells (n*sz)) e)) _ ⟨?_,ha.os,ha.tape,ha.output⟩ ⟨?_,?_,Ext.push _ _ _,by simp⟩
 · simp[World.alloc,ha.heap,hsz]
 · simp[ha.heap]
 · unfold aL;simp
end
end Go.Lw
namespace Go.Lw
section
variable {P:Program}{ρ:Env}{h:au}{dst:Option Nat}{ty:TypeId}{pos:String}{after:Array Edge}{guard:Option (Nat×Bool)}
theorem ai.yH {t e:TypeId}{x lo hi mx:Operand}{oa:Option Addr}{n c sz:Nat}{k k' k'':IntKind}{il jl ml:Int}(hu:P.underlying t=some (.slice e)) (hs:ck P e=some sz) (hx:bE ρ x=some (.slice oa n c)) (hl:bE ρ lo=some (.int k il)) (i:Nat) (hil:il=i) (hh:bE ρ hi=some (.int k' jl)) (j:Nat) (hjl:jl=j) (hm:bE ρ mx=some (.int k'' ml)) (m:Nat) (hml:ml=m) (hij:i<=j) (hj:j<=m) (hmc:m<=c) :
 ai P ⟨dst,.slice t x (some lo) (some hi) (some mx),ty,pos,after,guard⟩ ρ h (.slice (bQ oa i sz m) (j-i) (m-i)):=by
 intro _ B a w hf _;subst hil;subst hjl;subst hml;simp[execOp,Instr.sliceAt,Instr.slice,Instr.sliceBounds,Instr.sliceBound,run_underlying hu,asIntOf,hf.eval hx,hf.eval hl,hf.eval hh,hf.eval hm,run_sizeOf hs,hij,hj,hmc,bQ]
end
end Go.Lw
namespace Go.Lw
section
variable {P:Program}{ρ:Env}{h:au}{dst:Option Nat}{ty:TypeId}{pos:String}{after:Array Edge}{guard:Option (Nat×Bool)}
end
end Go.Lw
namespace Go.Lw
open Go.RowKit
section
variable {P:Program}{f:FuncId}{fn:Func}{k:List It}{ρ:Env}{h:au}{R:Ending->au->Prop}{p:List Nat}
theorem G.DR {g:Operand}{ps:Array Tmp}{assign body:Code}{f':FuncId}{fn':Func}{caps:Array Value}(hfn:P.funcs[f]? =some fn) (hk:Lw.sub (aG fn) p= .rangeFunc g ps assign body) (hg:bE ρ g=some (.func (.func f') #[] caps))
 (hfn':P.funcs[f']? =some fn') (hb':fn'.body.isSome=true) (hnm':(fn'.name == "runtime.NumGoroutine")=false)
 (hcall:∀fid tmps,Fits fn.ntmps ρ { tmps:=tmps,defers:=[] }->af P f' (#[.func (.yield (h.size+1)) #[] #[]]++caps) ((h.push (.deferred (some []))).push (.loop (ct fid tmps ps assign body h.size)))
  (bC fun _ h'=>∃r,cy h' (h.size+1) r/\r.state≠ .busy/\(r.pending=none/\GD P (dD h.size) f fn k ρ (bW h' (h.size+1) (.loop { r with state:=.exhausted })) R \/
   r.pending=some .ret/\h'[h.size]? =some (.deferred (some []))/\∃vs,iZ P ρ (bW (bW h' (h.size+1) (.loop { r with state:=.exhausted })) h.size (.deferred none)) fn.results.toList vs /\
    R (.returned (packed vs)) (bW (bW h' (h.size+1) (.loop { r with state:=.exhausted })) h.size (.deferred none))))):G P f fn (.code p::k) ρ h R:=by
 intro B a w hf ha b hb hkk cs
 let Q:Exit->Act->World->Prop:=fun e a' w'=>match e with
  |.normal=>∃h',gS (dD h.size) fn.ntmps ρ a'/\At B h' w'/\GD P (dD h.size) f fn k ρ h' R
  |.ret=>∃h',gS (dD h.size) fn.ntmps ρ a'/\At B h' w'/\h'[h.size]? =some (.deferred (some []))/\∃vs,iZ P ρ (bW h' h.size (.deferred none)) fn.results.toList vs/\R (.returned (packed vs)) (bW h' h.size (.deferred none))
  |_=>False
 have hw:(Code.rangeFunc g ps assign body).wp P Q a w:=by
  refine(wpIn_wide (n:=0)).1 (wpIn_rangeFunc fun fid _=>?_);have hb2:fn'.body≠none:=by intro hbb;simp[hbb] at hb'
  have hnm2:¬fn'.name= "runtime.NumGoroutine" :=by simpa using hnm'
  have hf0:Fits fn.ntmps ρ { tmps:=a.tmps,defers:=[] }:=⟨hf.size,hf.ok,rfl⟩
  have ha2:At B ((h.push (.deferred (some []))).push (.loop (ct fid a.tmps ps assign body h.size))) ((w.alloc (.deferred (some []))).alloc (.loop (ct fid a.tmps ps assign body w.heap.size))):=by
   refine⟨?_,ha.os,ha.tape,ha.output⟩
   show ((w.heap.push _).push _)=_
   rw[ha.heap]
  let W1:World:=(w.alloc (.deferred (some []))).alloc (.loop (ct fid a.tmps ps assign body w.heap.size))
  refine⟨w.heap.size+1,dD w.heap.size,W1,{ target:=.fn (.func f') caps,args:= #[.func (.yield (w.heap.size+1)) #[] #[]] },W1,f',#[.func (.yield (w.heap.size+1)) #[] #[]]++caps,W1,run_enterLoop_outer fid a.tmps ps assign body,?_,fun _ _=>trivial,?_,fun h=>by simp[Fence.wide] at h,?_⟩
  · have hge:a.eval g= .func (.func f') #[] caps:=hf.eval hg;have hec:∀v,a.eval (.const v)=v:=fun _=>rfl
    simp[resolve,hge,Deferred.ofValue,hec]
  · simp[invoke,callFunc,hfn',hnm2,hb2]
  · refine sD (ro:=none) ((?_:Calls P f' (#[.func (.yield (w.heap.size+1)) #[] #[]]++caps) ((w.alloc (.deferred (some []))).alloc (.loop (ct fid a.tmps ps assign body w.heap.size))) _));have hc:=hcall fid a.tmps hf0 B _ ha2;rw[<-ha.heap] at hc;refine hc.mono fun e w3 he=>?_
    obtain⟨h3,ha3,v,rfl,r,hl,hnb,hcs⟩:=he;have hl3:w3.heap[w.heap.size+1]? =some (.loop r):=by rw[ha3.heap];exact hl
    have hfd:gS (dD h.size) fn.ntmps ρ { a with defers:=dD w.heap.size++a.defers }:=⟨hf.size,hf.ok,by
     show dD w.heap.size++a.defers=dD h.size
     rw[hf.nd,ha.heap];rfl⟩
    refine⟨r.pending,_,run_endLoop hl3 hnb,?_⟩;split
    · rename_i hc
      rcases hcs with ⟨hpd,hgd⟩|⟨hpd,_⟩
      · exact⟨_,hfd,ha3.bW _ _,by rw[<-ha.heap];exact hgd⟩
      · rw[hpd] at hc;cases hc
    · rename_i c hc
      rcases hcs with ⟨hpd,_⟩|⟨hpd,hmk,vs,hra,hR⟩
      · rw[hpd] at hc;cases hc
      · obtain rfl:Code.ret=c:=Option.some.inj (hpd.symm.trans hc);refine wpIn_ret ?_;refine⟨_,hfd,ha3.bW _ _,?_,vs,by rw[<-ha.heap];exact hra,by rw[<-ha.heap];exact hR⟩;have hne:¬(w.heap.size+1=h.size):=by rw[ha.heap];omega
        rw[bW,Array.getElem?_setIfInBounds_ne hne,<-ha.heap];exact hmk
 obtain⟨e,a',w',hq,harr⟩:=hw b (k.map (aP (aG fn))) cs;have hit:(It.code p::k).map (aP (aG fn))=Item.code (Code.rangeFunc g ps assign body)::k.map (aP (aG fn)):=by simp[aP,hk]
 rw[hit];cases e with
 |normal =>
  obtain⟨h',f'',a'',hgd⟩:=hq;obtain⟨e,w'',fr,h'',h1,h2,h3,h4,h5⟩:=hgd B a' w' f'' a'' b hb hkk cs;exact⟨e,w'',fr,h'',h1,h2,.of_steps harr h3,h4,h5⟩
 |ret =>
  obtain⟨h',f'',a'',hm,vs,hr,hR⟩:=hq;obtain⟨todo,hs⟩:=harr;have htake:(Instr.takeDeferred h.size).run P w'= .ok [] (w'.putObj h.size (.deferred none)):=run_takeDeferred (by rw[a''.heap];exact hm);have h2:=step_collected (P:=P) (fr:= { b.at a' todo with mode:=.returning }) (cs:=cs) (by simp) (f''.nd:_=_) rfl htake;have hz:=f''.zero;exact⟨.returned (packed vs),_,_,_,a''.bW h.size _,hR,hs.trans (.one h2),hb,rfl,rfl,hkk,fn,(show P.funcs[b.fn]? =some fn by rw[hb];exact hfn),dU hz (a''.bW h.size _) hr⟩
 |panic ch=>exact hq.elim
 |exit id=>exact hq.elim
 |goto l=>exact hq.elim
 |outgrown=>exact hq.elim
theorem GD.nu {b0:Nat}{vs:List Value}(hfn:P.funcs[f]? =some fn) (hk:kind (Lw.sub (aG fn) p)=4) (hm:h[b0]? =some (.deferred (some []))) (hr:iZ P ρ (bW h b0 (.deferred none)) fn.results.toList vs) (hR:R (.returned (packed vs)) (bW h b0 (.deferred none))):GD P (dD b0) f fn (.code p::k) ρ h R:=by
 intro B a w hf ha b hb hkk cs
 have hstep:Go.step P (lone (b.at a ((It.code p::k).map (aP (aG fn)))) cs w)= .next (lone { b.at a ((It.code p::k).map (aP (aG fn))) with mode:=.returning } cs w):=by
  simp only[List.map_cons,aP];cases hc:Lw.sub (aG fn) p<;>simp[hc,kind] at hk
  · rename_i d;cases d<;>simp at hk
  · exact step_ret
 have htake:(Instr.takeDeferred b0).run P w= .ok [] (w.putObj b0 (.deferred none)):=run_takeDeferred (by rw[ha.heap];exact hm);have h2:=step_collected (P:=P) (fr:= { b.at a ((It.code p::k).map (aP (aG fn))) with mode:=.returning }) (cs:=cs) (by simp) (hf.nd:_=_) rfl htake;have hz:=hf.zero;exact⟨.returned (packed vs),_,_,_,ha.bW b0 _,hR,.head hstep (.one h2),hb,rfl,rfl,hkk,fn,(show P.funcs[b.fn]? =some fn by rw[hb];exact hfn),dU hz (ha.bW b0 _) hr⟩
end
end Go.Lw
