/- What the proof of the statement leans on (part 18). -/
import GoSem.Core.Utf8
import Derived.Deep.Fields
import Derived.Test.YtpjgdgdnbkjoiaaGreatDoorQq

namespace Go.Lw
open Go.RowKit
section
variable {k p:Nat}{s:ByteArray}{x:Operand}
variable {P:Program}{ρ:Env}{h:ai}{X:List PanicEntry->ai->Prop}{dst:Option Nat}{ty:TypeId}{pos:String}{after:Array Edge}{guard:Option (Nat×Bool)}
def iG (h:ai) (k:Nat) (s:ByteArray) (p:Nat):Prop:=h[k]? =some (.stringIter s p)
theorem iG.lt (i:iG h k s p):k<h.size:=(Array.getElem?_eq_some_iff.1 i).1
theorem iG.ext {M:Nat->Prop}{h':ai}(i:iG h k s p) (e:Ext M h h') (hm:¬M k):iG h' k s p:=(e.block k i.lt hm).trans i
theorem az.BZ {t:TypeId}(ht:P.underlying t=some .string) (hx:aV ρ x=some (.string s)) :
 az P ⟨dst,.range t x,ty,pos,after,guard⟩ ρ h (fun u g=>u= .pointer (some ⟨h.size,0,none⟩)/\iG g h.size s 0/\ak h g/\g.size=h.size+1) X:=by
 have k:az P ⟨dst,.range t x,ty,pos,after,guard⟩ ρ h (fun u g=>u= .pointer (some ⟨h.size,0,none⟩)/\g=h.push (.stringIter s 0)) X:=by
  refine az.vV fun n B a w hf ha=>⟨{ w with heap:=w.heap.push (.stringIter s 0) },?_,?_⟩
  · simp[execOp,Instr.range,run_underlying ht,hf.eval hx,ha.heap,newObj,Sem.run]
  · rw[ha.heap];exact ha.rI _
 refine k.mono (fun u g ⟨h1,h2⟩=>⟨h1,?_⟩) (fun _ _ h=>h);subst h2;refine⟨by simp[iG],⟨by simp,fun b hb _=>?_⟩,by simp⟩;rw[Array.getElem?_push,if_neg (by omega)]
theorem az.Fk (hx:aV ρ x=some (.pointer (some ⟨k,0,none⟩))) (hI:iG h k s p) (hp:p<s.size) :
 az P ⟨dst,.next x true,ty,pos,after,guard⟩ ρ h (fun u g=>u= .tuple #[.bool true,.int .i64 p,.int .i32 (Utf8.decode s p).1]/\iG g k s (p+(Utf8.decode s p).2)/\Ext (fun b=>b=k) h g/\g.size=h.size) X:=by
 have q:az P ⟨dst,.next x true,ty,pos,after,guard⟩ ρ h (fun u g=>u= .tuple #[.bool true,.int .i64 p,.int .i32 (Utf8.decode s p).1]/\g=h.setIfInBounds k (.stringIter s (p+(Utf8.decode s p).2))) X:=by
  refine az.vV fun n B a w hf ha=>⟨{ w with heap:=w.heap.setIfInBounds k (.stringIter s (p+(Utf8.decode s p).2)) },?_,?_⟩
  · have hI':w.heap[k]? =some (.stringIter s p):=by rw[ha.heap];exact hI
    simp[execOp,Instr.next,hf.eval hx,getObj,setObj,Sem.run,hI',hp,goInt]
  · rw[ha.heap];exact ha.rI _
 refine q.mono (fun u g ⟨h1,h2⟩=>⟨h1,?_⟩) (fun _ _ h=>h);subst h2;have hs:=y8 h k (.stringIter s (p+(Utf8.decode s p).2));refine⟨?_,hs.1,hs.2⟩;unfold iG;rw[Array.getElem?_setIfInBounds,if_pos rfl,if_pos hI.lt]
theorem az.Fl (hx:aV ρ x=some (.pointer (some ⟨k,0,none⟩))) (hI:iG h k s p) (hp:¬p<s.size) :
 az P ⟨dst,.next x true,ty,pos,after,guard⟩ ρ h (fun u g=>u= .tuple #[.bool false]/\g=h) X:=by
 refine az.vV fun n B a w hf ha=>⟨w,?_,ha⟩
 have hI':w.heap[k]? =some (.stringIter s p):=by rw[ha.heap];exact hI
 simp[execOp,Instr.next,hf.eval hx,getObj,Sem.run,hI',hp]
section
variable {n:Nat}{ops:Array Oper}{M:Nat->Prop}{keeps:Nat->Bool}{fuel:Nat}{listed:Array Bool}{N:Env->ai->Prop}
end
end
end Go.Lw
namespace Go.Lw
section
variable {t e:TypeId}{x:Operand}{oa:Option Addr}{n c:Nat}
theorem add_zero' (a:Addr) (n:Nat):a.add (0*n)=a:=by simp[Addr.add]
theorem iB (oa:Option Addr) (sz m:Nat):bF oa 0 sz m=oa:=by
 unfold bF;split
 · rfl
 · cases oa with
   |none=>rfl
   |some a=>rw[Option.map_some,add_zero']
section
variable {P:Program}{ρ:Env}{h:ai}{dst:Option Nat}{ty:TypeId}{pos:String}{after:Array Edge}{guard:Option (Nat×Bool)}{X:List PanicEntry->ai->Prop}
theorem an.iI {hi mx:Operand}{sz:Nat}{k k':IntKind}{jl ml:Int}(hu:P.underlying t=some (.slice e)) (hs:cq P e=some sz) (hx:aV ρ x=some (.slice oa n c)) (hh:aV ρ hi=some (.int k jl)) (j:Nat) (hjl:jl=j) (hm:aV ρ mx=some (.int k' ml)) (m:Nat) (hml:ml=m) (hj:j<=m) (hmc:m<=c) :
 an P ⟨dst,.slice t x none (some hi) (some mx),ty,pos,after,guard⟩ ρ h (.slice oa j m):=by
 intro _ B a w hf _;subst hjl;subst hml;have h0:oa.map (fun x=>x.add 0)=oa:=by cases oa<;>simp[Addr.add]
 simp[execOp,Instr.sliceAt,Instr.slice,Instr.sliceBounds,Instr.sliceBound,run_underlying hu,asIntOf,hf.eval hx,hf.eval hh,hf.eval hm,hj,hmc,run_sizeOf hs,h0]
theorem az.xT {size bytes:Nat}{y:Operand}{xs news:List Value}{ob:Option Addr}{m d:Nat}(ht:P.underlying t=some (.slice e)) (he:dW P e size bytes)
 (hx:aV ρ x=some (.slice oa n c)) (hy:aV ρ y=some (.slice ob m d)) (hl:xs.length=n*size) (ho:n=0\/∃b o,oa=some ⟨b,o,none⟩/\rowAt h b o xs) (hc:c=n)
 (hl2:news.length=m*size) (hnews:∃b o,ob=some ⟨b,o,none⟩/\rowAt h b o news) (hm:0<m) (h63:n+m<=maxLen) (hbytes:(n+m)*bytes<=140737488355328) :
 az P ⟨dst,.call ⟨.builtin .append,#[x,y],#[t,t]⟩,ty,pos,after,guard⟩ ρ h (fun v' h'=>ax h' h.size e size v' (n+m) (xs++news)/\ak h h') X:=by
 intro nn B a w hf ha next Q hn _
 obtain⟨b2,o2,rfl,hrow2⟩:=hnews;obtain⟨⟨i,z,hi,hz,rfl,rfl,hzs⟩,hsz⟩:=he;have hsmall:n+m<=9223372036854775807:=by simp only[maxLen] at h63;omega
 have hlen:(xs++news).length=(n+m)*i.size:=by rw[List.length_append,hl,hl2,Nat.add_mul]
 have hnw:∀j u,news[j]? =some u->w.cell? ((⟨b2,o2,none⟩:Addr).add j)=some u:=fun j u hu=>by rw[Addr.add_mid,ha.cell];exact hrow2 j u hu
 obtain⟨old,ho2,e0⟩:∃old,old<n+m/\(Builtin.append_ #[t,t] ty #[.slice oa n c,.slice (some ⟨b2,o2,none⟩) m d]).run P w= .ok (.slice (some ⟨w.heap.size,0,none⟩) (n+m) (grownCap w (n+m) old e)) (w.drew.alloc (.cells (xs.toArray++news.toArray++Builtin.zeroCells z.cells (grownCap w (n+m) old e-(n+m))) e)):=by
  subst hc
  have ho2:(oa=none/\c=0)\/∃a,oa=some a/\∀j u,xs[j]? =some u->w.cell? (a.add j)=some u:=by
   rcases ho with rfl|⟨b1,o1,rfl,hrow1⟩
   · cases oa with
     |none=>exact .inl ⟨rfl,rfl⟩
     |some a=>exact .inr ⟨a,rfl,fun j u hu=>by
      have hx0:xs=[]:=List.eq_nil_of_length_eq_zero (by simpa using hl);subst hx0;simp at hu⟩
   · exact .inr ⟨_,rfl,fun j u hu=>by rw[Addr.add_mid,ha.cell];exact hrow1 j u hu⟩
  rcases ho2 with ⟨rfl,rfl⟩|⟨a1,rfl,hold⟩
  · have hx0:xs=[]:=List.eq_nil_of_length_eq_zero (by simpa using hl);subst hx0;have hr:=run_append_nil (P:=P) w t ty e i z ht hi hz ⟨b2,o2,none⟩ m d news hl2 hnw (by omega) (by omega) (by simp only[Nat.zero_add] at hbytes;omega);exact⟨0,by omega,by simpa using hr⟩
  · exact⟨c,by omega,run_append_grow (P:=P) w t ty e i z ht hi hz a1 c c xs hl hold ⟨b2,o2,none⟩ m d news hl2 hnw (by omega) (by omega) (growslice_fits (by omega) hbytes)⟩
 have hge:=grownCap_ge w (n+m) old e;have hcm:grownCap w (n+m) old e<=maxLen:=grownCap_le_maxLen w (n+m) old e h63
 have hown:(w.drew.alloc (.cells (xs.toArray++news.toArray++Builtin.zeroCells z.cells (grownCap w (n+m) old e-(n+m))) e)).ownsRow w.heap.size e i.size (.slice (some ⟨w.heap.size,0,none⟩) (n+m) (grownCap w (n+m) old e)) (n+m) (xs++news):=by
  refine⟨hlen,.inr ⟨w.heap.size,_,_,rfl,Nat.le_refl _,heap_alloc_new w.drew _,hge,hcm,?_,?_⟩⟩
  · simp only[Array.size_append,List.size_toArray,size_zeroCells,hzs,hl,hl2,<-Nat.add_mul]
    congr 1
    omega
  · simp only[Array.toList_append,List.append_assoc];rw[<-List.append_assoc,<-hlen];exact List.take_left
 have hgr:w.grownBy (w.drew.alloc (.cells (xs.toArray++news.toArray++Builtin.zeroCells z.cells (grownCap w (n+m) old e-(n+m))) e)) none:=⟨rfl,rfl,rfl,by simp,fun k hk _=>heap_alloc_old w.drew _ hk⟩
 unfold Oper.wp execOp;simp only[resolve,invoke,builtin,Sem.run_bind,Sem.run_pure,Result.andThen_ok,List.map_toArray,List.map_cons,List.map_nil,hf.eval hx,hf.eval hy,e0];refine hn _ _ _ (ha.grown hgr) ⟨?_,?_⟩
 · have:=(At.own (ha.grown hgr)).1 hown
   rwa [ha.heap] at this ⊢
 · rw[<-ha.heap];exact dc (jm hgr)
theorem az.xS {size bytes:Nat}{y:Operand}{d:Nat}{ob:Option Addr}(ht:P.underlying t=some (.slice e)) (he:dW P e size bytes)
 (hx:aV ρ x=some (.slice oa n c)) (hy:aV ρ y=some (.slice ob 0 d)) (hle:n<=c) :
 az P ⟨dst,.call ⟨.builtin .append,#[x,y],#[t,t]⟩,ty,pos,after,guard⟩ ρ h (fun v' h'=>v'= .slice oa n c/\h'=h) X:=by
 intro nn B a w hf ha next Q hn _
 have hrun:(execOp a.eval ⟨dst,.call ⟨.builtin .append,#[x,y],#[t,t]⟩,ty,pos,after,guard⟩).run P w= .ok (.value (.slice oa n c)) w:=by
  obtain⟨⟨i,z,hi,hz,hsz,hby,hzs⟩,hpos⟩:=he;cases oa<;>cases ob
  · simp[execOp,resolve,invoke,builtin,hf.eval hx,hf.eval hy,Builtin.append_,run_underlying ht,sizeOf,typeInfo,hi,Builtin.lenOf,Builtin.firstCells,hle]
  · simp[execOp,resolve,invoke,builtin,hf.eval hx,hf.eval hy,Builtin.append_,run_underlying ht,sizeOf,typeInfo,hi,Builtin.lenOf,Builtin.firstCells,loadCells,loadCellsFrom,hle]
  · simp[execOp,resolve,invoke,builtin,hf.eval hx,hf.eval hy,Builtin.append_,run_underlying ht,sizeOf,typeInfo,hi,Builtin.lenOf,Builtin.firstCells,hle,storeCells]
  · simp[execOp,resolve,invoke,builtin,hf.eval hx,hf.eval hy,Builtin.append_,run_underlying ht,sizeOf,typeInfo,hi,Builtin.lenOf,Builtin.firstCells,loadCells,loadCellsFrom,hle,storeCells]
 unfold Oper.wp;rw[hrun];exact hn _ h w ha ⟨rfl,rfl⟩
end
end
end Go.Lw
namespace Go.Lw
open Go.RowKit
section
variable {P:Program}{ρ:Env}{h:ai}{dst:Option Nat}{ty:TypeId}{pos:String}{after:Array Edge}{guard:Option (Nat×Bool)}{X:List PanicEntry->ai->Prop}
end
theorem sd {α:Type}{sz:Nat}:∀(css:List (List α)) (i:Nat),(∀c∈css,c.length=sz)->(css.take i).flatten=css.flatten.take (i*sz)
 | [],i,_=>by simp
 |c::css,0,_=>by simp
 |c::css,i+1,hl=>by
  have h0:c.length=sz:=hl c (by simp);have e:(i+1)*sz=c.length+i*sz:=by rw[h0,Nat.add_mul];omega
  rw[List.take_succ_cons,List.flatten_cons,List.flatten_cons,sd css i (fun c hc=>hl c (by simp[hc])),e,List.take_length_add_append]
end Go.Lw
namespace Go.Lw
section
variable {o oi:Oper}{v:Value}
section
variable {P:Program}{ops:Array Oper}{M:Nat->Prop}{keeps:Nat->Bool}{Q:Exit->Act->World->Prop}
def gm (P:Program) (ops:Array Oper) (o:Oper) (v:Value) (a:Act):Prop :=
 (Region.wanted o (yielded ops a.tmps)=true/\∀w',(execOp a.eval o).run P w'= .ok (.value v) w') \/
 (Region.wanted o (yielded ops a.tmps)=false/\v=undef)
theorem gm.wpOp {i:Nat}{o:Oper}{v:Value}{a:Act}{w:World}(hi:ops[i]? =some o) (hy:gm P ops o v a)
 {K:Act->World->Prop}(h:K (a.put o.dst v) w):wpOp P ops Q i K a w:=by
 unfold Go.wpOp;simp only[hi]
 rcases hy with ⟨hw,hv⟩|⟨hw,rfl⟩
 · simp only[hw,if_true,Oper.wp,hv w,Oper.upon];exact .inl h
 · simp only[hw,Bool.false_eq_true,if_false];exact h
theorem gm.of_same {a a':Act}(hy:gm P ops o v a) (he:execOp a'.eval o=execOp a.eval o)
 (hw:Region.wanted o (yielded ops a'.tmps)=Region.wanted o (yielded ops a.tmps)):gm P ops o v a':=by
 unfold gm at *;rw[he,hw]
 rcases hy with ⟨h1,h2⟩|h
 · exact .inl ⟨h1,h2⟩
 · exact .inr h
theorem F0 {j:Nat}{oj:Oper}(hj:ops[j]? =some oj) (hap:oi.apart ops oj=true)
 (hsi:∀cs b,oi.op≠ .select cs b) (hsj:∀cs b,oj.op≠ .select cs b)
 (hQ:∀c a w,Q (.panic c) (a.put oi.dst v) w->Q (.panic c) a w){K:Act->World->Prop}{a:Act}{w:World}
 (hy:gm P ops oi v a) (h:Go.wpOp P ops Q j K (a.put oi.dst v) w) :
 Go.wpOp P ops Q j (fun a' w'=>gm P ops oi v a'/\K (a'.put oi.dst v) w') a w:=by
 obtain⟨h1,h2,h3⟩:=Oper.apart_spec hap
 have keep:∀(a:Act),gm P ops oi v a->∀u,gm P ops oi v (a.put oj.dst u):=fun a hy u =>
  hy.of_same (execOp_put oi hsi a oj.dst u h3) (wanted_put oi a oj.dst u h3)
 have keepD:∀d,gm P ops oi v { a with defers:=d::a.defers }:=fun d=>hy.of_same rfl rfl
 unfold Go.wpOp at *;simp only[hj] at *;rw[wanted_put oj a oi.dst v h1] at h;split
 · rename_i hw;simp only[hw,if_true] at h
   rcases h with h|⟨hasks,hlets⟩
   case inr=>exact .inr ⟨by unfold Oper.asks at *;rw[execOp_put oj hsj a oi.dst v h1] at hasks;exact hasks,hlets⟩
   refine .inl ?_;unfold Oper.wp at *;rw[execOp_put oj hsj a oi.dst v h1] at h;generalize (execOp a.eval oj).run P w=r at *;cases r with
   |ok n w' =>
    cases n<;>simp only[Oper.upon] at h ⊢
    case value u=>exact⟨keep _ hy u,by rw[<-Act.put_comm a v u h2];exact h⟩
    case skip=>exact⟨keep _ hy undef,by rw[<-Act.put_comm a v undef h2];exact h⟩
    case defer d =>
     refine⟨?_,?_⟩
     · exact(keepD d).of_same (execOp_put oi hsi _ oj.dst undef h3) (wanted_put oi _ oj.dst undef h3)
     · have hk:=h;rw[Act.put_defers] at hk;rw[<-Act.put_comm _ v undef h2];exact hk
    case enter f args =>
     refine h.mono fun e w'' hr=>?_
     cases e with
     |returned u=>exact⟨keep _ hy u,by rw[<-Act.put_comm a v u h2];exact hr⟩
     |panicked c=>exact hQ c a w'' hr
     |outgrown=>exact hr
    case row row args =>
     exact h.mono fun u w'' hr=>⟨keep _ hy u,by rw[<-Act.put_comm a v u h2];exact hr⟩
   |halt x w' =>
    cases x<;>simp only[Oper.upon] at h ⊢
    case panic u=>exact hQ _ a w' h
 · rename_i hw;simp only[hw] at h;exact⟨keep _ hy _,by rw[<-Act.put_comm a v undef h2];exact h⟩
theorem C8 {i:Nat}(hi:ops[i]? =some oi) (hsel:∀(j:Nat) (o:Oper) cs b,ops[j]? =some o->o.op≠ .select cs b)
 (hQ:∀c a w,Q (.panic c) (a.put oi.dst v) w->Q (.panic c) a w) :
 ∀(fuel:Nat) (listed:Array Bool) (a:Act) (w:World),
  (∀j oj,ops[j]? =some oj->j≠i->listed.getD j true=false->(∃m,eV ops listed i m j=true)\/oi.apart ops oj=true) ->
  i∈Region.ready .any ops listed->gm P ops oi v a ->
  yM P ops M keeps Q fuel (listed.setIfInBounds i true) (a.put oi.dst v) w->yM P ops M keeps Q (fuel+1) listed a w:=by
 intro fuel
 induction fuel with
 |zero =>
  intro listed a w _ hr hy H;refine⟨fun h=>(by rw[h] at hr;cases hr),fun j hj=>?_⟩
  by_cases hji:j=i
  · subst hji;exact hy.wpOp hi ⟨fun _=>Ext.refl _ _,H⟩
  · have:=ready_mono hj hji;rw[H.1] at this;cases this
 |succ fuel ih =>
  intro listed a w hfree hr hy H;refine⟨fun h=>(by rw[h] at hr;cases hr),fun j hj=>?_⟩
  by_cases hji:j=i
  · subst hji;exact hy.wpOp hi ⟨fun _=>Ext.refl _ _,H⟩
  · have h1:=H.2 j (ready_mono hj hji);obtain⟨hjun,oj,hoj,hall⟩:=mem_ready.1 hj;have hapj:=(hfree j oj hoj hji hjun).resolve_left fun⟨m,hm⟩=>qm hr hm hj
    have h2:=F0 hoj hapj (fun cs b=>hsel i oi cs b hi) (fun cs b=>hsel j oj cs b hoj) hQ hy h1
    have hfree':∀k ok,ops[k]? =some ok->k≠i->(listed.setIfInBounds j true).getD k true=false ->
     (∃m,eV ops (listed.setIfInBounds j true) i m k=true)\/oi.apart ops ok=true:=fun k ok hk hki hun=>by
     refine(hfree k ok hk hki ?_).imp (fun⟨m,hm⟩=>⟨m,nw hr hj m k hm⟩) id
     by_cases hjk:j=k
     · subst hjk;exact hjun
     · rw[getD_set_ne true hjk] at hun;exact hun
    refine wpOp_mono (fun a' w' h3=>⟨h3.2.1,ih (listed.setIfInBounds j true) a' w' hfree' (ready_mono hr (Ne.symm hji)) h3.1 ?_⟩) h2;rw[Array.setIfInBounds_comm _ _ hji];exact h3.2.2
def Fu (ops:Array Oper) (listed:Array Bool) (i:Nat):Bool :=
 match ops[i]? with
 |none=>false
 |some oi=>(List.range ops.size).all fun j=>j ==i ||listed.getD j true ||match ops[j]? with
  |some oj=>oj.after.any (fun e=>Region.binds .any e && e.on ==i) ||(oi.apart ops oj ||eV ops listed i 6 j)
  |none=>true
theorem Em {i:Nat}{listed:Array Bool}(hi:ops[i]? =some oi) (h:Fu ops listed i=true) (j:Nat) (oj:Oper)
 (hj:ops[j]? =some oj) (hne:j≠i) (hun:listed.getD j true=false):(∃m,eV ops listed i m j=true)\/oi.apart ops oj=true:=by
 simp only[Fu,hi,List.all_eq_true,List.mem_range] at h;have h1:=h j (Array.getElem?_eq_some_iff.1 hj).1;simp only[hj,Bool.or_eq_true,beq_iff_eq,hne,false_or,hun,Bool.false_eq_true] at h1
 rcases h1 with h1|h1|h1
 · obtain⟨e,he,hb⟩:=Array.any_eq_true'.1 h1;simp only[Bool.and_eq_true,beq_iff_eq] at hb;exact .inl ⟨1,sQ hj he hb.1 (.inl hb.2)⟩
 · exact .inr h1
 · exact .inl ⟨6,h1⟩
end
section
variable {P:Program}{n:Nat}{ops:Array Oper}{M:Nat->Prop}{keeps:Nat->Bool}{fuel:Nat}{listed:Array Bool}{ρ:Env}{h:ai}{N:Env->ai->Prop}{X:List PanicEntry->ai->Prop}
theorem RD.Md (i:Nat){listed':Array Bool}(ho':nth ops.toList i=some o) (hs:Region.noSelect ops=true) (hf:Fu ops listed i=true) (hr:(Region.ready .any ops listed).contains i=true)
 (hw:aJ ops ρ o=some true){od:Option Nat}(hod:o.dst=od) (hd:jg n od=true) (k:∀h',an P o ρ h' v) (hl:listed.setIfInBounds i true=listed')
 (next:RD P n ops M keeps fuel listed' (ρ.put od v) h N X):RD P n ops M keeps (fuel+1) listed ρ h N X:=by
 subst hl;subst hod;have ho:=fe ho';intro B a w hf' ha;exact C8 ho (Region.noSelect_spec hs) (fun c a w hq=>⟨by cases hdd:o.dst<;>simpa [Act.put,hdd] using hq.1,hq.2⟩) fuel listed a w (Em ho hf) (by simpa using hr) (.inl ⟨cS hf' hw,fun w'=>k w'.heap n w' a w' hf' (At.refl w')⟩) (next B _ w (hf'.put hd v) ha)
theorem RD.nC (i:Nat){d:Nat}{listed':Array Bool}(ho:nth ops.toList i=some o) (hs:Region.noSelect ops=true) (hf:Fu ops listed i=true) (hr:(Region.ready .any ops listed).contains i=true)
 (hw:aJ ops ρ o=some true) (hod:o.dst=some d) (hd:Nat.blt d n=true) (k:∀h',an P o ρ h' v) (hl:listed.setIfInBounds i true=listed')
 (next:RD P n ops M keeps fuel listed' ((d,v)::ρ) h N X):RD P n ops M keeps (fuel+1) listed ρ h N X:=RD.Md i ho hs hf hr hw hod hd k hl next
end
end
end Go.Lw
namespace Go.Lw
open Go.ChangeShapes Go.WideShapes Go.ChangeAt Go.RowKit
variable {H:Type}{enc:TypeId×Value->H}{P:Program}
theorem nA {W:World}{base n:Nat}{t:TypeId}{fs:Array Field}{cs:List Value}{sp:Nat->Bool}{held:Bool}{y:DataW H×List MemPlace}(ht:P.underlying t=some (.struct fs)) (h:DataW.trod enc P W base sp held n t cs=some y) :
 ∃k,∀(i:Nat) (f:Field),fs[i]? =some f->∃z,DataW.trod enc P W base sp held k f.type ((cs.drop f.offset).take (P.cellsOf f.type))=some z:=by
 obtain⟨xs,k,_,_,_,hxl,hfl⟩:=DataW.trod_struct ht h;refine⟨k,fun i f hf=>?_⟩;have g:=hfl i f hf;have hi:i<fs.size:=(Array.getElem?_eq_some_iff.1 hf).1;rw[List.getElem?_eq_getElem (by omega)] at g;exact⟨_,g⟩
theorem Gr {W:World}{base:Nat}{t:TypeId}{fs:Array Field}{v:Value}{d:DataW H}{p:List MemPlace}{sp:Nat->Bool}{held:Bool}(ht:P.underlying t=some (.struct fs)) (hv:Value.okWide P W .any base t v) (h:DataW.Trod enc P W 0 sp held t v d p) :
 ∃cs n,v= .agg cs/\cs.size=P.cellsOf t/\∀(i:Nat) (f:Field),fs[i]? =some f->∃z,DataW.trod enc P W 0 sp held n f.type ((cs.toList.drop f.offset).take (P.cellsOf f.type))=some z:=by
 unfold Value.okWide at hv;rw[ht] at hv;obtain⟨cs,rfl,hs,_⟩:=hv;obtain⟨fuel,hf⟩:=h;obtain⟨k,hk⟩:=nA ht hf;exact⟨cs,k,rfl,hs,hk⟩
end Go.Lw
