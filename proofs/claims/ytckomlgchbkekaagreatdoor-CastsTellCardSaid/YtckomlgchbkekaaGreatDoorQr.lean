/- What the proof of the statement leans on (part 18). -/
import GoSem.Core.Utf8
import Derived.Laws.MakeOwn
import Derived.Test.YtckomlgchbkekaaGreatDoorQq

namespace Go.Lw
open Go.RowKit
section
variable {k p:Nat}{s:ByteArray}{x:Operand}
variable {P:Program}{ρ:Env}{h:ai}{X:List PanicEntry->ai->Prop}{dst:Option Nat}{ty:TypeId}{pos:String}{after:Array Edge}{guard:Option (Nat×Bool)}
def fQ (h:ai) (k:Nat) (s:ByteArray) (p:Nat):Prop:=h[k]? =some (.stringIter s p)
theorem fQ.lt (i:fQ h k s p):k<h.size:=(Array.getElem?_eq_some_iff.1 i).1
theorem fQ.ext {M:Nat->Prop}{h':ai}(i:fQ h k s p) (e:Ext M h h') (hm:¬M k):fQ h' k s p:=(e.block k i.lt hm).trans i
theorem aH.rT {t:TypeId}(ht:P.underlying t=some .string) (hx:aT ρ x=some (.string s)) :
 aH P ⟨dst,.range t x,ty,pos,after,guard⟩ ρ h (fun u g=>u= .pointer (some ⟨h.size,0,none⟩)/\fQ g h.size s 0/\ah h g/\g.size=h.size+1) X:=by
 have k:aH P ⟨dst,.range t x,ty,pos,after,guard⟩ ρ h (fun u g=>u= .pointer (some ⟨h.size,0,none⟩)/\g=h.push (.stringIter s 0)) X:=by
  refine aH.sd fun n B a w hf ha=>⟨{ w with heap:=w.heap.push (.stringIter s 0) },?_,?_⟩
  · simp[execOp,Instr.range,run_underlying ht,hf.eval hx,ha.heap,newObj,Sem.run]
  · rw[ha.heap];exact ha.nP _
 refine k.mono (fun u g ⟨h1,h2⟩=>⟨h1,?_⟩) (fun _ _ h=>h);subst h2;refine⟨by simp[fQ],⟨by simp,fun b hb _=>?_⟩,by simp⟩;rw[Array.getElem?_push,if_neg (by omega)]
theorem aH.xS (hx:aT ρ x=some (.pointer (some ⟨k,0,none⟩))) (hI:fQ h k s p) (hp:p<s.size) :
 aH P ⟨dst,.next x true,ty,pos,after,guard⟩ ρ h (fun u g=>u= .tuple #[.bool true,.int .i64 p,.int .i32 (Utf8.decode s p).1]/\fQ g k s (p+(Utf8.decode s p).2)/\Ext (fun b=>b=k) h g/\g.size=h.size) X:=by
 have q:aH P ⟨dst,.next x true,ty,pos,after,guard⟩ ρ h (fun u g=>u= .tuple #[.bool true,.int .i64 p,.int .i32 (Utf8.decode s p).1]/\g=h.setIfInBounds k (.stringIter s (p+(Utf8.decode s p).2))) X:=by
  refine aH.sd fun n B a w hf ha=>⟨{ w with heap:=w.heap.setIfInBounds k (.stringIter s (p+(Utf8.decode s p).2)) },?_,?_⟩
  · have hI':w.heap[k]? =some (.stringIter s p):=by rw[ha.heap];exact hI
    simp[execOp,Instr.next,hf.eval hx,getObj,setObj,Sem.run,hI',hp,goInt]
  · rw[ha.heap];exact ha.nP _
 refine q.mono (fun u g ⟨h1,h2⟩=>⟨h1,?_⟩) (fun _ _ h=>h);subst h2;have hs:=vK h k (.stringIter s (p+(Utf8.decode s p).2));refine⟨?_,hs.1,hs.2⟩;unfold fQ;rw[Array.getElem?_setIfInBounds,if_pos rfl,if_pos hI.lt]
theorem aH.xT (hx:aT ρ x=some (.pointer (some ⟨k,0,none⟩))) (hI:fQ h k s p) (hp:¬p<s.size) :
 aH P ⟨dst,.next x true,ty,pos,after,guard⟩ ρ h (fun u g=>u= .tuple #[.bool false]/\g=h) X:=by
 refine aH.sd fun n B a w hf ha=>⟨w,?_,ha⟩
 have hI':w.heap[k]? =some (.stringIter s p):=by rw[ha.heap];exact hI
 simp[execOp,Instr.next,hf.eval hx,getObj,Sem.run,hI',hp]
section
variable {n:Nat}{ops:Array Oper}{M:Nat->Prop}{keeps:Nat->Bool}{fuel:Nat}{listed:Array Bool}{N:Env->ai->Prop}
theorem RD.Mf (i j:Nat){oi oj:Oper}{Φ Φ':Value->ai->Prop}{li lj:Array Bool}{di:Nat}(hi:nth ops.toList i=some oi) (hj:nth ops.toList j=some oj) (hr:Region.ready .any ops listed=[i,j])
 (hwi:aK ops ρ oi=some true) (hwj:aK ops ρ oj=some true) (hodi:oi.dst=some di) (hodj:oj.dst=none) (hdi:Nat.blt di n=true) (ki:aH P oi ρ h Φ X) (kj:aH P oj ρ h Φ' X)
 (hli:listed.setIfInBounds i true=li) (hlj:listed.setIfInBounds j true=lj)
 (nexti:∀v h',Φ v h'->(keeps i=true->Ext M h h')/\RD P n ops M keeps fuel li ((di,v)::ρ) h' N X)
 (nextj:∀v h',Φ' v h'->(keeps j=true->Ext M h h')/\RD P n ops M keeps fuel lj ρ h' N X):RD P n ops M keeps (fuel+1) listed ρ h N X :=
 HZ i j hi hj hr hwi hwj hodi hodj hdi rfl ki kj hli hlj nexti nextj
end
end
end Go.Lw
namespace Go.Lw
section
variable {t e:TypeId}{x:Operand}{n:Nat}
theorem add_zero' (a:Addr) (n:Nat):a.add (0*n)=a:=by simp[Addr.add]
theorem lZ (oa:Option Addr) (sz m:Nat):aP oa 0 sz m=oa:=by
 unfold aP;split
 · rfl
 · cases oa with
   |none=>rfl
   |some a=>rw[Option.map_some,add_zero']
section
variable {P:Program}{ρ:Env}{h:ai}{dst:Option Nat}{ty:TypeId}{pos:String}{after:Array Edge}{guard:Option (Nat×Bool)}{X:List PanicEntry->ai->Prop}
theorem an.uC {hi mx:Operand}{oa:Option Addr}{c sz:Nat}{k k':IntKind}{jl ml:Int}(hu:P.underlying t=some (.slice e)) (hs:bE P e=some sz) (hx:aT ρ x=some (.slice oa n c)) (hh:aT ρ hi=some (.int k jl)) (j:Nat) (hjl:jl=j) (hm:aT ρ mx=some (.int k' ml)) (m:Nat) (hml:ml=m) (hj:j<=m) (hmc:m<=c) :
 an P ⟨dst,.slice t x none (some hi) (some mx),ty,pos,after,guard⟩ ρ h (.slice oa j m):=by
 intro _ B a w hf _;subst hjl;subst hml;have h0:oa.map (fun x=>x.add 0)=oa:=by cases oa<;>simp[Addr.add]
 simp[execOp,Instr.sliceAt,Instr.slice,Instr.sliceBounds,Instr.sliceBound,run_underlying hu,asIntOf,hf.eval hx,hf.eval hh,hf.eval hm,hj,hmc,run_sizeOf hs,h0]
theorem aH.Dg {size bytes:Nat}{y:Operand}{c:Nat}{xs news:List Value}{oa ob:Option Addr}{m d:Nat}(ht:P.underlying t=some (.slice e)) (he:cD P e size bytes)
 (hx:aT ρ x=some (.slice oa n c)) (hy:aT ρ y=some (.slice ob m d)) (hl:xs.length=n*size) (ho:n=0\/∃b o,oa=some ⟨b,o,none⟩/\rowAt h b o xs) (hc:c=n)
 (hl2:news.length=m*size) (hnews:∃b o,ob=some ⟨b,o,none⟩/\rowAt h b o news) (hm:0<m) (h63:n+m<=maxLen) (hbytes:(n+m)*bytes<=140737488355328) :
 aH P ⟨dst,.call ⟨.builtin .append,#[x,y],#[t,t]⟩,ty,pos,after,guard⟩ ρ h (fun v' h'=>ay h' h.size e size v' (n+m) (xs++news)/\ah h h') X:=by
 intro nn B a w hf ha next Q hn _
 obtain⟨b2,o2,rfl,hrow2⟩:=hnews;obtain⟨⟨i,z,hi,hz,rfl,rfl,hzs⟩,hsz⟩:=he;have hsmall:n+m<=9223372036854775807:=by simp only[maxLen] at h63;omega
 have hlen:(xs++news).length=(n+m)*i.size:=by rw[List.length_append,hl,hl2,Nat.add_mul]
 have hnw:∀j u,news[j]? =some u->w.cell? ((⟨b2,o2,none⟩:Addr).add j)=some u:=fun j u hu=>by rw[Addr.add_mid,ha.cell];exact hrow2 j u hu
 obtain⟨old,ho2,e0⟩:∃old,old<n+m/\(Builtin.append_ #[t,t] ty #[.slice oa n c,.slice (some ⟨b2,o2,none⟩) m d]).run P w= .ok (.slice (some ⟨w.heap.size,0,none⟩) (n+m) (grownCap w (n+m) old e)) (w.drew.alloc (.cells (xs.toArray++news.toArray++Builtin.zeroCells z.cells (grownCap w (n+m) old e-(n+m))) e)):=by
  subst hc
  have ho2:(oa=none/\c=0)\/∃a,oa=some a/\∀j u,xs[j]? =some u->w.cell? (a.add j)=some u:=by
   rcases ho with rfl|⟨b1,o1,rfl,hrow1⟩
   · cases oa with
     |none=>exact .inl ⟨rfl,rfl⟩
     |some a=>exact .inr ⟨a,rfl,fun j u hu=>by
      have hx0:xs=[]:=List.eq_nil_of_length_eq_zero (by simpa using hl);subst hx0;simp at hu⟩
   · exact .inr ⟨_,rfl,fun j u hu=>by rw[Addr.add_mid,ha.cell];exact hrow1 j u hu⟩
  rcases ho2 with ⟨rfl,rfl⟩|⟨a1,rfl,hold⟩
  · have hx0:xs=[]:=List.eq_nil_of_length_eq_zero (by simpa using hl);subst hx0;have hr:=run_append_nil (P:=P) w t ty e i z ht hi hz ⟨b2,o2,none⟩ m d news hl2 hnw (by omega) (by omega) (by simp only[Nat.zero_add] at hbytes;omega);exact⟨0,by omega,by simpa using hr⟩
  · exact⟨c,by omega,run_append_grow (P:=P) w t ty e i z ht hi hz a1 c c xs hl hold ⟨b2,o2,none⟩ m d news hl2 hnw (by omega) (by omega) (growslice_fits (by omega) hbytes)⟩
 have hge:=grownCap_ge w (n+m) old e;have hcm:grownCap w (n+m) old e<=maxLen:=grownCap_le_maxLen w (n+m) old e h63
 have hown:(w.drew.alloc (.cells (xs.toArray++news.toArray++Builtin.zeroCells z.cells (grownCap w (n+m) old e-(n+m))) e)).ownsRow w.heap.size e i.size (.slice (some ⟨w.heap.size,0,none⟩) (n+m) (grownCap w (n+m) old e)) (n+m) (xs++news):=by
  refine⟨hlen,.inr ⟨w.heap.size,_,_,rfl,Nat.le_refl _,heap_alloc_new w.drew _,hge,hcm,?_,?_⟩⟩
  · simp only[Array.size_append,List.size_toArray,size_zeroCells,hzs,hl,hl2,<-Nat.add_mul]
    congr 1
    omega
  · simp only[Array.toList_append,List.append_assoc];rw[<-List.append_assoc,<-hlen];exact List.take_left
 have hgr:w.grownBy (w.drew.alloc (.cells (xs.toArray++news.toArray++Builtin.zeroCells z.cells (grownCap w (n+m) old e-(n+m))) e)) none:=⟨rfl,rfl,rfl,by simp,fun k hk _=>by first|exact heap_alloc_old w.drew _ k hk|exact heap_alloc_old w.drew _ hk⟩
 unfold Oper.wp execOp;simp only[resolve,invoke,builtin,Sem.run_bind,Sem.run_pure,Result.andThen_ok,List.map_toArray,List.map_cons,List.map_nil,hf.eval hx,hf.eval hy,e0];refine hn _ _ _ (ha.grown hgr) ⟨?_,?_⟩
 · have:=(At.own (ha.grown hgr)).1 hown
   rwa [ha.heap] at this ⊢
 · rw[<-ha.heap];exact fO (ir hgr)
end
theorem aH.sD {P:Program}{ρ:Env}{h:ai}{dst:Option Nat}{ty:TypeId}{pos:String}{after:Array Edge}{guard:Option (Nat×Bool)}{X:List PanicEntry->ai->Prop}{bytes sz:Nat}{y:Operand}{kl kc:IntKind}{z:Value}
 (ht:P.underlying t=some (.slice e)) (he:cD P e sz bytes) (hz:(P.info? e).bind (·.zero)=some z) (hx:aT ρ x=some (.int kl (n:Nat))) (hy:aT ρ y=some (.int kc (n:Nat))) (hn:n*sz<=1000000) (hn2:n<=1000000) (hb:bytes<=1000) :
 aH P ⟨dst,.makeSlice t x y,ty,pos,after,guard⟩ ρ h (fun u g=>u= .slice (some ⟨h.size,0,none⟩) n n/\az g h.size e (madeCells z.cells (n*sz)).toList/\ah h g/\g.size=h.size+1) X:=by
 obtain⟨⟨i,z',hi,hz',hsz,hby,hzs⟩,_⟩:=he;have hzz:z'=z:=by rw[hi] at hz;simpa [hz'] using hz
 subst hzz;intro nn B a w hf ha next Q hnx _
 have hmul:i.bytes*n<=1000*1000000:=Nat.mul_le_mul (by omega) hn2;have hr:=run_makeSlice (P:=P) (w:=w) t e i z' ht hi hz' kl kc (n:Int) (n:Int) (by omega) (by omega) (by rw[Int.toNat_natCast,hsz];omega) (by rw[<-Int.natCast_mul];omega) (by omega);unfold Oper.wp execOp;simp only[hf.eval hx,hf.eval hy,Sem.run_bind,Sem.run_pure,Result.andThen_ok,hr];refine hnx _ (h.push (.cells (madeCells z'.cells (n*sz)) e)) _ ⟨?_,ha.os,ha.tape,ha.output⟩ ⟨?_,?_,Ext.push _ _ _,by simp⟩
 · simp[World.alloc,ha.heap,hsz]
 · simp[ha.heap]
 · unfold az;simp
end
end Go.Lw
namespace Go.Lw
section
variable {P:Program}{ρ:Env}{h:ai}{dst:Option Nat}{ty:TypeId}{pos:String}{after:Array Edge}{guard:Option (Nat×Bool)}
theorem an.pR {t e:TypeId}{x lo hi mx:Operand}{oa:Option Addr}{n c sz:Nat}{k k' k'':IntKind}{il jl ml:Int}(hu:P.underlying t=some (.slice e)) (hs:bE P e=some sz) (hx:aT ρ x=some (.slice oa n c)) (hl:aT ρ lo=some (.int k il)) (i:Nat) (hil:il=i) (hh:aT ρ hi=some (.int k' jl)) (j:Nat) (hjl:jl=j) (hm:aT ρ mx=some (.int k'' ml)) (m:Nat) (hml:ml=m) (hij:i<=j) (hj:j<=m) (hmc:m<=c) :
 an P ⟨dst,.slice t x (some lo) (some hi) (some mx),ty,pos,after,guard⟩ ρ h (.slice (aP oa i sz m) (j-i) (m-i)):=by
 intro _ B a w hf _;subst hil;subst hjl;subst hml;simp[execOp,Instr.sliceAt,Instr.slice,Instr.sliceBounds,Instr.sliceBound,run_underlying hu,asIntOf,hf.eval hx,hf.eval hl,hf.eval hh,hf.eval hm,run_sizeOf hs,hij,hj,hmc,aP]
end
end Go.Lw
namespace Go.Lw
section
variable {P:Program}{ρ:Env}{h:ai}{dst:Option Nat}{ty:TypeId}{pos:String}{after:Array Edge}{guard:Option (Nat×Bool)}
end
end Go.Lw
namespace Go.Lw
open Go.RowKit
section
variable {P:Program}{ρ:Env}{h:ai}{dst:Option Nat}{ty:TypeId}{pos:String}{after:Array Edge}{guard:Option (Nat×Bool)}{X:List PanicEntry->ai->Prop}
end
theorem lQ {α:Type}{sz:Nat}:∀(css:List (List α)) (i:Nat) (cs:List α),(∀c∈css,c.length=sz)->cs.length=sz->i<css.length->(css.set i cs).flatten=css.flatten.take (i*sz)++cs++css.flatten.drop (i*sz+sz)
 | [],i,cs,_,_,hi=>by cases hi
 |c::css,0,cs,hl,hc,_=>by
  have h0:c.length=sz:=hl c (by simp);rw[List.set_cons_zero,List.flatten_cons,List.flatten_cons,Nat.zero_mul,List.take_zero,List.nil_append,Nat.zero_add,List.drop_append_of_le_length (Nat.le_of_eq h0.symm),List.drop_of_length_le (Nat.le_of_eq h0),List.nil_append]
 |c::css,i+1,cs,hl,hc,hi=>by
  have h0:c.length=sz:=hl c (by simp);have e:(i+1)*sz=c.length+i*sz:=by rw[h0,Nat.add_mul];omega
  rw[List.set_cons_succ,List.flatten_cons,List.flatten_cons,lQ css i cs (fun c hc=>hl c (by simp[hc])) hc (by simpa using hi),e,List.take_length_add_append,Nat.add_assoc,List.drop_length_add_append];simp
section
variable {P:Program}{f:FuncId}{fn:Func}{k:List It}{ρ:Env}{h:ai}{R:Ending->ai->Prop}{p:List Nat}
theorem G.EI {g:Operand}{ps:Array Tmp}{assign body:Code}{f':FuncId}{fn':Func}{caps:Array Value}(hfn:P.funcs[f]? =some fn) (hk:Lw.sub (aq fn) p= .rangeFunc g ps assign body) (hg:aT ρ g=some (.func (.func f') #[] caps))
 (hfn':P.funcs[f']? =some fn') (hb':fn'.body.isSome=true) (hnm':(fn'.name == "runtime.NumGoroutine")=false)
 (hcall:∀fid tmps,Fits fn.ntmps ρ { tmps:=tmps,defers:=[] }->aj P f' (#[.func (.yield (h.size+1)) #[] #[]]++caps) ((h.push (.deferred (some []))).push (.loop (bK fid tmps ps assign body h.size)))
  (aN fun _ h'=>∃r,bY h' (h.size+1) r/\r.state≠ .busy/\(r.pending=none/\GD P (dF h.size) f fn k ρ (bA h' (h.size+1) (.loop { r with state:=.exhausted })) R \/
   r.pending=some .ret/\h'[h.size]? =some (.deferred (some []))/\∃vs,dS P ρ (bA (bA h' (h.size+1) (.loop { r with state:=.exhausted })) h.size (.deferred none)) fn.results.toList vs /\
    R (.returned (packed vs)) (bA (bA h' (h.size+1) (.loop { r with state:=.exhausted })) h.size (.deferred none))))):G P f fn (.code p::k) ρ h R:=by
 intro B a w hf ha b hb hkk cs
 let Q:Exit->Act->World->Prop:=fun e a' w'=>match e with
  |.normal=>∃h',iN (dF h.size) fn.ntmps ρ a'/\At B h' w'/\GD P (dF h.size) f fn k ρ h' R
  |.ret=>∃h',iN (dF h.size) fn.ntmps ρ a'/\At B h' w'/\h'[h.size]? =some (.deferred (some []))/\∃vs,dS P ρ (bA h' h.size (.deferred none)) fn.results.toList vs/\R (.returned (packed vs)) (bA h' h.size (.deferred none))
  |_=>False
 have hw:(Code.rangeFunc g ps assign body).wp P Q a w:=by
  refine(wpIn_wide (n:=0)).1 (wpIn_rangeFunc fun fid _=>?_);have hb2:fn'.body≠none:=by intro hbb;simp[hbb] at hb'
  have hnm2:¬fn'.name= "runtime.NumGoroutine" :=by simpa using hnm'
  have hf0:Fits fn.ntmps ρ { tmps:=a.tmps,defers:=[] }:=⟨hf.size,hf.ok,rfl⟩
  have ha2:At B ((h.push (.deferred (some []))).push (.loop (bK fid a.tmps ps assign body h.size))) ((w.alloc (.deferred (some []))).alloc (.loop (bK fid a.tmps ps assign body w.heap.size))):=by
   refine⟨?_,ha.os,ha.tape,ha.output⟩
   show ((w.heap.push _).push _)=_
   rw[ha.heap]
  let W1:World:=(w.alloc (.deferred (some []))).alloc (.loop (bK fid a.tmps ps assign body w.heap.size))
  refine⟨w.heap.size+1,dF w.heap.size,W1,{ target:=.fn (.func f') caps,args:= #[.func (.yield (w.heap.size+1)) #[] #[]] },W1,f',#[.func (.yield (w.heap.size+1)) #[] #[]]++caps,W1,run_enterLoop_outer fid a.tmps ps assign body,?_,fun _ _=>trivial,?_,fun h=>by simp[Fence.wide] at h,?_⟩
  · have hge:a.eval g= .func (.func f') #[] caps:=hf.eval hg;have hec:∀v,a.eval (.const v)=v:=fun _=>rfl
    simp[resolve,hge,Deferred.ofValue,hec]
  · simp[invoke,callFunc,hfn',hnm2,hb2]
  · refine s8 (ro:=none) ((?_:Calls P f' (#[.func (.yield (w.heap.size+1)) #[] #[]]++caps) ((w.alloc (.deferred (some []))).alloc (.loop (bK fid a.tmps ps assign body w.heap.size))) _));have hc:=hcall fid a.tmps hf0 B _ ha2;rw[<-ha.heap] at hc;refine hc.mono fun e w3 he=>?_
    obtain⟨h3,ha3,v,rfl,r,hl,hnb,hcs⟩:=he;have hl3:w3.heap[w.heap.size+1]? =some (.loop r):=by rw[ha3.heap];exact hl
    have hfd:iN (dF h.size) fn.ntmps ρ { a with defers:=dF w.heap.size++a.defers }:=⟨hf.size,hf.ok,by
     show dF w.heap.size++a.defers=dF h.size
     rw[hf.nd,ha.heap];rfl⟩
    refine⟨r.pending,_,run_endLoop hl3 hnb,?_⟩;split
    · rename_i hc
      rcases hcs with ⟨hpd,hgd⟩|⟨hpd,_⟩
      · exact⟨_,hfd,ha3.bA _ _,by rw[<-ha.heap];exact hgd⟩
      · rw[hpd] at hc;cases hc
    · rename_i c hc
      rcases hcs with ⟨hpd,_⟩|⟨hpd,hmk,vs,hra,hR⟩
      · rw[hpd] at hc;cases hc
      · obtain rfl:Code.ret=c:=Option.some.inj (hpd.symm.trans hc);refine wpIn_ret ?_;refine⟨_,hfd,ha3.bA _ _,?_,vs,by rw[<-ha.heap];exact hra,by rw[<-ha.heap];exact hR⟩;have hne:¬(w.heap.size+1=h.size):=by rw[ha.heap];omega
        rw[bA,Array.getElem?_setIfInBounds_ne hne,<-ha.heap];exact hmk
 obtain⟨e,a',w',hq,harr⟩:=hw b (k.map (aF (aq fn))) cs;have hit:(It.code p::k).map (aF (aq fn))=Item.code (Code.rangeFunc g ps assign body)::k.map (aF (aq fn)):=by simp[aF,hk]
 rw[hit];cases e with
 |normal =>
  obtain⟨h',f'',a'',hgd⟩:=hq;obtain⟨e,w'',fr,h'',h1,h2,h3,h4,h5⟩:=hgd B a' w' f'' a'' b hb hkk cs;exact⟨e,w'',fr,h'',h1,h2,.of_steps harr h3,h4,h5⟩
 |ret =>
  obtain⟨h',f'',a'',hm,vs,hr,hR⟩:=hq;obtain⟨todo,hs⟩:=harr;have htake:(Instr.takeDeferred h.size).run P w'= .ok [] (w'.putObj h.size (.deferred none)):=run_takeDeferred (by rw[a''.heap];exact hm);have h2:=step_collected (P:=P) (fr:= { b.at a' todo with mode:=.returning }) (cs:=cs) (by simp) (f''.nd:_=_) rfl htake;have hz:=f''.zero;exact⟨.returned (packed vs),_,_,_,a''.bA h.size _,hR,hs.trans (.one h2),hb,rfl,rfl,hkk,fn,(show P.funcs[b.fn]? =some fn by rw[hb];exact hfn),eu hz (a''.bA h.size _) hr⟩
 |panic ch=>exact hq.elim
 |exit id=>exact hq.elim
 |goto l=>exact hq.elim
 |outgrown=>exact hq.elim
theorem GD.nS {b0:Nat}{vs:List Value}(hfn:P.funcs[f]? =some fn) (hk:kind (Lw.sub (aq fn) p)=4) (hm:h[b0]? =some (.deferred (some []))) (hr:dS P ρ (bA h b0 (.deferred none)) fn.results.toList vs) (hR:R (.returned (packed vs)) (bA h b0 (.deferred none))):GD P (dF b0) f fn (.code p::k) ρ h R:=by
 intro B a w hf ha b hb hkk cs
 have hstep:Go.step P (lone (b.at a ((It.code p::k).map (aF (aq fn)))) cs w)= .next (lone { b.at a ((It.code p::k).map (aF (aq fn))) with mode:=.returning } cs w):=by
  simp only[List.map_cons,aF];cases hc:Lw.sub (aq fn) p<;>simp[hc,kind] at hk
  · rename_i d;cases d<;>simp at hk
  · exact step_ret
 have htake:(Instr.takeDeferred b0).run P w= .ok [] (w.putObj b0 (.deferred none)):=run_takeDeferred (by rw[ha.heap];exact hm);have h2:=step_collected (P:=P) (fr:= { b.at a ((It.code p::k).map (aF (aq fn))) with mode:=.returning }) (cs:=cs) (by simp) (hf.nd:_=_) rfl htake;have hz:=hf.zero;exact⟨.returned (packed vs),_,_,_,ha.bA b0 _,hR,.head hstep (.one h2),hb,rfl,rfl,hkk,fn,(show P.funcs[b.fn]? =some fn by rw[hb];exact hfn),eu hz (ha.bA b0 _) hr⟩
end
end Go.Lw
