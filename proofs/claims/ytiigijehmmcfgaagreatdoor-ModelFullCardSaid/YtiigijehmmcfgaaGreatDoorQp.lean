/- What the proof of the statement leans on (part 16). -/
import GoSem.Core.Utf8
import Derived.Lib.ConvBytes
import Derived.Lib.AtoiErrMem
import Derived.Laws.Runes
import Derived.Test.YtiigijehmmcfgaaGreatDoorQo

namespace Go.Lw
open Go.RowKit
section
variable {k p:Nat}{s:ByteArray}{x:Operand}
variable {P:Program}{ρ:Env}{h:ay}{X:List PanicEntry->ay->Prop}{dst:Option Nat}{ty:TypeId}{pos:String}{after:Array Edge}{guard:Option (Nat×Bool)}
def gZ (h:ay) (k:Nat) (s:ByteArray) (p:Nat):Prop:=h[k]? =some (.stringIter s p)
theorem gZ.lt (i:gZ h k s p):k<h.size:=(Array.getElem?_eq_some_iff.1 i).1
theorem gZ.ext {M:Nat->Prop}{h':ay}(i:gZ h k s p) (e:Ext M h h') (hm:¬M k):gZ h' k s p:=(e.block k i.lt hm).trans i
theorem av.yY {t:TypeId}(ht:P.underlying t=some .string) (hx:bQ ρ x=some (.string s)) :
 av P ⟨dst,.range t x,ty,pos,after,guard⟩ ρ h (fun u g=>u= .pointer (some ⟨h.size,0,none⟩)/\gZ g h.size s 0/\aD h g/\g.size=h.size+1) X:=by
 have k:av P ⟨dst,.range t x,ty,pos,after,guard⟩ ρ h (fun u g=>u= .pointer (some ⟨h.size,0,none⟩)/\g=h.push (.stringIter s 0)) X:=by
  refine av.sW fun n B a w hf ha=>⟨{ w with heap:=w.heap.push (.stringIter s 0) },?_,?_⟩
  · simp[execOp,Instr.range,run_underlying ht,hf.eval hx,ha.heap,newObj,Sem.run]
  · rw[ha.heap];exact ha.pF _
 refine k.mono (fun u g ⟨h1,h2⟩=>⟨h1,?_⟩) (fun _ _ h=>h);subst h2;refine⟨by simp[gZ],⟨by simp,fun b hb _=>?_⟩,by simp⟩;rw[Array.getElem?_push,if_neg (by omega)]
theorem av.Ch (hx:bQ ρ x=some (.pointer (some ⟨k,0,none⟩))) (hI:gZ h k s p) (hp:p<s.size) :
 av P ⟨dst,.next x true,ty,pos,after,guard⟩ ρ h (fun u g=>u= .tuple #[.bool true,.int .i64 p,.int .i32 (Utf8.decode s p).1]/\gZ g k s (p+(Utf8.decode s p).2)/\Ext (fun b=>b=k) h g/\g.size=h.size) X:=by
 have q:av P ⟨dst,.next x true,ty,pos,after,guard⟩ ρ h (fun u g=>u= .tuple #[.bool true,.int .i64 p,.int .i32 (Utf8.decode s p).1]/\g=h.setIfInBounds k (.stringIter s (p+(Utf8.decode s p).2))) X:=by
  refine av.sW fun n B a w hf ha=>⟨{ w with heap:=w.heap.setIfInBounds k (.stringIter s (p+(Utf8.decode s p).2)) },?_,?_⟩
  · have hI':w.heap[k]? =some (.stringIter s p):=by rw[ha.heap];exact hI
    simp[execOp,Instr.next,hf.eval hx,getObj,setObj,Sem.run,hI',hp,goInt]
  · rw[ha.heap];exact ha.pF _
 refine q.mono (fun u g ⟨h1,h2⟩=>⟨h1,?_⟩) (fun _ _ h=>h);subst h2;have hs:=vL h k (.stringIter s (p+(Utf8.decode s p).2));refine⟨?_,hs.1,hs.2⟩;unfold gZ;rw[Array.getElem?_setIfInBounds,if_pos rfl,if_pos hI.lt]
theorem av.Ci (hx:bQ ρ x=some (.pointer (some ⟨k,0,none⟩))) (hI:gZ h k s p) (hp:¬p<s.size) :
 av P ⟨dst,.next x true,ty,pos,after,guard⟩ ρ h (fun u g=>u= .tuple #[.bool false]/\g=h) X:=by
 refine av.sW fun n B a w hf ha=>⟨w,?_,ha⟩
 have hI':w.heap[k]? =some (.stringIter s p):=by rw[ha.heap];exact hI
 simp[execOp,Instr.next,hf.eval hx,getObj,Sem.run,hI',hp]
section
variable {n:Nat}{ops:Array Oper}{M:Nat->Prop}{keeps:Nat->Bool}{fuel:Nat}{listed:Array Bool}{N:Env->ay->Prop}
theorem RD.Eg (i j:Nat){oi oj:Oper}{Φ Φ':Value->ay->Prop}{li lj:Array Bool}{di:Nat}(hi:nth ops.toList i=some oi) (hj:nth ops.toList j=some oj) (hr:Region.ready .any ops listed=[i,j])
 (hwi:bG ops ρ oi=some true) (hwj:bG ops ρ oj=some true) (hodi:oi.dst=some di) (hodj:oj.dst=none) (hdi:Nat.blt di n=true) (ki:av P oi ρ h Φ X) (kj:av P oj ρ h Φ' X)
 (hli:listed.setIfInBounds i true=li) (hlj:listed.setIfInBounds j true=lj)
 (nexti:∀v h',Φ v h'->(keeps i=true->Ext M h h')/\RD P n ops M keeps fuel li ((di,v)::ρ) h' N X)
 (nextj:∀v h',Φ' v h'->(keeps j=true->Ext M h h')/\RD P n ops M keeps fuel lj ρ h' N X):RD P n ops M keeps (fuel+1) listed ρ h N X :=
 FR i j hi hj hr hwi hwj hodi hodj hdi rfl ki kj hli hlj nexti nextj
end
theorem av.CQ {s d e:TypeId}{u:TypeDesc}{l:ByteArray}(hs:P.underlying s=some u) (hd:P.underlying d=some (.slice e)) (he:P.underlying e=some (.int .u8)) (hx:bQ ρ x=some (.string l)) (hl:l.size<=maxLen) :
 av P ⟨dst,.convert s d x,ty,pos,after,guard⟩ ρ h (fun v g=>(∃c,v= .slice (some ⟨h.size,0,none⟩) l.size c/\Wr (fun y:UInt8=>Value.int .u8 y.toNat) (fun _=>rfl) g h.size (some ⟨h.size,0,none⟩) l.size c l.data.toList)/\aD h g) X:=by
 intro nn B a w hf ha next Q hn _
 have hrun:(execOp a.eval ⟨dst,.convert s d x,ty,pos,after,guard⟩).run P w= .ok (.value (.slice (some ⟨w.heap.size,0,none⟩) l.size (grownCap w l.size 0 e))) (Lib.bytesWorld w e l):=by
  simp only[execOp,hf.eval hx,Sem.run_bind,Lib.run_convert_string_bytes w s d e l hs hd he,Result.andThen_ok,Sem.run_pure]
 unfold Oper.wp;rw[hrun];have hb:=Lib.bytesWorld_below w e l;have hz:w.heap=h:=ha.heap;refine hn _ (Lib.bytesWorld w e l).heap _ ⟨rfl,hb.os.trans ha.os,hb.tape.trans ha.tape,hb.output.trans ha.output⟩ ⟨⟨_,by rw[hz],⟨⟨by simp,grownCap_ge _ _ _ _,grownCap_le_maxLen _ _ _ _ hl,fun i y hy=>?_⟩,fun b o i ha' hi=>?_⟩⟩,by rw[<-ha.heap];exact BV hb⟩
 · obtain⟨hi,hy⟩:=List.getElem?_eq_some_iff.1 hy;refine⟨_,_,[.int .u8 y.toNat],rfl,Nat.lt_irrefl _,?_,rfl⟩;have hc:=Lib.bytesWorld_cell w e l i (by simpa using hi);rw[hz] at hc;intro j v hv;cases j with
   |succ j=>simp at hv
   |zero =>
    cases hv;have e1:l.data.toList.getD i 0=y:=by rw[List.getD_eq_getElem?_getD,List.getElem?_eq_getElem hi,hy];rfl
    rw[e1] at hc;rw[show (0:Nat)+i*(iM.flat (fun y:UInt8=>Value.int .u8 y.toNat) (fun _=>rfl)).sz+0=i by show 0+i*1+0=i;omega];exact hc
 · cases ha';have hn2:=Lib.bytesWorld_at_new w e l;rw[hz] at hn2;have hsz:(Lib.bytesCells w e l).size=l.size+(grownCap w l.size 0 e-l.size):=by simp[Lib.bytesCells]
   unfold frozenAt;rw[hn2];simp;omega
end
end Go.Lw
namespace Go.Lw
open Go.RowKit
section
variable {P:Program}{ρ:Env}{h:ay}{dst:Option Nat}{ty:TypeId}{pos:String}{after:Array Edge}{guard:Option (Nat×Bool)}
end
theorem Ext.La {M N:Nat->Prop}{a b c:ay}(e:Ext M a b) (x:Ext N b c) (hn:∀i,i<a.size->N i->M i):Ext M a c :=
 ⟨Nat.le_trans e.size x.size,fun i hi hm=>(x.block i (Nat.lt_of_lt_of_le hi e.size) (fun q=>hm (hn i hi q))).trans (e.block i hi hm)⟩
section
variable {P:Program}{ρ:Env}{h:ay}{dst:Option Nat}{ty:TypeId}{pos:String}{after:Array Edge}{guard:Option (Nat×Bool)}
theorem ak.wu {t e:TypeId}{n sz:Nat}{x y:Operand}{cs:Array Value}{k:IntKind}{j:Int}{ds:Array Value}(hu:P.underlying t=some (.array n e)) (hs:dL P e=some sz) (hr:b7 P e=some true) (hx:bQ ρ x=some (.agg cs)) (hy:bQ ρ y=some (.int k j)) (i:Nat) (hj:j=i) (hi:i<n) (hv:cs.extract (i*sz) (i*sz+sz)=ds) :
 ak P ⟨dst,.index t x y,ty,pos,after,guard⟩ ρ h (.agg ds):=by
 intro _ B a w hf _;subst hj;simp[execOp,Instr.index,run_underlying hu,asIntOf,hf.eval hx,hf.eval hy,run_sizeOf hs,hi,part,kP hr,hv]
end
end Go.Lw
namespace Go.Lw
section
variable {P:Program}{ρ:Env}{h:ay}{dst:Option Nat}{ty:TypeId}{pos:String}{after:Array Edge}{guard:Option (Nat×Bool)}{X:List PanicEntry->ay->Prop}
end
end Go.Lw
namespace Go.Lw
theorem cn.open_slice {α:Type}{e:iM α}{h:ay}{O:Nat->Prop}{oa:Option Addr}{n c:Nat}{xs:List α}(k:cn e h O (.slice oa n c) xs):Sl e h O oa n c xs:=by
 obtain⟨oa',n',c',hv,k'⟩:=k.open;cases hv;exact k'
theorem zZ {off:Nat}:∀(cs:List Value) (k:Nat) (pre tl:List Value) (rest:List Value),pre.length=off+k->tl.length=cs.length ->
 (cs.zipIdx k).foldl (fun(a:Array Value) (p:Value×Nat)=>a.setIfInBounds (off+p.2) p.1) (pre++(tl++rest)).toArray=(pre++(cs++rest)).toArray
 | [],k,pre,tl,rest,_,hl=>by
  have:tl=[]:=List.eq_nil_of_length_eq_zero (by simpa using hl);subst this;rfl
 |c::cs,k,pre,[],rest,hp,hl=>by simp at hl
 |c::cs,k,pre,t::tl,rest,hp,hl=>by
  rw[List.zipIdx_cons,List.foldl_cons]
  have hset:(pre++(t::tl++rest)).toArray.setIfInBounds (off+k) c=((pre++[c])++(tl++rest)).toArray:=by
   rw[<-hp];simp[List.set_append_right]
  simp only[hset];rw[zZ cs (k+1) (pre++[c]) tl rest (by simp[hp];omega) (by simpa using hl)];simp
theorem wC {sz:Nat}:∀(css:List (List Value)),(∀c∈css,c.length=sz)->∀(k:Nat) (pre tl:List Value),pre.length=k*sz->tl.length=css.length*sz ->
 Instr.fill (fun i=>some (i*sz,sz)) (pre++tl).toArray (css.zipIdx k |>.map fun p=>(p.2,Value.agg p.1.toArray))=some (pre++css.flatten).toArray
 | [],_,k,pre,tl,_,hl=>by
  have:tl=[]:=List.eq_nil_of_length_eq_zero (by simpa using hl);subst this;simp[Instr.fill]
 |c::css,h1,k,pre,tl,hp,hl=>by
  have hc:c.length=sz:=h1 c (by simp);have hl':tl.length=sz+css.length*sz:=by rw[hl,List.length_cons,Nat.add_mul];omega
  have ih:=wC css (fun v hv=>h1 v (by simp[hv])) (k+1) (pre++c) (tl.drop sz) (by rw[List.length_append,hp,hc,Nat.add_mul];omega) (by rw[List.length_drop];omega);simp only[List.zipIdx_cons,List.map_cons,Instr.fill,Value.cells];have htl:tl=tl.take sz++tl.drop sz:=(List.take_append_drop sz tl).symm;have hf:=zZ (off:=k*sz) c 0 pre (tl.take sz) (tl.drop sz) (by rw[hp];omega) (by rw[List.length_take];omega);rw[<-htl] at hf;have h2:¬(c.toArray.size≠sz\/k*sz+c.toArray.size>(pre++tl).toArray.size):=by simp;omega
  have hz:c.toArray.zipIdx.foldl (fun(cs:Array Value) (p:Value×Nat)=>cs.setIfInBounds (k*sz+p.2) p.1) (pre++tl).toArray=(pre++(c++tl.drop sz)).toArray:=by
   rw[<-hf];simp
  simp only[Bool.or_eq_true,decide_eq_true_eq,if_neg h2];rw[if_neg (by simpa using h2)];rw[hz,<-List.append_assoc,ih];simp
section
variable {P:Program}{ρ:Env}{h:ay}{dst:Option Nat}{ty:TypeId}{pos:String}{after:Array Edge}{guard:Option (Nat×Bool)}{X:List PanicEntry->ay->Prop}
theorem av.wF {t e:TypeId}{size bytes len:Nat}{ps:Array (Nat×Operand)}(ht:P.underlying t=some (.slice e)) (he:gu P e size bytes) (css:List (List Value))
 (hps:ps.toList.map (fun p=>(p.1,bQ ρ p.2))=(css.zipIdx.map fun p=>(p.2,Value.agg p.1.toArray)).map (fun p=>(p.1,some p.2))) (hl:css.length=len) (hlen:len*size<=16777216) (h1:∀c∈css,c.length=size) :
 av P ⟨dst,.buildSlice t len ps,ty,pos,after,guard⟩ ρ h (fun u g=>u= .slice (some ⟨h.size,0,none⟩) len len/\g=h.push (.cells css.flatten.toArray e)) X:=by
 refine av.buildSlice ht he hps hlen fun z hz=>?_
 have:=wC css h1 0 [] ((List.range (len*size)).map (fun j=>z[j%z.size]!)) (by simp) (by simp[hl]);rw[List.nil_append,List.nil_append] at this;rw[<-this]
 congr 1
 apply Array.ext';simp
end
theorem vR {α:Type}{sz:Nat}{pos:0<sz}{enc:α->List Value} {hl:∀x,(enc x).length=sz} {h1:∀x,∀v∈enc x,v.oneCell'=true} (h:ay) (xs:List α) (t:TypeId) (n:Nat) (hn:xs.length=n) (hm:n<=maxLen){us:List Value}(hu:us=xs.flatMap enc):cn (.record sz pos enc hl h1) (h.push (.cells us.toArray t)) (fun _=>False) (.slice (some ⟨h.size,0,none⟩) n n) xs:=by
 subst hn hu;have hfl:=mG hl xs
 have k:aM (h.push (.cells (xs.flatMap enc).toArray t)) 0 t sz (.slice (some ⟨h.size,0,none⟩) xs.length xs.length) xs.length (xs.flatMap enc) :=
  ⟨hfl,.inr ⟨h.size,xs.length,(xs.flatMap enc).toArray,rfl,Nat.zero_le _,by simp,Nat.le_refl _,hm,by simpa using hfl,by rw[<-hfl];exact List.take_length⟩⟩
 exact aM.G7 k (fun _ _ k=>k)
end Go.Lw
namespace Go.Lw
section
variable {na:Nat}
structure Km (P:Program) (g:FuncId):Prop where
 ok:∃fn,P.funcs[g]? =some fn/\fn.body.isSome=true/\(fn.name == "runtime.NumGoroutine")=false
section
variable {P:Program}{ρ:Env}{h:ay}{dst:Option Nat}{ty:TypeId}{pos:String}{after:Array Edge}{guard:Option (Nat×Bool)}
theorem av.HH {x:Operand}{g:FuncId}{caps:List Value}{xs:Array Operand}{ts:Array TypeId}{vs:List Value}{Φ:Value->ay->Prop}{X:List PanicEntry->ay->Prop}(hx:bQ ρ x=some (.func (.func g) #[] caps.toArray))
 (hf0:Km P g) (hvs:xs.toList.map (bQ ρ)=vs.map some) (k:ah P g (vs++caps).toArray h (fun e h'=>match e with|.returned v=>Φ v h'|.panicked c=>X c h'|.outgrown=>False)) :
 av P ⟨dst,.call ⟨.value x,xs,ts⟩,ty,pos,after,guard⟩ ρ h Φ X:=by
 obtain⟨fn,hfn,hb,hnm⟩:=hf0.ok;intro n B a w hf ha next Q hn hq
 have hargs:xs.map a.eval=vs.toArray:=by
  apply Array.ext'
  simp only[Array.toList_map]
  have:∀(l:List Operand) (us:List Value),l.map (bQ ρ)=us.map some->l.map a.eval=us:=by
   intro l
   induction l with
   |nil=>intro us hu;cases us<;>simp_all
   |cons x r ih =>
    intro us hu;cases us with
    |nil=>simp at hu
    |cons u us =>
     simp only[List.map_cons,List.cons.injEq] at hu ⊢;exact⟨hf.eval hu.1,ih us hu.2⟩
  exact this _ _ hvs
 have hrun:(execOp a.eval ⟨dst,.call ⟨.value x,xs,ts⟩,ty,pos,after,guard⟩).run P w= .ok (.enter g (vs++caps).toArray) w:=by
  have hb':fn.body≠none:=by intro hbb;simp[hbb] at hb
  have hnm':¬fn.name= "runtime.NumGoroutine" :=by simpa using hnm
  simp[execOp,resolve,hf.eval hx,Deferred.ofValue,invoke,callFunc,hfn,hnm',hb',hargs]
 unfold Oper.wp;rw[hrun];refine(k B w ha).mono fun e w' ⟨h',ha',hr⟩=>?_
 cases e with
 |returned v=>exact hn v h' w' ha' hr
 |panicked c=>exact hq c h' w' ha' hr
 |outgrown=>exact hr.elim
end
section
variable {P:Program}{n:Nat}{ops:Array Oper}{M:Nat->Prop}{keeps:Nat->Bool}{fuel:Nat}{listed:Array Bool}{ρ:Env}{h:ay}{N:Env->ay->Prop}{X:List PanicEntry->ay->Prop}
theorem GQ (hne:(Region.ready .any ops listed).isEmpty=false)
 (next:∀i∈Region.ready .any ops listed,∃o,∃Φ:Value->ay->Prop,ops[i]? =some o/\bG ops ρ o=some true/\gN n o.dst=true/\av P o ρ h Φ X /\
  ∀v h',Φ v h'->(keeps i=true->Ext M h h')/\RD P n ops M keeps fuel (listed.setIfInBounds i true) (ρ.put o.dst v) h' N X):RD P n ops M keeps (fuel+1) listed ρ h N X:=by
 intro B a w hf' ha;refine⟨fun h0=>(by rw[h0] at hne;cases hne),fun q hq=>?_⟩;obtain⟨o,Φ,ho,hw,hd,k,nx⟩:=next q hq
 unfold wpOp;simp only[ho];rw[dN hf' hw,if_pos rfl];refine .inl (k n B a w hf' ha _ _ (fun v h' w' ha' hv=>?_) (fun ch h' w' ha' hx=>⟨hf'.nd,h',ha',hx⟩));obtain⟨h1,h2⟩:=nx v h' hv;exact⟨fun hk=>by rw[ha.heap,ha'.heap];exact h1 hk,h2 B _ w' (hf'.put hd v) ha'⟩
def lN (na m:Nat):Nat:=((List.range na).filter fun a=> !m.testBit a).length
theorem Bj {m:Nat}(h:lN na m=0):∀a,a<na->m.testBit a=true:=by
 intro a ha;have h1:=List.filter_eq_nil_iff.1 (List.length_eq_zero_iff.1 h) a (List.mem_range.2 ha);simpa using h1
abbrev EU (bl:Nat->Option Nat):Nat->Prop:=fun y=>∃a,bl a=some y
structure Kn (na:Nat) (cd ad:Nat->Nat) (R:Nat->(Nat->Prop)->ay->Value->Prop) (Z:ay->Nat->Prop) (ρ0:Env) (h0:ay) (k m:Nat) (bl:Nat->Option Nat) (ρ:Env) (h:ay):Prop where
 sub:Sub ρ0 ρ
 ext:aD h0 h
 res:∀j,j<k->∃v,ρ.at (cd j)=some v/\R j (EU bl) h v
 blk:∀a,a<na->m.testBit a=true->∃b,bl a=some b/\ρ.at (ad a)=some (.pointer (some ⟨b,0,none⟩))/\Z h b
 out:∀a b,bl a=some b->h0.size<=b/\b<h.size
 inj:∀a a' b,bl a=some b->bl a'=some b->a=a'
theorem Sub.cons {ρ0 ρ:Env}{d:Nat}{v:Value}(hs:Sub ρ0 ρ) (hd:ρ0.at d=none):Sub ρ0 ((d,v)::ρ):=by
 induction ρ0 with
 |nil=>trivial
 |cons p r ih =>
  obtain⟨i,u⟩:=p;rw[Env.eW] at hd
  by_cases hid:i=d
  · rw[if_pos hid] at hd;cases hd
  · rw[if_neg hid] at hd;exact⟨by rw[Env.eW,if_neg (Ne.symm hid)];exact hs.1,ih hs.2 hd⟩
theorem D5 {nc:Nat}{ci cd ai ad:Nat->Nat}{co ao:Nat->Oper}{lst:Nat->Nat->Array Bool}{R:Nat->(Nat->Prop)->ay->Value->Prop}{Z:ay->Nat->Prop}{ρ0:Env}{h0:ay}
 (hne:∀k m,k<=nc->m<2 ^ na->nc-k+lN na m≠0->(Region.ready .any ops (lst k m)).isEmpty=false)
 (hrd:∀k m,k<=nc->m<2 ^ na->nc-k+lN na m≠0->∀i∈Region.ready .any ops (lst k m),(k<nc/\i=ci k/\(lst k m).setIfInBounds i true=lst (k+1) m)\/(∃a,a<na/\i=ai a/\m ||| 2 ^ a<2 ^ na/\lN na (m ||| 2 ^ a)+1=lN na m/\(lst k m).setIfInBounds i true=lst k (m ||| 2 ^ a)))
 (hco:∀k,k<nc->ops[ci k]? =some (co k)/\(co k).dst=some (cd k)/\(∀ρ,bG ops ρ (co k)=some true)/\gN n (some (cd k))=true/\ρ0.at (cd k)=none)
 (hao:∀a,a<na->ops[ai a]? =some (ao a)/\(ao a).dst=some (ad a)/\(∀ρ,bG ops ρ (ao a)=some true)/\gN n (some (ad a))=true/\ρ0.at (ad a)=none)
 (hcc:∀j k,j<nc->k<nc->cd j=cd k->j=k) (haa:∀j k,j<na->k<na->ad j=ad k->j=k) (hca:∀j k,j<nc->k<na->cd j≠ad k)
 (hcx:∀k,k<nc->∀(ρ:Env) (h:ay) (O:Nat->Prop),Sub ρ0 ρ->aD h0 h->(∀y,O y->y<h.size)->av P (co k) ρ h (fun v h'=>R k O h' v/\aD h h') X)
 (hax:∀a,a<na->∀(ρ:Env) (h:ay),av P (ao a) ρ h (fun v h'=>v= .pointer (some ⟨h.size,0,none⟩)/\Z h' h.size/\aD h h'/\h'.size=h.size+1) X)
 (R1:∀j O h h' v,R j O h v->aD h h'->R j O h' v) (R2:∀j O h h' v b,R j O h v->aD h h'->h.size<=b->R j (fun y=>y=b\/O y) h' v) (R3:∀j (O O':Nat->Prop) h v,(∀y,O' y->O y)->R j O h v->R j O' h v)
 (Z1:∀h h' b,Z h b->aD h h'->Z h' b)
 (fin:∀m bl ρ h,(∀a,a<na->m.testBit a=true)->m<2 ^ na->Kn na cd ad R Z ρ0 h0 nc m bl ρ h->RD P n ops M keeps fuel (lst nc m) ρ h N X) :
 ∀(r k m:Nat) (bl:Nat->Option Nat) (ρ:Env) (h:ay),k<=nc->m<2 ^ na->r=nc-k+lN na m->Kn na cd ad R Z ρ0 h0 k m bl ρ h->RD P n ops M keeps (r+fuel) (lst k m) ρ h N X:=by
 intro r
 induction r with
 |zero =>
  intro k m bl ρ h hk hm hr I;have hk':k=nc:=by omega
  subst hk';rw[Nat.zero_add];exact fin m bl ρ h (Bj (by omega)) hm I
 |succ r ih =>
  intro k m bl ρ h hk hm hr I;rw[show r+1+fuel=(r+fuel)+1 by omega];refine GQ (hne k m hk hm (by omega)) fun i hi=>?_
  rcases hrd k m hk hm (by omega) i hi with ⟨hkn,rfl,hset⟩|⟨a,han,rfl,hm2,hl,hset⟩
  · obtain⟨c1,c2,c3,c4,c5⟩:=hco k hkn;refine⟨co k,_,c1,c3 ρ,by rw[c2];exact c4,hcx k hkn ρ h (EU bl) I.sub I.ext (fun y ⟨a,ha⟩=>(I.out a y ha).2),fun v h' ⟨hv,e⟩=>⟨fun _=>e.of,?_⟩⟩;rw[hset,c2];refine ih (k+1) m bl ((cd k,v)::ρ) h' hkn hm (by omega) ⟨I.sub.cons c5,I.ext.trans e,fun j hj=>?_,fun a ha hb=>?_,fun a b hb=>⟨(I.out a b hb).1,Nat.lt_of_lt_of_le (I.out a b hb).2 e.size⟩,I.inj⟩
    · rw[Env.eW]
      by_cases hjk:j=k
      · subst hjk;exact⟨v,if_pos rfl,hv⟩
      · obtain⟨u,h1,h2⟩:=I.res j (by omega);exact⟨u,by rw[if_neg (fun q=>hjk (hcc k j hkn (by omega) q).symm)];exact h1,R1 _ _ _ _ _ h2 e⟩
    · obtain⟨b,h1,h2,h3⟩:=I.blk a ha hb;exact⟨b,h1,by rw[Env.eW,if_neg (hca k a hkn ha)];exact h2,Z1 _ _ _ h3 e⟩
  · obtain⟨c1,c2,c3,c4,c5⟩:=hao a han;refine⟨ao a,_,c1,c3 ρ,by rw[c2];exact c4,hax a han ρ h,fun v h' ⟨hv,hz,e,hs⟩=>⟨fun _=>e.of,?_⟩⟩;rw[hset,c2]
    have hbl:∀x b,(if x=a then some h.size else bl x)=some b->(x=a/\b=h.size)\/bl x=some b:=by
     intro x b q
     by_cases hx:x=a
     · rw[if_pos hx] at q;cases q;exact .inl ⟨hx,rfl⟩
     · rw[if_neg hx] at q;exact .inr q
    refine ih k (m ||| 2 ^ a) (fun x=>if x=a then some h.size else bl x) ((ad a,v)::ρ) h' hk hm2 (by omega) ⟨I.sub.cons c5,I.ext.trans e,fun j hj=>?_,fun x hx hb=>?_,fun x b hb=>?_,fun x y b hx hy=>?_⟩
    · obtain⟨u,h1,h2⟩:=I.res j hj;refine⟨u,by rw[Env.eW,if_neg (fun q=>hca j a (by omega) han q.symm)];exact h1,R3 _ _ _ _ _ (fun y hy=>?_) (R2 _ _ _ _ _ h.size h2 e (Nat.le_refl _))⟩;obtain⟨x,hx⟩:=hy
      rcases hbl x y hx with ⟨_,q⟩|q
      · exact .inl q
      · exact .inr ⟨x,q⟩
    · by_cases hxa:x=a
      · subst hxa;exact⟨h.size,if_pos rfl,by rw[Env.eW,if_pos rfl,hv],hz⟩
      · have hb':m.testBit x=true:=by
         rw[Nat.testBit_or,Nat.testBit_two_pow] at hb;simpa [Ne.symm hxa] using hb
        obtain⟨b,h1,h2,h3⟩:=I.blk x hx hb';exact⟨b,by rw[if_neg hxa];exact h1,by rw[Env.eW,if_neg (fun q=>hxa (haa a x han hx q).symm)];exact h2,Z1 _ _ _ h3 e⟩
    · rcases hbl x b hb with ⟨_,rfl⟩|q
      · exact⟨I.ext.size,by omega⟩
      · exact⟨(I.out x b q).1,Nat.lt_of_lt_of_le (I.out x b q).2 e.size⟩
    · rcases hbl x b hx with ⟨q1,q2⟩|q<;>rcases hbl y b hy with ⟨p1,p2⟩|p
      · rw[q1,p1]
      · have:=(I.out y b p).2;omega
      · have:=(I.out x b q).2;omega
      · exact I.inj x y b q p
def rf:List Nat->Nat
 | []=>0
 |i::l=>2 ^ i |||rf l
theorem qy:∀(l:List Nat) (j:Nat),(rf l).testBit j=l.any (fun i=>decide (i=j))
 | [],j=>by simp[rf]
 |i::l,j=>by rw[rf,Nat.testBit_or,Nat.testBit_two_pow,qy l j];simp
theorem ET (l:List Nat) (m:Nat):(rf l &&& m ==rf l)=l.all (fun j=>m.testBit j):=by
 rw[Bool.eq_iff_iff,beq_iff_eq,List.all_eq_true];constructor
 · intro h j hj;have h1:=congrArg (fun x=>x.testBit j) h;simp only[Nat.testBit_and,qy] at h1;have h2:l.any (fun i=>decide (i=j))=true:=List.any_eq_true.2 ⟨j,hj,by simp⟩;rw[h2,Bool.true_and] at h1;exact h1
 · intro h;refine Nat.eq_of_testBit_eq fun j=>?_
   rw[Nat.testBit_and,qy];cases h2:l.any (fun i=>decide (i=j)) with
   |false=>rfl
   |true =>
    obtain⟨i,hi,hij⟩:=List.any_eq_true.1 h2;have:i=j:=by simpa using hij
    subst this;rw[h i hi];rfl
def yF (ops:Array Oper):List Nat:=ops.toList.map fun o=>rf ((o.after.toList.filter (Region.binds .any)).map (·.on))
def xl (T:List Nat) (m:Nat):List Nat:=(List.range T.length).filter fun i=> !m.testBit i && (T.getD i 0 &&& m ==T.getD i 0)
theorem xJ (n m i:Nat):(la n m)[i]? =if i<n then some (m.testBit i) else none:=by
 unfold la;rw[List.getElem?_toArray,List.getElem?_map]
 by_cases h:i<n
 · rw[List.getElem?_range h,if_pos h];rfl
 · rw[List.getElem?_eq_none (by simpa using h),if_neg h];rfl
theorem Io (n m i:Nat):(la n m).setIfInBounds i true=la n (m ||| 2 ^ i):=by
 apply Array.ext_getElem?
 intro j;rw[Array.getElem?_setIfInBounds,xJ,xJ,Nat.testBit_or,Nat.testBit_two_pow];have hs:(la n m).size=n:=by simp[la]
 by_cases hij:i=j
 · subst hij
   by_cases h:i<n
   · simp[h,hs]
   · simp[h,hs]
 · simp[hij]
theorem AY {ops:Array Oper}{m:Nat}(hm:m<2 ^ ops.size):Region.ready .any ops (la ops.size m)=xl (yF ops) m:=by
 unfold Region.ready xl;have hl:(yF ops).length=ops.size:=by simp[yF]
 rw[hl]
 have hb:∀j,(la ops.size m).getD j false=m.testBit j:=fun j=>by
  rw[Array.getD_eq_getD_getElem?,xJ]
  by_cases h:j<ops.size
  · rw[if_pos h];rfl
  · rw[if_neg h];exact(Nat.testBit_lt_two_pow (Nat.lt_of_lt_of_le hm (Nat.pow_le_pow_right (by decide) (by omega)))).symm
 apply List.filter_congr
 intro i hi;have hi:i<ops.size:=by simpa using hi
 have h1:(la ops.size m).getD i true=m.testBit i:=by rw[Array.getD_eq_getD_getElem?,xJ,if_pos hi];rfl
 have h2:(yF ops).getD i 0=rf ((ops[i].after.toList.filter (Region.binds .any)).map (·.on)):=by
  unfold yF;rw[List.getD_eq_getElem?_getD,List.getElem?_map,Array.getElem?_toList,Array.getElem?_eq_getElem hi];rfl
 rw[h1,h2,ET,Array.getElem?_eq_getElem hi]
 congr 1
 show (ops[i].after.all fun e=> !Region.binds .any e ||(la ops.size m).getD e.on false)=_
 rw[<-Array.all_toList];generalize ops[i].after.toList=l
 induction l with
 |nil=>rfl
 |cons e l ih =>
  rw[List.all_cons,ih,hb,List.filter_cons];cases Region.binds .any e with
  |true=>simp
  |false=>simp
def Ix (T:List Nat) (nc na:Nat) (ci ai:Nat->Nat) (mk:Nat->Nat->Nat) (k:Nat):Bool :=
 (List.range (2 ^ na)).all fun m=>decide (mk k m<2 ^ T.length) && (
  (nc-k+lN na m ==0) ||(!(xl T (mk k m)).isEmpty && (xl T (mk k m)).all fun i =>
   (decide (k<nc) && (i ==ci k && (mk k m ||| 2 ^ i ==mk (k+1) m))) ||
   (List.range na).any fun a=>i ==ai a && (decide (m ||| 2 ^ a<2 ^ na) && ((lN na (m ||| 2 ^ a)+1 ==lN na m) && (mk k m ||| 2 ^ i ==mk k (m ||| 2 ^ a))))))
theorem Cy {ops:Array Oper}{T:List Nat}(hT:yF ops=T){nc:Nat}{ci ai:Nat->Nat}{mk:Nat->Nat->Nat}(h:∀k,k<=nc->Ix T nc na ci ai mk k=true) (k m:Nat) (hk:k<=nc) (hm:m<2 ^ na) (h0:nc-k+lN na m≠0) :
 (Region.ready .any ops (la ops.size (mk k m))).isEmpty=false/\∀i∈Region.ready .any ops (la ops.size (mk k m)),(k<nc/\i=ci k/\(la ops.size (mk k m)).setIfInBounds i true=la ops.size (mk (k+1) m))\/(∃a,a<na/\i=ai a/\m ||| 2 ^ a<2 ^ na/\lN na (m ||| 2 ^ a)+1=lN na m/\(la ops.size (mk k m)).setIfInBounds i true=la ops.size (mk k (m ||| 2 ^ a))):=by
 have h1:=h k hk;unfold Ix at h1;have h2:=List.all_eq_true.1 h1 m (List.mem_range.2 hm);rw[Bool.and_eq_true,decide_eq_true_eq] at h2;obtain⟨hlt,h2⟩:=h2;have hl:T.length=ops.size:=by rw[<-hT];simp[yF]
 rw[hl] at hlt;rw[AY hlt,hT];rw[Bool.or_eq_true] at h2
 rcases h2 with h2|h2
 · exact absurd (by simpa using h2) h0
 · rw[Bool.and_eq_true] at h2;refine⟨by simpa using h2.1,fun i hi=>?_⟩;have h3:=List.all_eq_true.1 h2.2 i hi;rw[Io];rw[Bool.or_eq_true] at h3
   rcases h3 with h3|h3
   · simp only[Bool.and_eq_true,decide_eq_true_eq,beq_iff_eq] at h3;exact .inl ⟨h3.1,h3.2.1,by rw[h3.2.2]⟩
   · obtain⟨a,ha,h4⟩:=List.any_eq_true.1 h3;simp only[Bool.and_eq_true,decide_eq_true_eq,beq_iff_eq] at h4;exact .inr ⟨a,List.mem_range.1 ha,h4.1,h4.2.1,h4.2.2.1,by rw[h4.2.2.2]⟩
def Fh (ops:Array Oper) (keeps:Nat->Bool) (listed:Array Bool) (i:Nat):Bool :=
 match ops[i]? with
 |none=>false
 |some oi=>(List.range ops.size).all fun j=>j ==i ||listed.getD j true ||match ops[j]? with
  |some oj=>(keeps j && oi.apart ops oj) ||fC ops listed i 12 j
  |none=>true
theorem Bt {i:Nat}{oi:Oper}{listed:Array Bool}(hi:ops[i]? =some oi) (h:Fh ops keeps listed i=true) (j:Nat) (oj:Oper)
 (hj:ops[j]? =some oj) (hne:j≠i) (hun:listed.getD j true=false):(∃m,fC ops listed i m j=true)\/(keeps j=true/\oi.apart ops oj=true):=by
 simp only[Fh,hi,List.all_eq_true,List.mem_range] at h;have h1:=h j (Array.getElem?_eq_some_iff.1 hj).1;simp only[hj,Bool.or_eq_true,beq_iff_eq,hne,false_or,hun,Bool.false_eq_true] at h1
 rcases h1 with h1|h1
 · exact .inr (by simpa using h1)
 · exact .inl ⟨12,h1⟩
def okW (ops:Array Oper) (keeps:Nat->Bool) (listed:Array Bool) (i:Nat) (l':Array Bool):Bool:=Region.noSelect ops && (Fh ops keeps listed i && ((Region.ready .any ops listed).contains i && decide (listed.setIfInBounds i true=l')))
theorem IN (i m:Nat){o:Oper}{v:Value}{d:Nat}(hk:okW ops keeps listed i (la ops.size m)=true) (e:(nth ops.toList i,bG ops ρ o,o.dst,Nat.blt d n)=(some o,some true,some d,true)) (k:∀h',Ext M h h'->ak P o ρ h' v)
 (next:RD P n ops M keeps fuel (la ops.size m) ((d,v)::ρ) h N X):RD P n ops M keeps (fuel+1) listed ρ h N X:=by
 simp only[Prod.mk.injEq] at e;simp only[okW,Bool.and_eq_true,decide_eq_true_eq] at hk;obtain⟨e1,e2,e3,e4⟩:=e;obtain⟨hs,hf,hr,hl⟩:=hk;have ho:=fo e1;rw[<-hl] at next
 intro B a w hf' ha;refine oS ho (Region.noSelect_spec hs) (fun c a w hq=>⟨by cases hdd:o.dst<;>simpa [Act.put,hdd] using hq.1,hq.2⟩) fuel listed a w (Bt ho hf) (by simpa using hr) (.inl ⟨dN hf' e2,fun w' he=>?_⟩) (by rw[e3];exact next B _ w (hf'.put (dst:=some d) (show gN n (some d)=true from e4) v) ha);rw[ha.heap] at he;exact k w'.heap he n w' a w' hf' (At.refl w')
theorem IM (i m:Nat){o:Oper}{v:Value}{d:Nat}(hk:okW ops keeps listed i (la ops.size m)=true) (e:(nth ops.toList i,bG ops ρ o,o.dst,Nat.blt d n,JW ρ o.op)=(some o,some true,some d,true,some v))
 (next:RD P n ops M keeps fuel (la ops.size m) ((d,v)::ρ) h N X):RD P n ops M keeps (fuel+1) listed ρ h N X:=by
 simp only[Prod.mk.injEq] at e;exact IN i m hk (by simp only[Prod.mk.injEq];exact⟨e.1,e.2.1,e.2.2.1,e.2.2.2.1⟩) (fun _ _=>Bw e.2.2.2.2) next
end
end
end Go.Lw
namespace Go.Proofs.YtiigijehmmcfgaaGreatDoor
section
variable {k i n to st:Nat}{fin:Nat->Prop}{todo:List Nat}
abbrev By:=List UInt8
inductive Nd where
 |mk (kind:Nat) (set:Nat) (kids:List Nd)
def Nd.kind:Nd->Nat|.mk k _ _=>k
def Nd.set:Nd->Nat|.mk _ s _=>s
def Nd.kids:Nd->List Nd|.mk _ _ l=>l
def FK:Nat:=2 ^ 256-1
def vK (s a:Nat):Nat->Nat
 | 0=>s
 |n+1=>vK (s |||(1 <<< a)) (a+1) n
def nM (s:Nat) (a b:UInt8):Nat:=vK s a.toNat (b.toNat+1-a.toNat)
def mj (s:Nat):Nat:=FK ^^^ s
def yd (b:UInt8):Nd:=.mk 1 (nM 0 b b) []
def HG:Nd:=.mk 1 (nM (nM 0 0 9) 11 255) []
def nB:Nd:=.mk 0 0 []
def fJ:By:=[40,41,91,93,124,42,43,63,46,92,45,94]
def kY (b:UInt8):Option Nat :=
 if 48<=b.toNat/\b.toNat<=57 then some (b.toNat-48) else if 97<=b.toNat/\b.toNat<=102 then some (b.toNat-87) else if 65<=b.toNat/\b.toNat<=70 then some (b.toNat-55) else none
def p6:By->Option (UInt8×By)
 | []=>none
 |b::r =>
  if b=110 then some (10,r) else if b=116 then some (9,r) else if b=114 then some (13,r)
  else if b=120 then
   match r with
   |x::y::r=>match kY x,kY y with
    |some m,some n=>some (UInt8.ofNat (m*16+n),r)
    |_,_=>none
   |_=>none
  else if b∈fJ then some (b,r) else none
def ox:By->Option (UInt8×By)
 | []=>none
 |b::r=>if b=92 then p6 r else if b∈fJ then none else some (b,r)
def eV (s:By):Option ((UInt8×UInt8)×By) :=
 match ox s with
 |none=>none
 |some (a,r)=>match r with
  | 45::r'=>match ox r' with
   |none=>none
   |some (b,r'')=>if b.toNat<a.toNat then none else some ((a,b),r'')
  |_=>some ((a,a),r)
def lI:Nat->Nat->By->Option (Nat×By)
 | 0,_,_=>none
 |n+1,acc,s=>match eV s with
  |none=>none
  |some ((a,b),r)=>match r with
   | 93::r'=>some (nM acc a b,r')
   |_=>lI n (nM acc a b) r
def iC (s:By):Option (Nd×By) :=
 match s with
 | 94::r=>(lI (r.length+1) 0 r).map fun p=>(.mk 1 (mj p.1) [],p.2)
 |_=>(lI (s.length+1) 0 s).map fun p=>(.mk 1 p.1 [],p.2)
def fm (rows:By->Option (Nd×By)):By->Option (Nd×By)
 | []=>none
 |c::r =>
  if c=40 then
   match rows r with
   |none=>none
   |some (n,r')=>match r' with
    | 41::r''=>some (n,r'')
    |_=>none
  else if c=91 then iC r
  else if c=46 then some (HG,r)
  else if c=92 then (p6 r).map fun p=>(yd p.1,p.2)
  else if c∈[(41:UInt8),93,124,42,43,63] then none
  else some (yd c,r)
def dF (c:UInt8):Nat:=if c=42 then 4 else if c=43 then 5 else if c=63 then 6 else 0
def eR (n:Nd):By->Nd×By
 | []=>(n,[])
 |c::r=>if dF c=0 then (n,c::r) else eR (.mk (dF c) 0 [n]) r
def fV (rows:By->Option (Nd×By)) (s:By):Option (Nd×By) :=
 (fm rows s).map fun p=>eR p.1 p.2
def cD (kind:Nat):List Nd->Nd
 | []=>nB
 | [n]=>n
 |l=>.mk kind 0 l
def jK:By->Bool
 | []=>true
 |c::_=>c ==124 ||c ==41
def l9 (rows:By->Option (Nd×By)):Nat->By->Option (List Nd×By)
 | 0,_=>none
 |n+1,s=>if jK s then some ([],s) else
  match fV rows s with
  |none=>none
  |some (x,r)=>(l9 rows n r).map fun p=>(x::p.1,p.2)
def iN (rows:By->Option (Nd×By)):Nat->List Nd->List Nd->By->Option (Nd×By)
 | 0,_,_,_=>none
 |n+1,all,row,s=>if jK s then
  if s.head? =some 124 then iN rows n (all++[cD 2 row]) [] s.tail
  else some (cD 3 (all++[cD 2 row]),s)
  else match fV rows s with
   |none=>none
   |some (x,r)=>iN rows n all (row++[x]) r
def er:Nat->By->Option (Nd×By)
 | 0,_=>none
 |d+1,s=>iN (er d) (s.length+1) [] [] s
def jM (s:By):Option Nd :=
 match er (s.length+1) s with
 |some (n,[])=>some n
 |_=>none
theorem um {s:By}{b:UInt8}{r:By}(h:p6 s=some (b,r)):r.length<s.length:=by
 unfold p6 at h;split at h
 · cases h
 · rename_i c t;split at h
   · cases h;simp
   · split at h
     · cases h;simp
     · split at h
       · cases h;simp
       · split at h
         · split at h
           · split at h
             · cases h;simp only[List.length_cons];omega
             · cases h
           · cases h
         · split at h
           · cases h;simp
           · cases h
theorem pR {s:By}{b:UInt8}{r:By}(h:ox s=some (b,r)):r.length<s.length:=by
 unfold ox at h;split at h
 · cases h
 · split at h
   · have:=um h;simp only[List.length_cons];omega
   · split at h
     · cases h
     · cases h;simp
theorem mE {s:By}{p:UInt8×UInt8}{r:By}(h:eV s=some (p,r)):r.length<s.length:=by
 unfold eV at h;split at h
 · cases h
 · rename_i a t ha;have h1:=pR ha;split at h
   · rename_i t';split at h
     · cases h
     · rename_i b t'' hb;have h2:=pR hb;split at h
       · cases h
       · cases h;simp only[List.length_cons] at h1;omega
   · cases h;exact h1
theorem qq:∀(n acc:Nat){s:By}{m:Nat}{r:By},lI n acc s=some (m,r)->r.length<s.length
 | 0,_,s,m,r,h=>by cases h
 |n+1,acc,s,m,r,h=>by
  rw[lI] at h;split at h
  · cases h
  · rename_i a b t ht;have h1:=mE ht;split at h
    · cases h;simp only[List.length_cons] at h1;omega
    · have:=qq n _ h;omega
theorem qf {s:By}{x:Nd}{r:By}(h:iC s=some (x,r)):r.length<s.length:=by
 unfold iC at h;split at h
 · rename_i t;simp only[Option.map_eq_some_iff] at h;obtain⟨⟨m,r'⟩,h1,h2⟩:=h;cases h2;have:=qq _ _ h1;simp only[List.length_cons];omega
 · simp only[Option.map_eq_some_iff] at h;obtain⟨⟨m,r'⟩,h1,h2⟩:=h;cases h2;exact qq _ _ h1
theorem wI {rows:By->Option (Nd×By)}(hr:∀{s x r},rows s=some (x,r)->r.length<=s.length){s:By}{x:Nd}{r:By}(h:fm rows s=some (x,r)):r.length<s.length:=by
 unfold fm at h;split at h
 · cases h
 · rename_i c t;simp only[List.length_cons];split at h
   · split at h
     · cases h
     · rename_i n t' ht;have:=hr ht;split at h
       · rename_i t'' _;cases h;simp only[List.length_cons] at this;omega
       · cases h
   · split at h
     · have:=qf h;omega
     · split at h
       · cases h;omega
       · split at h
         · simp only[Option.map_eq_some_iff] at h;obtain⟨⟨b,r'⟩,h1,h2⟩:=h;cases h2;have:=um h1;dsimp only;omega
         · split at h
           · cases h
           · cases h;omega
theorem sI:∀(s:By) (n:Nd),(eR n s).2.length<=s.length
 | [],n=>by simp[eR]
 |c::r,n=>by
  rw[eR];split
  · simp
  · have:=sI r (.mk (dF c) 0 [n]);simp only[List.length_cons];omega
theorem fU {rows:By->Option (Nd×By)}(hr:∀{s x r},rows s=some (x,r)->r.length<=s.length){s:By}{x:Nd}{r:By}(h:fV rows s=some (x,r)):r.length<s.length:=by
 unfold fV at h;simp only[Option.map_eq_some_iff] at h;obtain⟨⟨n,t⟩,h1,h2⟩:=h;have h3:=wI hr h1;have h4:=sI t n;rw[h2] at h4;simp only at h4;omega
theorem qt {rows:By->Option (Nd×By)}(hr:∀{s x r},rows s=some (x,r)->r.length<=s.length):∀(n:Nat) (all row:List Nd){s:By}{x:Nd}{r:By},iN rows n all row s=some (x,r)->r.length<=s.length/\(r=[]\/r.head? =some 41)
 | 0,_,_,s,x,r,h=>by cases h
 |n+1,all,row,s,x,r,h=>by
  rw[iN] at h;split at h
  · rename_i he;split at h
    · have:=qt hr n _ _ h;exact⟨by have h2:=this.1;simp only[List.length_tail] at h2;omega,this.2⟩
    · rename_i hn;cases h;refine⟨Nat.le_refl _,?_⟩;cases s with
      |nil=>exact .inl rfl
      |cons c t =>
       right
       unfold jK at he;have h1:c≠124:=fun e=>hn (by rw[e];rfl)
       simp[h1] at he;simp[he]
  · split at h
    · cases h
    · rename_i y t ht;have h1:=fU hr ht;have h2:=qt hr n _ _ h;exact⟨by omega,h2.2⟩
theorem j9:∀(d:Nat){s:By}{x:Nd}{r:By},er d s=some (x,r)->r.length<=s.length
 | 0,s,x,r,h=>by cases h
 |d+1,s,x,r,h=>(qt (fun h=>j9 d h) _ _ _ h).1
theorem yT {rows:By->Option (Nd×By)}(hr:∀{s x r},rows s=some (x,r)->r.length<=s.length):∀(n:Nat){s:By}{l:List Nd}{r:By},l9 rows n s=some (l,r)->r.length<=s.length/\jK r=true/\l.length<=s.length
 | 0,s,l,r,h=>by cases h
 |n+1,s,l,r,h=>by
  rw[l9] at h;split at h
  · rename_i he;cases h;exact⟨Nat.le_refl _,he,Nat.zero_le _⟩
  · split at h
    · cases h
    · rename_i y t ht;have h1:=fU hr ht;simp only[Option.map_eq_some_iff] at h;obtain⟨⟨m,r'⟩,h2,h3⟩:=h;cases h3;have h4:=yT hr n h2;have h5:=h4.1;have h6:=h4.2.2;exact⟨by first|omega|(dsimp only;omega),h4.2.1,by simp only[List.length_cons];first|omega|(dsimp only at h6;omega)⟩
theorem sO {rows:By->Option (Nd×By)}(hr:∀{s x r},rows s=some (x,r)->r.length<=s.length):∀(k:Nat) (n m:Nat) (all row:List Nd) (s:By),s.length<=k->s.length<n->s.length<m->iN rows n all row s=iN rows m all row s:=by
 intro k
 induction k with
 |zero =>
  intro n m all row s hk hn hm;cases n with
  |zero=>omega
  |succ n =>
   cases m with
   |zero=>omega
   |succ m =>
    have:s=[]:=List.eq_nil_of_length_eq_zero (by omega);subst this;rfl
 |succ k ih =>
  intro n m all row s hk hn hm;cases n with
  |zero=>omega
  |succ n =>
   cases m with
   |zero=>omega
   |succ m =>
    rw[iN,iN];split
    · split
      · rename_i h1;have h2:s.tail.length+1=s.length:=by cases s with|nil=>cases h1|cons a b=>simp
        exact ih _ _ _ _ _ (by omega) (by omega) (by omega)
      · rfl
    · cases hp:fV rows s with
      |none=>rfl
      |some p =>
       obtain⟨y,t⟩:=p;have:=fU hr hp;exact ih _ _ _ _ _ (by omega) (by omega) (by omega)
theorem vP {rows:By->Option (Nd×By)}(hr:∀{s x r},rows s=some (x,r)->r.length<=s.length):∀(n m:Nat) (s:By),s.length<n->s.length<m->l9 rows n s=l9 rows m s
 | 0,_,_,h,_=>by omega
 |_,0,_,_,h=>by omega
 |n+1,m+1,s,hn,hm=>by
  rw[l9,l9];split
  · rfl
  · cases hp:fV rows s with
    |none=>rfl
    |some p =>
     obtain⟨y,t⟩:=p;have:=fU hr hp;simp only;rw[vP hr n m t (by omega) (by omega)]
def xj (rows:By->Option (Nd×By)) (s:By):Option (Nd×By):=(l9 rows (s.length+1) s).map fun p=>(cD 2 p.1,p.2)
def rM (rows:By->Option (Nd×By)) (all:List Nd) (m:By):Option (Nd×By) :=
 if m.head? =some 124 then iN rows (m.tail.length+1) all [] m.tail else some (cD 3 all,m)
theorem C6 {rows:By->Option (Nd×By)}(hr:∀{s x r},rows s=some (x,r)->r.length<=s.length):∀(n m:Nat) (all row:List Nd) (s:By),s.length<n->s.length<m ->
 iN rows n all row s=match l9 rows m s with
  |none=>none
  |some (l,r)=>if r.head? =some 124 then iN rows (r.length+1) (all++[cD 2 (row++l)]) [] r.tail else some (cD 3 (all++[cD 2 (row++l)]),r):=by
 have fuel:=fun k=>@sO rows hr k
 intro n
 induction n with
 |zero=>intro m all row s h;omega
 |succ n ih =>
  intro m all row s hn hm;cases m with
  |zero=>omega
  |succ m =>
   rw[iN,l9]
   by_cases he:jK s=true
   · rw[if_pos he,if_pos he];simp only[List.append_nil];split
     · rename_i h1;have h2:s.tail.length+1=s.length:=by cases s with|nil=>cases h1|cons a b=>simp
       exact fuel _ _ _ _ _ _ (Nat.le_refl _) (by omega) (by omega)
     · rfl
   · rw[if_neg he,if_neg he];cases hp:fV rows s with
     |none=>rfl
     |some p =>
      obtain⟨y,t⟩:=p;have hlt:=fU hr hp;simp only;rw[ih m all (row++[y]) t (by omega) (by omega)];cases hl:l9 rows m t with
      |none=>rfl
      |some q =>
       obtain⟨l,r⟩:=q;simp only[Option.map_some,List.append_assoc,List.singleton_append]
theorem sP {rows:By->Option (Nd×By)}(hr:∀{s x r},rows s=some (x,r)->r.length<=s.length) (all:List Nd) (s:By) :
 iN rows (s.length+1) all [] s=match xj rows s with|none=>none|some (x,r)=>rM rows (all++[x]) r:=by
 rw[C6 hr _ (s.length+1) _ _ _ (Nat.lt_succ_self _) (Nat.lt_succ_self _)];unfold xj;cases hl:l9 rows (s.length+1) s with
 |none=>rfl
 |some q =>
  obtain⟨l,r⟩:=q;simp only[Option.map_some,List.nil_append,rM];split
  · exact sO hr r.length _ _ _ _ _ (by simp) (by simp;omega) (by omega)
  · rfl
theorem yS {rows:By->Option (Nd×By)}(hr:∀{s x r},rows s=some (x,r)->r.length<=s.length){s:By}{x:Nd}{r:By}(h:xj rows s=some (x,r)):r.length<=s.length:=by
 unfold xj at h;simp only[Option.map_eq_some_iff] at h;obtain⟨⟨l,r'⟩,h1,h2⟩:=h;cases h2;exact(yT hr _ h1).1
def bY (s:By):Nd×Int:=if 200<s.length then (nB,3) else match jM s with|some x=>(x,0)|none=>(nB,10)
structure bR where
 kind:Nat
 set:Nat
 to:List Nat
 rule:Nat
end
mutual
def lay:Nd->List bR->Nat->List bR×Nat
 |.mk k s kids,ss,to =>
  if k=1 then (ss++[⟨1,s,[to],0⟩],ss.length)
  else if k=2 then bP kids ss to
  else if k=3 then ((bA kids ss to).1++[⟨0,0,(bA kids ss to).2,0⟩],(bA kids ss to).1.length)
  else if k=6 then ((cC kids ss to).1++[⟨0,0,[(cC kids ss to).2,to],0⟩],(cC kids ss to).1.length)
  else if k=4\/k=5 then
   ((cC kids (ss++[⟨0,0,[],0⟩]) ss.length).1.set ss.length ⟨0,0,[(cC kids (ss++[⟨0,0,[],0⟩]) ss.length).2,to],0⟩,
    if k=5 then (cC kids (ss++[⟨0,0,[],0⟩]) ss.length).2 else ss.length)
  else (ss,to)
def bP:List Nd->List bR->Nat->List bR×Nat
 | [],ss,to=>(ss,to)
 |x::r,ss,to=>lay x (bP r ss to).1 (bP r ss to).2
def bA:List Nd->List bR->Nat->List bR×List Nat
 | [],ss,_=>(ss,[])
 |x::r,ss,to=>((bA r (lay x ss to).1 to).1,(lay x ss to).2::(bA r (lay x ss to).1 to).2)
def cC:List Nd->List bR->Nat->List bR×Nat
 | [],ss,to=>(ss,to)
 |x::_,ss,to=>lay x ss to
end
mutual
def nE:Nd->Nat
 |.mk _ _ kids=>gw kids+1
def gw:List Nd->Nat
 | []=>0
 |x::r=>nE x+gw r
end
mutual
def sC:Nd->Bool
 |.mk k _ kids=>(!(k ==4 ||k ==5 ||k ==6) ||kids.length ==1) && sD kids
def sD:List Nd->Bool
 | []=>true
 |x::r=>sC x && sD r
end
section
variable {k i n to st:Nat}{fin:Nat->Prop}{todo:List Nat}
theorem B4 (x:Nd):0<nE x:=by cases x;simp[nE]
theorem gP:∀(l m:List Nd),gw (l++m)=gw l+gw m
 | [],m=>by simp[gw]
 |x::l,m=>by simp only[List.cons_append,gw];rw[gP l m];omega
theorem kK:∀(l m:List Nd),sD (l++m)=(sD l && sD m)
 | [],m=>by simp[sD]
 |x::l,m=>by simp only[List.cons_append,sD];rw[kK l m,Bool.and_assoc]
theorem wQ:∀{l:List Nd}{i:Nat}{x:Nd},sD l=true->l[i]? =some x->sC x=true
 | [],i,x,_,h=>by simp at h
 |y::l,0,x,hw,h=>by simp at h;subst h;simp only[sD,Bool.and_eq_true] at hw;exact hw.1
 |y::l,i+1,x,hw,h=>by simp only[sD,Bool.and_eq_true] at hw;exact wQ hw.2 (by simpa using h)
end
mutual
theorem fN:∀(x:Nd) (ss:List bR) (to:Nat),ss.length<=(lay x ss to).1.length/\(lay x ss to).1.length<=ss.length+nE x
 |.mk k s kids,ss,to=>by
  rw[lay];simp only[nE];split
  · simp
  · split
    · have:=jk kids ss to;omega
    · split
      · have:=fj kids ss to;simp only[List.length_append,List.length_singleton];omega
      · split
        · have:=fZ kids ss to;simp only[List.length_append,List.length_singleton];omega
        · split
          · have:=fZ kids (ss++[⟨0,0,[],0⟩]) ss.length;simp only[List.length_append,List.length_singleton] at this;simp only[List.length_set];omega
          · simp
theorem jk:∀(l:List Nd) (ss:List bR) (to:Nat),ss.length<=(bP l ss to).1.length/\(bP l ss to).1.length<=ss.length+gw l
 | [],ss,to=>by simp[bP,gw]
 |x::r,ss,to=>by
  rw[bP];have h1:=jk r ss to;have h2:=fN x (bP r ss to).1 (bP r ss to).2;simp only[gw];omega
theorem fj:∀(l:List Nd) (ss:List bR) (to:Nat),ss.length<=(bA l ss to).1.length/\(bA l ss to).1.length<=ss.length+gw l
 | [],ss,to=>by simp[bA,gw]
 |x::r,ss,to=>by
  rw[bA];have h1:=fN x ss to;have h2:=fj r (lay x ss to).1 to;simp only[gw];omega
theorem fZ:∀(l:List Nd) (ss:List bR) (to:Nat),ss.length<=(cC l ss to).1.length/\(cC l ss to).1.length<=ss.length+gw l
 | [],ss,to=>by simp[cC,gw]
 |x::r,ss,to=>by
  rw[cC];have h1:=fN x ss to;simp only[gw];omega
end
section
variable {k i n to st:Nat}{fin:Nat->Prop}{todo:List Nat}
def Small (s:By) (p:Option (Nd×By)):Prop:=∀x r,p=some (x,r)->nE x+2*r.length<=2*s.length+1/\sC x=true
theorem wU (k:Nat) (l:List Nd):nE (cD k l)<=gw l+1:=by
 unfold cD;split
 · simp[nB,nE,gw]
 · simp[gw]
 · simp[nE]
theorem wP {l:List Nd}(hk:k=2\/k=3) (h:sD l=true):sC (cD k l)=true:=by
 unfold cD;split
 · rfl
 · simp only[sD,Bool.and_eq_true] at h;exact h.1
 · simp only[sC,h,Bool.and_true];rcases hk with rfl|rfl<;>rfl
theorem qU:∀(s:By) (n:Nd),sC n=true->nE (eR n s).1+2*(eR n s).2.length<=nE n+2*s.length/\sC (eR n s).1=true
 | [],n,hw=>by simp[eR,hw]
 |c::r,n,hw=>by
  rw[eR];split
  · simp[hw]
  · rename_i hs;have hw':sC (.mk (dF c) 0 [n])=true:=by simp[sC,sD,hw]
    have h:=qU r (.mk (dF c) 0 [n]) hw';refine⟨?_,h.2⟩;have h1:=h.1;simp only[nE,gw,List.length_cons] at h1 ⊢;omega
theorem y8 {rows:By->Option (Nd×By)}(hr:∀s,Small s (rows s)){s:By}{x:Nd}{r:By}(h:fV rows s=some (x,r)):nE x+2*r.length+1<=2*s.length/\sC x=true:=by
 have leaf:∀k st,(k=0\/k=1)->sC (.mk k st [])=true:=fun k st hk=>by rcases hk with rfl|rfl<;>rfl
 have key:∀y t,fm rows s=some (y,t)->nE y+2*t.length+1<=2*s.length/\sC y=true:=by
  intro y t ha;have hlen:∀(k st:Nat),y= .mk k st []->t.length<s.length->nE y+2*t.length+1<=2*s.length:=fun k st hy ht=>by subst hy;simp only[nE,gw];omega
  unfold fm at ha;split at ha
  · cases ha
  · rename_i c u;split at ha
    · split at ha
      · cases ha
      · rename_i n t' ht;split at ha
        · rename_i t'' _;cases ha;have:=hr _ _ _ ht;simp only[List.length_cons] at this ⊢;exact⟨by omega,this.2⟩
        · cases ha
    · split at ha
      · have hb:=qf ha
        have hy:∃st,y= .mk 1 st []:=by
         unfold iC at ha;split at ha<;>(simp only[Option.map_eq_some_iff] at ha;obtain⟨⟨m,r'⟩,_,h2⟩:=ha;cases h2;exact⟨_,rfl⟩)
        obtain⟨st,rfl⟩:=hy;exact⟨hlen _ _ rfl (by simp only[List.length_cons];omega),leaf _ _ (.inr rfl)⟩
      · split at ha
        · cases ha;exact⟨hlen _ _ rfl (by simp),leaf _ _ (.inr rfl)⟩
        · split at ha
          · simp only[Option.map_eq_some_iff] at ha;obtain⟨⟨b,r'⟩,h1,h2⟩:=ha;have:=um h1;cases h2;exact⟨hlen _ _ rfl (by simp only[List.length_cons];omega),leaf _ _ (.inr rfl)⟩
          · split at ha
            · cases ha
            · cases ha;exact⟨hlen _ _ rfl (by simp),leaf _ _ (.inr rfl)⟩
 unfold fV at h;simp only[Option.map_eq_some_iff] at h;obtain⟨⟨n,t⟩,h1,h2⟩:=h;have h3:=key n t h1;have h4:=qU t n h3.2;rw[h2] at h4;simp only at h4;exact⟨by omega,h4.2⟩
theorem l7 {rows:By->Option (Nd×By)}(hr:∀s,Small s (rows s)):∀(n:Nat) (all row:List Nd) (s:By) (x:Nd) (r:By),sD all=true->sD row=true->iN rows n all row s=some (x,r) ->
 nE x+2*r.length<=2*s.length+1+gw all+gw row+(if all=[] then 0 else 1)/\sC x=true
 | 0,_,_,_,_,_,_,_,h=>by cases h
 |n+1,all,row,s,x,r,hwa,hwr,h=>by
  rw[iN] at h;split at h
  · split at h
    · rename_i hbar;have hs:s.tail.length+1=s.length:=by cases s with|nil=>cases hbar|cons a b=>simp
      have hw':sD (all++[cD 2 row])=true:=by rw[kK,hwa];simp[sD,wP (.inl rfl) hwr]
      have ih:=l7 hr n _ _ _ _ _ hw' (by rfl) h;have hj:=wU 2 row;have ha:gw (all++[cD 2 row])=gw all+nE (cD 2 row):=by rw[gP];simp[gw]
      rw[ha] at ih;refine⟨?_,ih.2⟩;have h1:=ih.1;rw[if_neg (by simp)] at h1;simp only[gw] at h1;omega
    · cases h;have hj:=wU 2 row;have hj3:=wU 3 (all++[cD 2 row]);have ha:gw (all++[cD 2 row])=gw all+nE (cD 2 row):=by rw[gP];simp[gw]
      refine⟨?_,wP (.inr rfl) (by rw[kK,hwa];simp[sD,wP (.inl rfl) hwr])⟩;split
      · rename_i he;subst he;have:cD 3 ([]++[cD 2 row])=cD 2 row:=rfl;rw[this];simp only[gw] at *;omega
      · rw[ha] at hj3;omega
  · split at h
    · cases h
    · rename_i y t ht;have h1:=y8 hr ht;have ih:=l7 hr n all (row++[y]) t x r hwa (by rw[kK,hwr];simp[sD,h1.2]) h;have ha:gw (row++[y])=gw row+nE y:=by rw[gP];simp[gw]
      rw[ha] at ih;exact⟨by have:=ih.1;omega,ih.2⟩
theorem qW:∀(d:Nat) (s:By),Small s (er d s)
 | 0,s=>fun x r h=>by cases h
 |d+1,s=>fun x r h=>by
  have:=l7 (fun s=>qW d s) _ _ _ _ _ _ rfl rfl h;simpa [gw] using this
theorem xq {s:By}{x:Nd}(h:jM s=some x):nE x<=2*s.length+1/\sC x=true:=by
 unfold jM at h;split at h
 · rename_i n hn;cases h;have:=qW _ _ _ _ hn;simpa using this
 · cases h
theorem zM {l:List Nd}{x:Nd}(hx:l[i]? =some x) (ss:List bR) (to:Nat):bP (l.drop i) ss to=lay x (bP (l.drop (i+1)) ss to).1 (bP (l.drop (i+1)) ss to).2:=by
 obtain⟨hi,rfl⟩:=List.getElem?_eq_some_iff.1 hx;rw[List.drop_eq_getElem_cons hi,bP]
theorem mC:∀(l:List Nd) (ss:List bR) (to:Nat),(bA l ss to).2.length=l.length
 | [],ss,to=>by simp[bA]
 |x::r,ss,to=>by rw[bA];simp[mC r]
end
mutual
theorem kW:∀(x:Nd) (ss:List bR) (to i:Nat),i<ss.length->(lay x ss to).1[i]? =ss[i]?
 |.mk k s kids,ss,to,i,hi=>by
  rw[lay];split
  · simp[List.getElem?_append_left hi]
  · split
    · exact tJ kids ss to i hi
    · split
      · have:=fj kids ss to;simp only;rw[List.getElem?_append_left (by omega)];exact oA kids ss to i hi
      · split
        · have:=fZ kids ss to;simp only;rw[List.getElem?_append_left (by omega)];exact oz kids ss to i hi
        · split
          · simp only;rw[List.getElem?_set_ne (by omega),oz kids (ss++[(⟨0,0,[],0⟩:bR)]) ss.length i (by simp;omega),List.getElem?_append_left hi]
          · rfl
theorem tJ:∀(l:List Nd) (ss:List bR) (to i:Nat),i<ss.length->(bP l ss to).1[i]? =ss[i]?
 | [],ss,to,i,hi=>by simp[bP]
 |x::r,ss,to,i,hi=>by
  rw[bP];have h1:=jk r ss to;rw[kW x _ _ i (by omega),tJ r ss to i hi]
theorem oA:∀(l:List Nd) (ss:List bR) (to i:Nat),i<ss.length->(bA l ss to).1[i]? =ss[i]?
 | [],ss,to,i,hi=>by simp[bA]
 |x::r,ss,to,i,hi=>by
  rw[bA];have h1:=fN x ss to;simp only;rw[oA r _ _ i (by omega),kW x ss to i hi]
theorem oz:∀(l:List Nd) (ss:List bR) (to i:Nat),i<ss.length->(cC l ss to).1[i]? =ss[i]?
 | [],ss,to,i,hi=>by simp[cC]
 |x::r,ss,to,i,hi=>by
  rw[cC];exact kW x ss to i hi
end
section
variable {k i n to st:Nat}{fin:Nat->Prop}{todo:List Nat}
theorem En {l:List Nd}{x:Nd}(hx:l[i]? =some x):gw (l.take i)+nE x<=gw l:=by
 obtain⟨hi,rfl⟩:=List.getElem?_eq_some_iff.1 hx;have h:gw (l.take i++l.drop i)=gw l:=by rw[List.take_append_drop]
 rw[gP,List.drop_eq_getElem_cons hi,gw] at h;omega
theorem Eo {l:List Nd}{x:Nd}(hx:l[i]? =some x):gw (l.drop (i+1))+nE x<=gw l:=by
 obtain⟨hi,rfl⟩:=List.getElem?_eq_some_iff.1 hx;have h:gw (l.take i++l.drop i)=gw l:=by rw[List.take_append_drop]
 rw[gP,List.drop_eq_getElem_cons hi,gw] at h;omega
theorem B5:∀l:List Nd,l.length<=gw l
 | []=>by simp[gw]
 |x::l=>by have:=B5 l;have:=B4 x;simp only[List.length_cons,gw];omega
def qX:List bR->List Bool->Nat
 |x::r,b::s=>(if b then 0 else x.to.length+1)+qX r s
 |_,_=>0
def iO (ss:List bR):Nat->List Nat->List Bool->List Bool
 | 0,_,seen=>seen
 |n+1,todo,seen =>
  match todo.getLast? with
  |none=>seen
  |some i =>
   if seen[i]? =some true then iO ss n todo.dropLast seen
   else iO ss n (match ss[i]? with|some x=>if x.kind=0 then todo.dropLast++x.to else todo.dropLast|none=>todo.dropLast) (seen.set i true)
def closed (ss:List bR) (todo:List Nat):List Nat :=
 if todo.length=0 then []
 else ((List.range ss.length).filter fun i=>(iO ss (todo.length+qX ss (List.replicate ss.length false)) todo (List.replicate ss.length false))[i]? ==some true && (ss[i]?.map (·.kind)) !=some 0)
theorem xm:∀(ss:List bR) (seen:List Bool) (i:Nat) (x:bR),ss[i]? =some x->seen[i]? =some false->qX ss (seen.set i true)+(x.to.length+1)=qX ss seen
 | [],_,_,_,h,_=>by simp at h
 |_::_,[],_,_,_,h=>by simp at h
 |y::r,b::s,0,x,h1,h2=>by
  simp at h1 h2;subst h1 h2;simp[qX];omega
 |y::r,b::s,i+1,x,h1,h2=>by
  have:=xm r s i x (by simpa using h1) (by simpa using h2);simp only[List.set_cons_succ,qX];omega
def Good (ss:List bR):Prop:=∀x∈ss,∀j∈x.to,j<ss.length
def cG (ss:List bR) (st:Nat):List Nat:=if ss.length=0 then [] else closed ss [st]
def qj (x:bR) (b:Int):Bool:=decide (x.kind=2/\(b<0\/(x.rule:Int)<b))
def qk (ss:List bR):List Nat->Int->Int
 | [],b=>b
 |j::r,b=>qk ss r (match ss[j]? with|some x=>if qj x b then x.rule else b|none=>b)
def bJ (ss:List bR) (now:List Nat):Int:=if ss.length=0 then -1 else qk ss now (-1)
def jd (x:bR) (c:UInt8):Bool:=decide (x.kind=1) && x.set.testBit c.toNat
def stepG (ss:List bR) (c:UInt8):List Nat->List Nat->List Nat
 | [],a=>a
 |j::r,a=>stepG ss c r (match ss[j]? with|some x=>if jd x c then a++x.to else a|none=>a)
def cS (ss:List bR) (c:UInt8) (now:List Nat):List Nat:=if ss.length=0 then [] else closed ss (stepG ss c now [])
theorem qp (ss:List bR) (c:UInt8):∀(l a:List Nat),a.length<=(stepG ss c l a).length
 | [],a=>Nat.le_refl _
 |j::r,a=>by
  rw[stepG];refine Nat.le_trans ?_ (qp ss c r _);split
  · split<;>simp
  · exact Nat.le_refl _
def jh (ss:List bR):List UInt8->List Nat->Nat->Int×Int->Int×Int
 |l,now,k,b =>
  if now.length=0 then b
  else match l with
   | []=>if 0<=bJ ss now then ((k:Int),bJ ss now) else b
   |c::r=>jh ss r (cS ss c now) (k+1) (if 0<=bJ ss now then ((k:Int),bJ ss now) else b)
def dM (ss:List bR) (st:Nat) (l:List UInt8):Int×Int:=if ss.length=0 then (0,-1) else jh ss l (cG ss st) 0 (0,-1)
def Bb (ss:List bR) (st:Nat) (s:By) (a:Int):Int×Int:=if ss.length=0\/a<0\/(s.length:Int)<a then (0,-1) else dM ss st (s.drop a.toNat)
theorem tj {ss:List bR}{l:List UInt8}{now:List Nat}{b:Int×Int}(h:now.length=0):jh ss l now k b=b:=by cases l<;>(rw[jh];exact if_pos h)
theorem AN (ss:List bR) (st:Nat):(cG ss st).Sublist (List.range ss.length):=by
 unfold cG closed;split
 · exact List.nil_sublist _
 · split
   · exact List.nil_sublist _
   · exact List.filter_sublist
theorem CR (ss:List bR) (c:UInt8) (now:List Nat):(cS ss c now).Sublist (List.range ss.length):=by
 unfold cS closed;split
 · exact List.nil_sublist _
 · split
   · exact List.nil_sublist _
   · exact List.filter_sublist
def kq:Nat->List By->List bR->List Nat->Int ⊕ (List bR×List Nat)
 |_,[],ss,t=>.inr (ss,t)
 |i,s::r,ss,t=>if (bY s).2≠0 then .inl (bY s).2 else kq (i+1) r (lay (bY s).1 (ss++[⟨2,0,[],i⟩]) ss.length).1 (t++[(lay (bY s).1 (ss++[⟨2,0,[],i⟩]) ss.length).2])
def uY (l:List By):Nat:=(l.map List.length).sum
def eU (rules:List By):Int ⊕ (List bR×Nat) :=
 if rules.length=0\/64<rules.length then .inl 2
 else match kq 0 rules [] [] with
  |.inl e=>.inl e
  |.inr (ss,t)=>if 2000<uY rules then .inl 70 else .inr (ss++[⟨0,0,t,0⟩],ss.length)
theorem pJ {s:By}(h0:(bY s).2=0):nE (bY s).1<=401/\sC (bY s).1=true/\s.length<=200:=by
 unfold bY at *;split at h0
 · cases h0
 · rename_i hl;rw[if_neg hl];split at h0
   · rename_i x hx;have:=xq hx;exact⟨by show nE x<=401;omega,this.2,by omega⟩
   · cases h0
theorem vE {l:List By}{s:By}(hx:l[i]? =some s):uY (l.take (i+1))=uY (l.take i)+s.length:=by
 rw[List.take_add_one,hx,Option.toList_some];simp[uY]
inductive wK (A:By->Prop):By->Prop where
 |nil:wK A []
 |cons {u v:By}:A u->wK A v->wK A (u++v)
end
mutual
def F4:Nd->By->Prop
 |.mk k s kids=>fun w =>
  if k=1 then ∃c:UInt8,w=[c]/\s.testBit c.toNat=true
  else if k=2 then uR kids w
  else if k=3 then qO kids w
  else if k=6 then w=[]\/oV kids w
  else if k=4 then wK (oV kids) w
  else if k=5 then ∃u v,w=u++v/\oV kids u/\wK (oV kids) v
  else w=[]
def uR:List Nd->By->Prop
 | []=>fun w=>w=[]
 |x::r=>fun w=>∃u v,w=u++v/\F4 x u/\uR r v
def qO:List Nd->By->Prop
 | []=>fun _=>False
 |x::r=>fun w=>F4 x w\/qO r w
def oV:List Nd->By->Prop
 | []=>fun w=>w=[]
 |x::_=>fun w=>F4 x w
end
section
variable {k i n to st:Nat}{fin:Nat->Prop}{todo:List Nat}
inductive Acc (F:List bR) (fin:Nat->Prop):Nat->Nat->By->Prop where
 |done {q:Nat}:fin q->Acc F fin 0 q []
 |eps {n q q':Nat}{x:bR}{w:By}:F[q]? =some x->x.kind=0->q'∈x.to->Acc F fin n q' w->Acc F fin (n+1) q w
 |eat {n q q':Nat}{x:bR}{c:UInt8}{w:By}:F[q]? =some x->x.kind=1->x.set.testBit c.toNat=true->q'∈x.to->Acc F fin n q' w->Acc F fin (n+1) q (c::w)
def kH (F:List bR) (fin:Nat->Prop):Prop:=∀q,fin q->∃x,F[q]? =some x/\x.kind=2
theorem Acc.fork {F:List bR}(hf:kH F fin){q:Nat}{x:bR}{w:By}(hx:F[q]? =some x) (hk:x.kind=0) (h:Acc F fin n q w):∃m q',m<n/\q'∈x.to/\Acc F fin m q' w:=by
 cases h with
 |done hq=>obtain⟨y,hy,hk2⟩:=hf _ hq;rw[hx] at hy;cases hy;omega
 |eps hy _ hq h=>rw[hx] at hy;cases hy;exact⟨_,_,Nat.lt_succ_self _,hq,h⟩
 |eat hy hk1 _ _ _=>rw[hx] at hy;cases hy;omega
theorem Acc.K8 {F:List bR}(hf:kH F fin){q:Nat}{x:bR}{w:By}(hx:F[q]? =some x) (hk:x.kind=1) (h:Acc F fin n q w):∃m q' c w',m<n/\w=c::w'/\x.set.testBit c.toNat=true/\q'∈x.to/\Acc F fin m q' w':=by
 cases h with
 |done hq=>obtain⟨y,hy,hk2⟩:=hf _ hq;rw[hx] at hy;cases hy;omega
 |eps hy hk1 _ _=>rw[hx] at hy;cases hy;omega
 |eat hy _ hc hq h=>rw[hx] at hy;cases hy;exact⟨_,_,_,_,Nat.lt_succ_self _,rfl,hc,hq,h⟩
def Splits (F:List bR) (fin:Nat->Prop) (b to:Nat) (A:By->Prop):Prop :=
 (∀n w,Acc F fin n b w->∃u v m,w=u++v/\A u/\m<=n/\Acc F fin m to v)/\(∀u v m,A u->Acc F fin m to v->∃n,Acc F fin n b (u++v))
def D3 (F ss':List bR) (lo:Nat):Prop:=∀i,lo<=i->i<ss'.length->F[i]? =ss'[i]?
theorem oe {F:List bR}:Splits F fin to to (fun w=>w=[]) :=
 ⟨fun n w h=>⟨[],w,n,rfl,rfl,Nat.le_refl _,h⟩,fun u v m hu h=>⟨m,by subst hu;exact h⟩⟩
theorem yM {F:List bR}(hf:kH F fin){first again:Nat}{A:By->Prop}{x:bR}(hx:F[again]? =some x) (hk:x.kind=0) (ht:x.to=[first,to]) (h:Splits F fin first again A):Splits F fin again to (wK A):=by
 constructor
 · intro n
   induction n using Nat.strongRecOn with
   |_ n ih =>
    intro w hw;obtain⟨m,q',hm,hq,hw'⟩:=hw.fork hf hx hk;rw[ht] at hq
    rcases List.mem_cons.1 hq with rfl|hq
    · obtain⟨u1,v1,m1,rfl,hu1,hm1,hv1⟩:=h.1 _ _ hw';obtain⟨u2,v2,m2,rfl,hu2,hm2,hv2⟩:=ih m1 (by omega) _ hv1;exact⟨u1++u2,v2,m2,by simp,.cons hu1 hu2,by omega,hv2⟩
    · have:q'=to:=by simpa using hq
      subst this;exact⟨[],w,m,rfl,.nil,by omega,hw'⟩
 · intro u v m hu hv
   induction hu with
   |nil=>exact⟨m+1,.eps hx hk (by rw[ht];simp) hv⟩
   |cons hA _ ih =>
    obtain⟨n,hn⟩:=ih;obtain⟨n',hn'⟩:=h.2 _ _ _ hA hn;exact⟨n'+1,.eps (q':=first) hx hk (by rw[ht];simp) (by rw[List.append_assoc];exact hn')⟩
theorem sH {F:List bR}{b c:Nat}{A B:By->Prop}(h1:Splits F fin b c A) (h2:Splits F fin c to B):Splits F fin b to (fun w=>∃u v,w=u++v/\A u/\B v):=by
 constructor
 · intro n w hw;obtain⟨u1,v1,m1,rfl,hu1,hm1,hv1⟩:=h1.1 _ _ hw;obtain⟨u2,v2,m2,rfl,hu2,hm2,hv2⟩:=h2.1 _ _ hv1;exact⟨u1++u2,v2,m2,by simp,⟨_,_,rfl,hu1,hu2⟩,by omega,hv2⟩
 · rintro u v m ⟨u1,u2,rfl,hA,hB⟩ hv;obtain⟨n,hn⟩:=h2.2 _ _ _ hB hv;obtain⟨n',hn'⟩:=h1.2 _ _ _ hA hn;exact⟨n',by rw[List.append_assoc];exact hn'⟩
end
mutual
theorem kV {F:List bR}{fin:Nat->Prop}(hf:kH F fin):∀(x:Nd) (ss:List bR) (to:Nat),D3 F (lay x ss to).1 ss.length->Splits F fin (lay x ss to).2 to (F4 x)
 |.mk k s kids,ss,to,hs=>by
  rw[lay] at hs ⊢;unfold F4
  by_cases h1:k=1
  · simp only[if_pos h1] at hs ⊢;have hx:F[ss.length]? =some ⟨1,s,[to],0⟩:=by rw[hs _ (Nat.le_refl _) (by simp)];simp
    constructor
    · intro n w hw;obtain⟨m,q',c,w',hm,rfl,hc,hq,hw'⟩:=hw.K8 hf hx rfl;have:q'=to:=by simpa using hq
      subst this;exact⟨[c],w',m,rfl,⟨c,rfl,hc⟩,by omega,hw'⟩
    · rintro u v m ⟨c,rfl,hc⟩ hv;exact⟨m+1,.eat hx rfl hc (by simp) hv⟩
  · simp only[if_neg h1] at hs ⊢
    by_cases h2:k=2
    · simp only[if_pos h2] at hs ⊢;exact nP hf kids ss to hs
    · simp only[if_neg h2] at hs ⊢
      by_cases h3:k=3
      · simp only[if_pos h3] at hs ⊢;have hl:=fj kids ss to;have hx:F[(bA kids ss to).1.length]? =some ⟨0,0,(bA kids ss to).2,0⟩:=by rw[hs _ (by omega) (by simp)];simp
        have ih:=nQ hf kids ss to (fun i h1 h2=>by rw[hs i h1 (by simp;omega),List.getElem?_append_left h2]);constructor
        · intro n w hw;obtain⟨m,q',hm,hq,hw'⟩:=hw.fork hf hx rfl;obtain⟨u,v,m',hu⟩:=ih.1 _ _ _ hq hw';exact⟨u,v,m',hu.1,hu.2.1,by omega,hu.2.2.2⟩
        · intro u v m hu hv;obtain⟨n,q',hq,hn⟩:=ih.2 _ _ _ hu hv;exact⟨n+1,.eps hx rfl hq hn⟩
      · simp only[if_neg h3] at hs ⊢
        by_cases h6:k=6
        · simp only[if_pos h6] at hs ⊢;have hl:=fZ kids ss to;have hx:F[(cC kids ss to).1.length]? =some ⟨0,0,[(cC kids ss to).2,to],0⟩:=by rw[hs _ (by omega) (by simp)];simp
          have ih:=nO hf kids ss to (fun i h1 h2=>by rw[hs i h1 (by simp;omega),List.getElem?_append_left h2]);constructor
          · intro n w hw;obtain⟨m,q',hm,hq,hw'⟩:=hw.fork hf hx rfl
            rcases List.mem_cons.1 hq with rfl|hq
            · obtain⟨u,v,m',h1,h2,h3,h4⟩:=ih.1 _ _ hw';exact⟨u,v,m',h1,.inr h2,by omega,h4⟩
            · have:q'=to:=by simpa using hq
              subst this;exact⟨[],w,m,rfl,.inl rfl,by omega,hw'⟩
          · rintro u v m (rfl|hu) hv
            · exact⟨m+1,.eps hx rfl (by simp) hv⟩
            · obtain⟨n,hn⟩:=ih.2 _ _ _ hu hv;exact⟨n+1,.eps hx rfl (by simp) hn⟩
        · simp only[if_neg h6] at hs ⊢
          by_cases h45:k=4\/k=5
          · simp only[if_pos h45] at hs ⊢;have hl:=fZ kids (ss++[⟨0,0,[],0⟩]) ss.length;simp only[List.length_append,List.length_singleton] at hl
            have hx:F[ss.length]? =some ⟨0,0,[(cC kids (ss++[⟨0,0,[],0⟩]) ss.length).2,to],0⟩:=by
             rw[hs _ (Nat.le_refl _) (by simp;omega)];simp[List.getElem?_set];omega
            have ih:=nO hf kids (ss++[⟨0,0,[],0⟩]) ss.length (fun i h1 h2=>by
             simp only[List.length_append,List.length_singleton] at h1;rw[hs i (by omega) (by simp;omega),List.getElem?_set_ne (by omega)])
            have hst:=yM hf hx rfl rfl ih
            by_cases h4:k=4
            · have h5:¬k=5:=by omega
              simp only[if_pos h4,if_neg h5];exact hst
            · have h5:k=5:=by omega
              simp only[if_neg h4,if_pos h5];exact sH ih hst
          · simp only[if_neg h45] at hs ⊢;have h4:¬k=4:=fun e=>h45 (.inl e)
            have h5:¬k=5:=fun e=>h45 (.inr e)
            simp only[if_neg h4,if_neg h5];exact oe
theorem nP {F:List bR}{fin:Nat->Prop}(hf:kH F fin):∀(l:List Nd) (ss:List bR) (to:Nat),D3 F (bP l ss to).1 ss.length->Splits F fin (bP l ss to).2 to (uR l)
 | [],ss,to,hs=>by
  rw[bP];unfold uR;exact oe
 |x::r,ss,to,hs=>by
  rw[bP] at hs ⊢;unfold uR;have hl:=jk r ss to;have hl2:=fN x (bP r ss to).1 (bP r ss to).2;have h2:=nP hf r ss to (fun i h1 h2=>by rw[hs i h1 (by omega),kW x _ _ i h2]);have h1:=kV hf x (bP r ss to).1 (bP r ss to).2 (fun i h1 h2=>hs i (by omega) h2);exact sH h1 h2
theorem nQ {F:List bR}{fin:Nat->Prop}(hf:kH F fin):∀(l:List Nd) (ss:List bR) (to:Nat),D3 F (bA l ss to).1 ss.length ->
 (∀n q w,q∈(bA l ss to).2->Acc F fin n q w->∃u v m,w=u++v/\qO l u/\m<=n/\Acc F fin m to v)/\(∀u v m,qO l u->Acc F fin m to v->∃n q,q∈(bA l ss to).2/\Acc F fin n q (u++v))
 | [],ss,to,hs=>by
  rw[bA];unfold qO;exact⟨fun n q w h=>absurd h List.not_mem_nil,fun u v m h=>False.elim h⟩
 |x::r,ss,to,hs=>by
  rw[bA] at hs ⊢;unfold qO;have hl:=fN x ss to;have hl2:=fj r (lay x ss to).1 to;have h1:=kV hf x ss to (fun i h1 h2=>by rw[hs i h1 (by simp only;omega)];exact oA r _ _ i h2);have h2:=nQ hf r (lay x ss to).1 to (fun i h1 h2=>hs i (by omega) h2);constructor
  · intro n q w hq hw
    rcases List.mem_cons.1 hq with rfl|hq
    · obtain⟨u,v,m,a,b,c,d⟩:=h1.1 _ _ hw;exact⟨u,v,m,a,.inl b,c,d⟩
    · obtain⟨u,v,m,a,b,c,d⟩:=h2.1 _ _ _ hq hw;exact⟨u,v,m,a,.inr b,c,d⟩
  · rintro u v m (hu|hu) hv
    · obtain⟨n,hn⟩:=h1.2 _ _ _ hu hv;exact⟨n,_,List.mem_cons_self,hn⟩
    · obtain⟨n,q,hq,hn⟩:=h2.2 _ _ _ hu hv;exact⟨n,q,List.mem_cons_of_mem _ hq,hn⟩
theorem nO {F:List bR}{fin:Nat->Prop}(hf:kH F fin):∀(l:List Nd) (ss:List bR) (to:Nat),D3 F (cC l ss to).1 ss.length->Splits F fin (cC l ss to).2 to (oV l)
 | [],ss,to,hs=>by
  rw[cC];unfold oV;exact oe
 |x::r,ss,to,hs=>by
  rw[cC] at hs ⊢;unfold oV;exact kV hf x ss to hs
end
section
variable {k i n to st:Nat}{fin:Nat->Prop}{todo:List Nat}
inductive FX (ss:List bR):Nat->Nat->Prop where
 |refl (i:Nat):FX ss i i
 |step {i j k:Nat}{x:bR}:ss[i]? =some x->x.kind=0->j∈x.to->FX ss j k->FX ss i k
theorem FX.snoc {ss:List bR}{j:Nat}{x:bR}(h:FX ss i j) (hx:ss[j]? =some x) (hk:x.kind=0) (ht:k∈x.to):FX ss i k:=by
 induction h with
 |refl=>exact .step hx hk ht (.refl _)
 |step a b c _ ih=>exact .step a b c (ih hx)
structure FY (ss:List bR) (T todo:List Nat) (seen:List Bool):Prop where
 len:seen.length=ss.length
 inn:∀j∈todo,j<ss.length
 sound:∀i,(seen[i]? =some true\/i∈todo)->∃t∈T,FX ss t i
 cl:∀(i:Nat) (x:bR),seen[i]? =some true->ss[i]? =some x->x.kind=0->∀j∈x.to,seen[j]? =some true\/j∈todo
 all:∀t∈T,seen[t]? =some true\/t∈todo
theorem Bl {l:List Nat}(h:l.getLast? =some i):l=l.dropLast++[i]:=by
 obtain⟨h0,rfl⟩:=List.getLast?_eq_some_iff.1 h;simp
theorem qG {ss:List bR}{T:List Nat}(hg:Good ss):∀(n:Nat) (todo:List Nat) (seen:List Bool),todo.length+qX ss seen<=n->FY ss T todo seen->FY ss T [] (iO ss n todo seen)
 | 0,todo,seen,hn,k=>by
  have:todo=[]:=List.length_eq_zero_iff.1 (by omega);subst this;exact k
 |n+1,todo,seen,hn,k=>by
  unfold iO;split
  · rename_i h;have:todo=[]:=List.getLast?_eq_none_iff.1 h;subst this;exact k
  · rename_i i h;have hsp:=Bl h;have hlen:todo.length=todo.dropLast.length+1:=by rw[hsp];simp
    have hi:i∈todo:=by rw[hsp];simp
    have hmem:∀j,j∈todo->j∈todo.dropLast\/j=i:=fun j hj=>by rw[hsp] at hj;simpa using hj
    have hsub:∀j,j∈todo.dropLast->j∈todo:=fun j hj=>by rw[hsp];simp[hj]
    split
    · rename_i hs;refine qG hg n _ _ (by omega) ⟨k.len,fun j hj=>k.inn j (hsub j hj),fun j hj=>k.sound j (hj.imp id (hsub j)),fun j x a b c d e=>?_,fun t ht=>?_⟩
      · rcases k.cl j x a b c d e with h1|h1
        · exact .inl h1
        · rcases hmem d h1 with h2|rfl
          · exact .inr h2
          · exact .inl hs
      · rcases k.all t ht with h1|h1
        · exact .inl h1
        · rcases hmem t h1 with h2|rfl
          · exact .inr h2
          · exact .inl hs
    · rename_i hs;have hil:=k.inn i hi;obtain⟨x,hx⟩:∃x,ss[i]? =some x:=⟨_,List.getElem?_eq_getElem hil⟩
      have hf:seen[i]? =some false:=by
       obtain⟨b,hb⟩:∃b,seen[i]? =some b:=⟨_,List.getElem?_eq_getElem (by rw[k.len];exact hil)⟩
       cases b
       · exact hb
       · exact absurd hb hs
      have hp:=xm ss seen i x hx hf;have hself:(seen.set i true)[i]? =some true:=by rw[List.getElem?_set_self (by rw[k.len];exact hil)]
      have hset:∀j,seen[j]? =some true->(seen.set i true)[j]? =some true:=fun j hj=>by
       by_cases e:i=j
       · subst e;exact hself
       · rw[List.getElem?_set_ne e];exact hj
      have hget:∀j,(seen.set i true)[j]? =some true->j=i\/seen[j]? =some true:=fun j hj=>by
       by_cases e:i=j
       · exact .inl e.symm
       · rw[List.getElem?_set_ne e] at hj;exact .inr hj
      rw[hx];simp only;obtain⟨t0,Ip,he0⟩:=k.sound i (.inr hi);have hxm:x∈ss:=List.mem_of_getElem? hx;generalize hnew:(if x.kind=0 then todo.dropLast++x.to else todo.dropLast)=new
      have hin:∀j,j∈new->j∈todo.dropLast\/(x.kind=0/\j∈x.to):=fun j hj=>by
       subst hnew;split at hj
       · rename_i hk
         rcases List.mem_append.1 hj with h1|h1
         · exact .inl h1
         · exact .inr ⟨hk,h1⟩
       · exact .inl hj
      have hold:∀j,j∈todo.dropLast->j∈new:=fun j hj=>by
       subst hnew;split
       · exact List.mem_append_left _ hj
       · exact hj
      have hbig:new.length<=todo.dropLast.length+x.to.length:=by
       subst hnew;split<;>simp
      refine qG hg n _ _ (by omega) ⟨by rw[List.length_set];exact k.len,fun j hj=>?_,fun j hj=>?_,fun j y a b c d e=>?_,fun t ht=>?_⟩
      · rcases hin j hj with h1|⟨_,h1⟩
        · exact k.inn j (hsub j h1)
        · exact hg x hxm j h1
      · rcases hj with h1|h1
        · rcases hget j h1 with rfl|h2
          · exact⟨t0,Ip,he0⟩
          · exact k.sound j (.inl h2)
        · rcases hin j h1 with h2|⟨hk,h2⟩
          · exact k.sound j (.inr (hsub j h2))
          · exact⟨t0,Ip,he0.snoc hx hk h2⟩
      · rcases hget j a with rfl|a
        · rw[hx] at b;cases b;refine .inr ?_;rw[if_pos c] at hnew;subst hnew;exact List.mem_append_right _ e
        · rcases k.cl j y a b c d e with h1|h1
          · exact .inl (hset d h1)
          · rcases hmem d h1 with h2|rfl
            · exact .inr (hold d h2)
            · exact .inl hself
      · rcases k.all t ht with h1|h1
        · exact .inl (hset t h1)
        · rcases hmem t h1 with h2|rfl
          · exact .inr (hold t h2)
          · exact .inl hself
theorem oM {ss:List bR}(hg:Good ss) (ht:∀j∈todo,j<ss.length) (j:Nat):j∈closed ss todo↔∃x,ss[j]? =some x/\x.kind≠0/\∃t∈todo,FX ss t j:=by
 unfold closed;split
 · rename_i h;have:todo=[]:=List.length_eq_zero_iff.1 h;subst this;simp
 · have h0:∀i:Nat,(List.replicate ss.length false)[i]? ≠some true:=fun i hi=>by rw[List.getElem?_replicate] at hi;split at hi<;>cases hi
   have hi0:FY ss todo todo (List.replicate ss.length false):=⟨by simp,ht,fun i hi=>hi.elim (fun hi=>absurd hi (h0 i)) fun hi=>⟨i,hi,.refl i⟩,fun i x hi=>absurd hi (h0 i),fun t h=>.inr h⟩
   have hi:=qG hg (todo.length+qX ss (List.replicate ss.length false)) todo _ (Nat.le_refl _) hi0;generalize iO ss (todo.length+qX ss (List.replicate ss.length false)) todo (List.replicate ss.length false)=out at hi;simp only[List.mem_filter,List.mem_range,Bool.and_eq_true,bne_iff_ne,ne_eq];constructor
   · rintro⟨hj,h1,h2⟩;obtain⟨x,hx⟩:∃x,ss[j]? =some x:=⟨_,List.getElem?_eq_getElem hj⟩
     rw[hx] at h2;have h1:out[j]? =some true:=by simpa using h1
     exact⟨x,hx,by simpa using h2,hi.sound j (.inl h1)⟩
   · rintro⟨x,hx,hk,t,ht',he⟩
     have key:∀a b,FX ss a b->out[a]? =some true->out[b]? =some true:=by
      intro a b he
      induction he with
      |refl=>exact id
      |step hy hk hm _ ih =>
       intro ha;refine ih ?_
       rcases hi.cl _ _ ha hy hk _ hm with h1|h1
       · exact h1
       · cases h1
     have h1:=key _ _ he (by
      rcases hi.all t ht' with h1|h1
      · exact h1
      · cases h1)
     refine⟨(List.getElem?_eq_some_iff.1 hx).1,by rw[h1];rfl,by rw[hx];simpa using hk⟩
theorem Acc.through {ss:List bR}{j:Nat}(h:FX ss i j){w:By}(k:Acc ss fin n j w):∃m,Acc ss fin m i w:=by
 induction h with
 |refl=>exact⟨n,k⟩
 |step a b c _ ih=>obtain⟨m,hm⟩:=ih k;exact⟨m+1,.eps a b c hm⟩
theorem Acc.stop {ss:List bR}(hf:kH ss fin){w:By}(k:Acc ss fin n i w):∃j x,FX ss i j/\ss[j]? =some x/\x.kind≠0/\∃m,Acc ss fin m j w:=by
 induction k with
 |done hq=>obtain⟨x,hx,hk⟩:=hf _ hq;exact⟨_,x,.refl _,hx,by omega,_,.done hq⟩
 |eps a b c _ ih=>obtain⟨j,x,he,hr⟩:=ih;exact⟨j,x,.step a b c he,hr⟩
 |eat a b c d e _=>exact⟨_,_,.refl _,a,by omega,_,.eat a b c d e⟩
def vw (ss:List bR) (fin:Nat->Prop) (T:List Nat) (w:By):Prop:=∃j∈T,∃n,Acc ss fin n j w
theorem uy {ss:List bR}(hf:kH ss fin) (hg:Good ss) (ht:∀j∈todo,j<ss.length) (w:By):vw ss fin (closed ss todo) w↔vw ss fin todo w:=by
 constructor
 · rintro⟨j,hj,n,h⟩;obtain⟨x,hx,hk,t,ht',he⟩:=(oM hg ht j).1 hj;exact⟨t,ht',h.through he⟩
 · rintro⟨t,ht',n,h⟩;obtain⟨j,x,he,hx,hk,hm⟩:=h.stop hf;exact⟨j,(oM hg ht j).2 ⟨x,hx,hk,t,ht',he⟩,hm⟩
theorem ng (ss:List bR) (c:UInt8) (k:Nat):∀(l a:List Nat),k∈stepG ss c l a↔k∈a\/∃j∈l,∃x,ss[j]? =some x/\jd x c=true/\k∈x.to
 | [],a=>by simp[stepG]
 |j::r,a=>by
  rw[stepG,ng ss c k r];cases hx:ss[j]? with
  |none=>simp[hx]
  |some x =>
   simp only;cases ho:jd x c with
   |true=>simp[hx,ho,or_assoc]
   |false=>simp[hx,ho]
def Flat (ss:List bR) (T:List Nat):Prop:=∀j∈T,∃x,ss[j]? =some x/\x.kind≠0
theorem mK {ss:List bR}(hg:Good ss) (ht:∀j∈todo,j<ss.length):Flat ss (closed ss todo):=fun j hj=>by
 obtain⟨x,hx,hk,_⟩:=(oM hg ht j).1 hj;exact⟨x,hx,hk⟩
theorem yI {ss:List bR}(hg:Good ss) (c:UInt8) (T:List Nat):∀j∈stepG ss c T [],j<ss.length:=fun j hj=>by
 rcases (ng ss c j T []).1 hj with h|⟨i,_,x,hx,_,hm⟩
 · cases h
 · exact hg x (List.mem_of_getElem? hx) j hm
theorem sG {ss:List bR}(hg:Good ss) (c:UInt8) (T:List Nat):Flat ss (cS ss c T):=by
 unfold cS;split
 · intro j hj;cases hj
 · exact mK hg (yI hg c T)
theorem CU {ss:List bR}(hf:kH ss fin) (hg:Good ss){T:List Nat}(hT:Flat ss T) (c:UInt8) (w:By):vw ss fin (cS ss c T) w↔vw ss fin T (c::w):=by
 unfold cS;split
 · rename_i h0;constructor
   · rintro⟨j,hj,_⟩;cases hj
   · rintro⟨j,hj,_⟩;obtain⟨x,hx,_⟩:=hT j hj;have:=(List.getElem?_eq_some_iff.1 hx).1;omega
 · rw[uy hf hg (yI hg c T)];constructor
   · rintro⟨k,hk,n,h⟩
     rcases (ng ss c k T []).1 hk with h1|⟨j,hj,x,hx,ho,hm⟩
     · cases h1
     · simp only[jd,Bool.and_eq_true,decide_eq_true_eq] at ho;exact⟨j,hj,n+1,.eat hx ho.1 ho.2 hm h⟩
   · rintro⟨j,hj,n,h⟩;obtain⟨x,hx,hk⟩:=hT j hj;cases h with
     |eps hy hk0 _ _=>rw[hx] at hy;cases hy;exact absurd hk0 hk
     |eat hy hk1 hc hm h=>exact⟨_,(ng ss c _ T []).2 (.inr ⟨j,hj,_,hy,by simp[jd,hk1,hc],hm⟩),_,h⟩
def lT (ss:List bR) (r:Nat) (q:Nat):Prop:=∃x,ss[q]? =some x/\x.kind=2/\x.rule=r
theorem sw (ss:List bR) (r:Nat):kH ss (lT ss r):=fun _ ⟨x,hx,hk,_⟩=>⟨x,hx,hk⟩
theorem FP {ss:List bR}{r:Nat}{T:List Nat}(hT:Flat ss T):vw ss (lT ss r) T []↔∃j∈T,lT ss r j:=by
 constructor
 · rintro⟨j,hj,n,h⟩;obtain⟨x,hx,hk⟩:=hT j hj;cases h with
   |done hq=>exact⟨j,hj,hq⟩
   |eps hy hk0 _ _=>rw[hx] at hy;cases hy;exact absurd hk0 hk
 · rintro⟨j,hj,hq⟩;exact⟨j,hj,0,.done hq⟩
def mW (p:Nat->Prop) (r:Int):Prop:=(r= -1/\∀i,¬p i)\/∃n:Nat,r=n/\p n/\∀i,p i->n<=i
theorem uL (ss:List bR):∀(l:List Nat) (b:Int) (p:Nat->Prop),mW p b->mW (fun r=>p r\/∃j∈l,lT ss r j) (qk ss l b)
 | [],b,p,h=>by
  rw[qk]
  rcases h with ⟨rfl,h1⟩|⟨n,rfl,h1,h2⟩
  · exact .inl ⟨rfl,fun i h=>by rcases h with h|⟨_,h,_⟩;exact h1 i h;cases h⟩
  · exact .inr ⟨n,rfl,.inl h1,fun i h=>by rcases h with h|⟨_,h,_⟩;exact h2 i h;cases h⟩
 |j::l,b,p,h=>by
  rw[qk]
  have key:∀b',mW (fun r=>p r\/lT ss r j) b'->mW (fun r=>p r\/∃k∈j::l,lT ss r k) (qk ss l b'):=fun b' hb'=>by
   have:=uL ss l b' _ hb'
   have e:(fun r=>(p r\/lT ss r j)\/∃k∈l,lT ss r k)=(fun r=>p r\/∃k∈j::l,lT ss r k):=by
    funext r;simp[or_assoc]
   rwa [e] at this
  have no:(∀r,¬lT ss r j)->mW (fun r=>p r\/lT ss r j) b:=fun hno=>by
   have e:(fun r=>p r\/lT ss r j)=p:=by funext r;simp[hno r]
   rw[e];exact h
  cases hx:ss[j]? with
  |none=>exact key b (no fun r ⟨x,hx',_⟩=>by rw[hx] at hx';cases hx')
  |some x =>
   simp only
   by_cases hk:x.kind=2
   · have hfin:∀r,lT ss r j↔x.rule=r:=fun r=>⟨fun⟨y,hy,_,hr⟩=>by rw[hx] at hy;cases hy;exact hr,fun hr=>⟨x,hx,hk,hr⟩⟩
     by_cases hb:qj x b=true
     · rw[if_pos hb];refine key _ (.inr ⟨x.rule,rfl,.inr ((hfin _).2 rfl),fun i hi=>?_⟩);simp only[qj,decide_eq_true_eq] at hb
       rcases hi with hi|hi
       · rcases h with ⟨rfl,h1⟩|⟨n,rfl,h1,h2⟩
         · exact absurd hi (h1 i)
         · have:=h2 i hi;omega
       · rw[(hfin i).1 hi];exact Nat.le_refl _
     · rw[if_neg hb];refine key _ ?_;simp only[qj,decide_eq_true_eq] at hb
       rcases h with ⟨rfl,h1⟩|⟨n,rfl,h1,h2⟩
       · exact absurd ⟨hk,.inl (by decide)⟩ hb
       · refine .inr ⟨n,rfl,.inl h1,fun i hi=>?_⟩
         rcases hi with hi|hi
         · exact h2 i hi
         · have:=(hfin i).1 hi;omega
   · rw[if_neg (by simp[qj,hk])];exact key b (no fun r ⟨y,hy,hk2,_⟩=>by rw[hx] at hy;cases hy;exact hk hk2)
def jJ (ss:List bR) (st:Nat) (w:By):List Nat:=w.foldl (fun T c=>cS ss c T) (cG ss st)
theorem C4 {ss:List bR}(hg:Good ss) (hst:st<ss.length) (w:By):Flat ss (jJ ss st w):=by
 have h0:Flat ss (cG ss st):=by
  unfold cG;split
  · intro j hj;cases hj
  · exact mK hg (fun j hj=>by simp at hj;omega)
 unfold jJ;generalize cG ss st=T at h0
 induction w generalizing T with
 |nil=>exact h0
 |cons c w ih=>exact ih _ (sG hg c T)
theorem Ex {ss:List bR}(hf:kH ss fin) (hg:Good ss) (hst:st<ss.length) (w v:By):vw ss fin (jJ ss st w) v↔∃n,Acc ss fin n st (w++v):=by
 have h0:Flat ss (cG ss st)/\∀v,vw ss fin (cG ss st) v↔∃n,Acc ss fin n st v:=by
  unfold cG;rw[if_neg (by omega)];have ht:∀j∈[st],j<ss.length:=fun j hj=>by simp at hj;omega
  refine⟨mK hg ht,fun v=>?_⟩;rw[uy hf hg ht];simp[vw]
 unfold jJ
 have key:∀(w:By) (T:List Nat),Flat ss T->(vw ss fin (w.foldl (fun T c=>cS ss c T) T) v↔vw ss fin T (w++v)):=by
  intro w
  induction w with
  |nil=>intro T _;rfl
  |cons c w ih =>
   intro T hT;rw[List.foldl_cons,ih _ (sG hg c T),CU hf hg hT];rfl
 rw[key w _ h0.1,h0.2]
theorem vu {ss:List bR}(hg:Good ss) (hst:st<ss.length) (w:By):mW (fun r=>∃n,Acc ss (lT ss r) n st w) (bJ ss (jJ ss st w)):=by
 unfold bJ;rw[if_neg (by omega)];have h:=uL ss (jJ ss st w) (-1) (fun _=>False) (.inl ⟨rfl,fun _ h=>h⟩)
 have e:(fun r=>False\/∃j∈jJ ss st w,lT ss r j)=(fun r=>∃n,Acc ss (lT ss r) n st w):=by
  funext r
  have:=Ex (sw ss r) hg hst w [];rw[FP (C4 hg hst w),List.append_nil] at this;simpa using this
 rw[e] at h;exact h
def eX (ss:List bR):Nat:=(ss.map fun x=>x.to.length+1).sum
theorem gm (a b:List bR):eX (a++b)=eX a+eX b:=by simp[eX]
theorem yD:∀(ss:List bR) (i:Nat) (y x:bR),ss[i]? =some y->eX (ss.set i x)+y.to.length=eX ss+x.to.length
 | [],i,y,x,h=>by simp at h
 |z::r,0,y,x,h=>by simp at h;subst h;simp[eX];omega
 |z::r,i+1,y,x,h=>by have:=yD r i y x (by simpa using h);simp[eX] at *;omega
theorem EE:∀(ss:List bR) (seen:List Bool),qX ss seen<=eX ss
 | [],_=>by simp[qX]
 |x::r,[]=>by simp[qX]
 |x::r,b::s=>by
  have:=EE r s;simp only[qX,eX,List.map_cons,List.sum_cons] at *;split<;>omega
end
mutual
theorem sv:∀(x:Nd) (ss:List bR) (to:Nat),eX (lay x ss to).1+1<=eX ss+4*nE x
 |.mk k s kids,ss,to=>by
  rw[lay];simp only[nE];split
  · rw[gm];simp[eX];omega
  · split
    · have:=tI kids ss to;omega
    · split
      · have:=tK kids ss to;have hl:=mC kids ss to;simp only[gm];simp[eX] at *;omega
      · split
        · have:=tH kids ss to;simp only[gm];simp[eX] at *;omega
        · split
          · have:=tH kids (ss++[⟨0,0,[],0⟩]) ss.length;have h2:=yD (cC kids (ss++[⟨0,0,[],0⟩]) ss.length).1 ss.length ⟨0,0,[],0⟩ ⟨0,0,[(cC kids (ss++[⟨0,0,[],0⟩]) ss.length).2,to],0⟩ (by rw[oz kids _ _ _ (by simp)];simp);rw[gm] at this;simp[eX] at *;omega
          · simp;omega
theorem tI:∀(l:List Nd) (ss:List bR) (to:Nat),eX (bP l ss to).1<=eX ss+4*gw l
 | [],ss,to=>by simp[bP]
 |x::r,ss,to=>by
  rw[bP];have h1:=tI r ss to;have h2:=sv x (bP r ss to).1 (bP r ss to).2;simp only[gw];omega
theorem tK:∀(l:List Nd) (ss:List bR) (to:Nat),eX (bA l ss to).1+l.length<=eX ss+4*gw l
 | [],ss,to=>by simp[bA]
 |x::r,ss,to=>by
  rw[bA];have h1:=sv x ss to;have h2:=tK r (lay x ss to).1 to;simp only[gw,List.length_cons];omega
theorem tH:∀(l:List Nd) (ss:List bR) (to:Nat),eX (cC l ss to).1<=eX ss+4*gw l
 | [],ss,to=>by simp[cC]
 |x::r,ss,to=>by
  rw[cC];have h1:=sv x ss to;simp only[gw];omega
end
section
variable {k i n to st:Nat}{fin:Nat->Prop}{todo:List Nat}
theorem Good.append {a b:List bR}(ha:Good a) (hb:∀x∈b,∀j∈x.to,j<(a++b).length):Good (a++b):=fun x hx j hj=>by
 rcases List.mem_append.1 hx with h|h
 · have:=ha x h j hj;simp;omega
 · exact hb x h j hj
theorem Good.set {a:List bR}(ha:Good a){i:Nat}{y:bR}(hy:∀j∈y.to,j<a.length):Good (a.set i y):=fun x hx j hj=>by
 rw[List.length_set]
 rcases List.mem_or_eq_of_mem_set hx with h|rfl
 · exact ha x h j hj
 · exact hy j hj
end
mutual
theorem pT:∀(x:Nd) (ss:List bR) (to:Nat),Good ss->to<ss.length->Good (lay x ss to).1/\(lay x ss to).2<(lay x ss to).1.length
 |.mk k s kids,ss,to,hg,ht=>by
  rw[lay];split
  · exact⟨hg.append (by intro x hx j hj;simp at hx;subst hx;simp at hj;subst hj;simp;omega),by simp⟩
  · split
    · exact ry kids ss to hg ht
    · split
      · have h:=rB kids ss to hg ht;exact⟨h.1.append (by intro x hx j hj;simp at hx;subst hx;have:=h.2 j hj;simp;omega),by simp⟩
      · split
        · have h:=rq kids ss to hg ht;have hl:=fZ kids ss to;exact⟨h.1.append (by intro x hx j hj;simp at hx;subst hx;simp at hj;simp;rcases hj with rfl|rfl<;>omega),by simp⟩
        · split
          · have h:=rq kids (ss++[⟨0,0,[],0⟩]) ss.length (hg.append (by intro x hx j hj;simp at hx;subst hx;cases hj)) (by simp);have hl:=fZ kids (ss++[⟨0,0,[],0⟩]) ss.length;simp only[List.length_append,List.length_singleton] at hl;refine⟨h.1.set (by intro j hj;simp at hj;rcases hj with rfl|rfl;exact h.2;omega),?_⟩;simp only[List.length_set];split
            · exact h.2
            · omega
          · exact⟨hg,ht⟩
theorem ry:∀(l:List Nd) (ss:List bR) (to:Nat),Good ss->to<ss.length->Good (bP l ss to).1/\(bP l ss to).2<(bP l ss to).1.length
 | [],ss,to,hg,ht=>by rw[bP];exact⟨hg,ht⟩
 |x::r,ss,to,hg,ht=>by
  rw[bP];have h1:=ry r ss to hg ht;exact pT x _ _ h1.1 h1.2
theorem rB:∀(l:List Nd) (ss:List bR) (to:Nat),Good ss->to<ss.length->Good (bA l ss to).1/\∀j∈(bA l ss to).2,j<(bA l ss to).1.length
 | [],ss,to,hg,ht=>by rw[bA];exact⟨hg,fun j hj=>by cases hj⟩
 |x::r,ss,to,hg,ht=>by
  rw[bA];have h1:=pT x ss to hg ht;have hl:=fN x ss to;have h2:=rB r (lay x ss to).1 to h1.1 (by omega);have hl2:=fj r (lay x ss to).1 to;refine⟨h2.1,fun j hj=>?_⟩
  rcases List.mem_cons.1 hj with rfl|hj
  · simp only;omega
  · exact h2.2 j hj
theorem rq:∀(l:List Nd) (ss:List bR) (to:Nat),Good ss->to<ss.length->Good (cC l ss to).1/\(cC l ss to).2<(cC l ss to).1.length
 | [],ss,to,hg,ht=>by rw[cC];exact⟨hg,ht⟩
 |x::r,ss,to,hg,ht=>by rw[cC];exact pT x ss to hg ht
end
section
variable {k i n to st:Nat}{fin:Nat->Prop}{todo:List Nat}
structure Kk (i:Nat) (rules:List By) (ss:List bR) (t:List Nat) (ss':List bR) (t':List Nat):Prop where
 pre:∀j,j<ss.length->ss'[j]? =ss[j]?
 len:ss.length<=ss'.length/\ss'.length<=ss.length+402*rules.length
 tot:eX ss'<=eX ss+1605*rules.length
 good:Good ss->(∀j∈t,j<ss.length)->Good ss'/\∀j∈t',j<ss'.length
 starts:∃t2,t'=t++t2/\t2.length=rules.length/\∀k s,rules[k]? =some s->(bY s).2=0/\∃a b,t2[k]? =some b/\ss.length<=a/\ss'[a]? =some ⟨2,0,[],i+k⟩/\∀F fin,D3 F ss' ss.length->kH F fin->Splits F fin b a (F4 (bY s).1)
theorem tn:∀(rules:List By) (i:Nat) (ss:List bR) (t:List Nat) (ss':List bR) (t':List Nat),kq i rules ss t= .inr (ss',t')->Kk i rules ss t ss' t'
 | [],i,ss,t,ss',t',h=>by
  rw[kq] at h;cases h;exact⟨fun _ _=>rfl,by simp,by simp,fun a b=>⟨a,b⟩,[],by simp,rfl,fun k s h=>by simp at h⟩
 |s::r,i,ss,t,ss',t',h=>by
  rw[kq] at h;split at h
  · cases h
  · rename_i he;have he:(bY s).2=0:=by simpa using he
    have hsm:=pJ he;have ih:=tn r _ _ _ _ _ h;have hpre:=kW (bY s).1 (ss++[⟨2,0,[],i⟩]) ss.length;have hlen:=fN (bY s).1 (ss++[⟨2,0,[],i⟩]) ss.length;have htot:=sv (bY s).1 (ss++[⟨2,0,[],i⟩]) ss.length;simp only[List.length_append,List.length_singleton,gm] at hpre hlen htot;have hL:eX [(⟨2,0,[],i⟩:bR)]=1:=by simp[eX]
    generalize hly:lay (bY s).1 (ss++[⟨2,0,[],i⟩]) ss.length=ly at *;obtain⟨t2,Gw,htl,hst⟩:=ih.starts;refine⟨fun j hj=>?_,⟨?_,?_⟩,?_,fun hg ht=>?_,ly.2::t2,by simp[Gw],by simp[htl],fun k s' hk=>?_⟩
    · rw[ih.pre j (by omega),hpre j (by omega),List.getElem?_append_left hj]
    · have:=ih.len.1;omega
    · have:=ih.len.2;simp only[List.length_cons];omega
    · have:=ih.tot;simp only[List.length_cons];omega
    · have hgl:=pT (bY s).1 (ss++[⟨2,0,[],i⟩]) ss.length (hg.append (by intro x hx j hj;simp at hx;subst hx;cases hj)) (by simp);rw[hly] at hgl
      exact ih.good hgl.1 (fun j hj=>by
       rcases List.mem_append.1 hj with h1|h1
       · have:=ht j h1;omega
       · have:j=ly.2:=by simpa using h1
         rw[this];exact hgl.2)
    · cases k with
      |zero =>
       simp at hk;subst hk;refine⟨he,ss.length,ly.2,rfl,Nat.le_refl _,?_,fun F fin hS hF=>?_⟩
       · rw[ih.pre _ (by omega),hpre _ (by omega)];simp
       · have:=kV hF (bY s).1 (ss++[⟨2,0,[],i⟩]) ss.length (fun j h1 h2=>by
          rw[hly] at h2 ⊢;simp only[List.length_append,List.length_singleton] at h1;rw[hS j (by omega) (by have:=ih.len.1;omega)];exact ih.pre j h2)
         rwa [hly] at this
      |succ k =>
       obtain⟨h0,a,b,hb,hla,ha,hsp⟩:=hst k s' (by simpa using hk);exact⟨h0,a,b,by simpa using hb,by omega,by rw[ha];simp;omega,fun F fin hS hF=>hsp F fin (fun j h1 h2=>hS j (by omega) h2) hF⟩
structure Made (rules:List By) (ss:List bR) (st:Nat):Prop where
 good:Good ss
 stl:st<ss.length
 len:ss.length<=30000
 tot:eX ss<=110000
 num:rules.length<=64
 lng:∀r w,(∃n,Acc ss (lT ss r) n st w)↔∃s,rules[r]? =some s/\F4 (bY s).1 w
theorem fX {rules:List By}{ss:List bR}(h:eU rules= .inr (ss,st)):Made rules ss st:=by
 unfold eU at h;split at h
 · cases h
 · rename_i hn;split at h
   · cases h
   · rename_i ss0 t hm;split at h
     · cases h
     · cases h;have k:=tn _ _ _ _ _ _ hm;obtain⟨t2,Gw,htl,hst⟩:=k.starts;have ht:t=t2:=by simpa using Gw
       subst ht;have hl:=k.len.2;have htot:=k.tot;have hgd:=k.good (by intro x hx;cases hx) (by intro j hj;cases hj);simp only[List.length_nil] at hl;have h0:eX ([]:List bR)=0:=rfl;have hF:(ss0++[⟨0,0,t,0⟩])[ss0.length]? =some ⟨0,0,t,0⟩:=by simp
       have hS:D3 (ss0++[⟨0,0,t,0⟩]) ss0 ([]:List bR).length:=fun i _ h2=>List.getElem?_append_left h2
       refine⟨hgd.1.append (by intro x hx j hj;simp at hx;subst hx;have:=hgd.2 j hj;simp;omega),by simp,by simp;omega,?_,by omega,fun r w=>?_⟩
       · have hq:eX [(⟨0,0,t,0⟩:bR)]=t.length+1:=by simp[eX]
         rw[gm,hq];omega
       · constructor
         · rintro⟨n,hw⟩;obtain⟨m,q',_,hq,hw'⟩:=hw.fork (sw _ r) hF rfl;obtain⟨k',hk'⟩:=List.getElem?_of_mem hq;have hkl:k'<t.length:=(List.getElem?_eq_some_iff.1 hk').1;obtain⟨s,hs⟩:∃s,rules[k']? =some s:=⟨_,List.getElem?_eq_getElem (by omega)⟩
           obtain⟨_,a,b,hb,_,ha,hsp⟩:=hst k' s hs;rw[hk'] at hb;cases hb;obtain⟨u,v,m',rfl,hu,_,hv⟩:=(hsp _ _ hS (sw _ r)).1 _ _ hw';have ha':(ss0++[(⟨0,0,t,0⟩:bR)])[a]? =some ⟨2,0,[],0+k'⟩:=by rw[hS a (Nat.zero_le _) (List.getElem?_eq_some_iff.1 ha).1,ha]
           cases hv with
           |done hfin =>
            obtain⟨x,hx,_,hr⟩:=hfin;rw[ha'] at hx;cases hx;simp only[Nat.zero_add] at hr;subst hr;exact⟨s,hs,by rw[List.append_nil];exact hu⟩
           |eps hx hk _ _=>rw[ha'] at hx;cases hx;cases hk
           |eat hx hk _ _ _=>rw[ha'] at hx;cases hx;cases hk
         · rintro⟨s,hs,hw⟩;obtain⟨_,a,b,hb,_,ha,hsp⟩:=hst r s hs;have ha':(ss0++[(⟨0,0,t,0⟩:bR)])[a]? =some ⟨2,0,[],0+r⟩:=by rw[hS a (Nat.zero_le _) (List.getElem?_eq_some_iff.1 ha).1,ha]
           obtain⟨n,hn⟩:=(hsp _ _ hS (sw _ r)).2 w [] 0 hw (.done ⟨_,ha',rfl,by simp⟩);rw[List.append_nil] at hn;exact⟨n+1,.eps (q':=b) hF rfl (show b∈t from List.mem_of_getElem? hb) hn⟩
theorem wV {f:Nat->Nat}:∀{a b:List Nat},a.Sublist b->(a.map f).sum<=(b.map f).sum
 |_,_,.slnil=>by simp
 |_,_,.cons _ h=>by have:=wV (f:=f) h;simp;omega
 |_,_,.cons_cons _ h=>by have:=wV (f:=f) h;simp;omega
theorem Ck:∀ss:List bR,(ss.map fun x=>x.to.length).sum<=eX ss
 | []=>by simp[eX]
 |x::r=>by have:=Ck r;simp[eX] at *;omega
theorem Da (ss:List bR):((List.range ss.length).map fun i=>match ss[i]? with|some x=>x.to.length|none=>0).sum<=eX ss:=by
 have:((List.range ss.length).map fun i=>match ss[i]? with|some x=>x.to.length|none=>0)=ss.map fun x=>x.to.length:=by
  apply List.ext_getElem
  · simp
  · intro i h1 h2;simp at h2;simp[h2]
 rw[this];exact Ck ss
theorem vI (ss:List bR) (c:UInt8):∀(l a:List Nat),(stepG ss c l a).length<=a.length+(l.map fun i=>match ss[i]? with|some x=>x.to.length|none=>0).sum
 | [],a=>by simp[stepG]
 |j::r,a=>by
  rw[stepG];refine Nat.le_trans (vI ss c r _) ?_;simp only[List.map_cons,List.sum_cons];cases ss[j]? with
  |none=>simp
  |some x=>simp only;split<;>simp<;>omega
theorem CV {ss:List bR}(c:UInt8){now:List Nat}(h:now.Sublist (List.range ss.length)):(stepG ss c now []).length<=eX ss:=by
 have h1:=vI ss c now [];have h2:=wV (f:=fun i=>match ss[i]? with|some x=>x.to.length|none=>0) h;have h3:=Da ss;simp only[List.length_nil] at h1;omega
def IsMatch (P:Nat->Nat->Prop) (n:Nat) (o:Int×Int):Prop :=
 (o=(0,-1)/\∀k r,k<=n->¬P k r)\/∃k r:Nat,o=((k:Int),(r:Int))/\k<=n/\P k r/\(∀k' r',k'<=n->P k' r'->k'<=k)/\∀r',P k r'->r<=r'
def mO (ac:Nat->Int):Nat->Nat->Int×Int->Int×Int
 | 0,k,b=>if 0<=ac k then ((k:Int),ac k) else b
 |n+1,k,b=>mO ac n (k+1) (if 0<=ac k then ((k:Int),ac k) else b)
def oW (P:Nat->Nat->Prop) (m:Nat) (o:Int×Int):Prop :=
 (o=(0,-1)/\∀k r,k<m->¬P k r)\/∃k r:Nat,o=((k:Int),(r:Int))/\k<m/\P k r/\(∀k' r',k'<m->P k' r'->k'<=k)/\∀r',P k r'->r<=r'
theorem oW.next {P:Nat->Nat->Prop}{m:Nat}{o:Int×Int}{a:Int}(h:oW P m o) (ha:mW (P m) a):oW P (m+1) (if 0<=a then ((m:Int),a) else o):=by
 rcases ha with ⟨rfl,h1⟩|⟨r,rfl,h1,h2⟩
 · rw[if_neg (by decide)]
   rcases h with ⟨rfl,h3⟩|⟨k,r,rfl,hk,hp,h3,h4⟩
   · exact .inl ⟨rfl,fun k r hk hp=>by
      by_cases e:k=m
      · subst e;exact h1 _ hp
      · exact h3 k r (by omega) hp⟩
   · exact .inr ⟨k,r,rfl,by omega,hp,fun k' r' hk' hp'=>by
      by_cases e:k'=m
      · subst e;exact absurd hp' (h1 _)
      · exact h3 k' r' (by omega) hp',h4⟩
 · rw[if_pos (by omega)];exact .inr ⟨m,r,rfl,by omega,h1,fun k' r' hk' _=>by omega,h2⟩
theorem uC {P:Nat->Nat->Prop}{ac:Nat->Int}:∀(n k:Nat) (b:Int×Int),oW P k b->(∀j,k<=j->j<=k+n->mW (P j) (ac j))->oW P (k+n+1) (mO ac n k b)
 | 0,k,b,h,ha=>by rw[mO];exact h.next (ha k (Nat.le_refl _) (by omega))
 |n+1,k,b,h,ha=>by
  rw[mO];have:=uC n (k+1) _ (h.next (ha k (Nat.le_refl _) (by omega))) (fun j h1 h2=>ha j (by omega) (by omega))
  rwa [show k+(n+1)+1=k+1+n+1 by omega]
theorem oW.match {P:Nat->Nat->Prop}{o:Int×Int}(h:oW P (n+1) o):IsMatch P n o:=by
 rcases h with ⟨rfl,h1⟩|⟨k,r,rfl,hk,hp,h1,h2⟩
 · exact .inl ⟨rfl,fun k r hk=>h1 k r (by omega)⟩
 · exact .inr ⟨k,r,rfl,by omega,hp,fun k' r' hk'=>h1 k' r' (by omega),h2⟩
theorem CT (ss:List bR) (c:UInt8):cS ss c []=[]:=by simp[cS,stepG,closed]
theorem qV (ss:List bR) (st:Nat) (a b:By):jJ ss st (a++b)=b.foldl (fun T c=>cS ss c T) (jJ ss st a):=by simp[jJ,List.foldl_append]
theorem B7 (ss:List bR):∀w:By,w.foldl (fun T c=>cS ss c T) ([]:List Nat)=[]
 | []=>rfl
 |c::w=>by rw[List.foldl_cons,CT,B7 ss w]
theorem uB {ac:Nat->Int}:∀(n k:Nat) (b:Int×Int),(∀j,k<=j->j<=k+n->ac j<0)->mO ac n k b=b
 | 0,k,b,h=>by rw[mO,if_neg (by have:=h k (Nat.le_refl _) (by omega);omega)]
 |n+1,k,b,h=>by
  rw[mO,if_neg (by have:=h k (Nat.le_refl _) (by omega);omega)];exact uB n (k+1) b (fun j h1 h2=>h j (by omega) (by omega))
theorem zv {ss:List bR}:∀(l a:By) (b:Int×Int),jh ss l (jJ ss st a) a.length b=mO (fun k=>bJ ss (jJ ss st ((a++l).take k))) l.length a.length b:=by
 have none_:∀(l a:By) (b:Int×Int),jJ ss st a=[]->jh ss l (jJ ss st a) a.length b=mO (fun k=>bJ ss (jJ ss st ((a++l).take k))) l.length a.length b:=by
  intro l a b h;rw[tj (by rw[h];rfl),uB];intro j h1 h2;have:(a++l).take j=a++l.take (j-a.length):=by rw[List.take_append,List.take_of_length_le h1]
  rw[this,qV,h,B7];unfold bJ;split
  · decide
  · simp[qk]
 intro l
 induction l with
 |nil =>
  intro a b
  by_cases h:jJ ss st a=[]
  · exact none_ [] a b h
  · rw[jh,if_neg (by simpa using h),List.length_nil,mO];simp
 |cons c r ih =>
  intro a b
  by_cases h:jJ ss st a=[]
  · exact none_ (c::r) a b h
  · rw[jh,if_neg (by simpa using h)];simp only[List.length_cons,mO];have h1:=ih (a++[c]) (if 0<=bJ ss (jJ ss st a) then ((a.length:Int),bJ ss (jJ ss st a)) else b);rw[qV] at h1;simp only[List.foldl_cons,List.foldl_nil,List.length_append,List.length_singleton,List.append_assoc,List.singleton_append] at h1;rw[h1];have e:(a++c::r).take a.length=a:=by simp
    rw[e]
theorem zu {rules:List By}{ss:List bR}(k:Made rules ss st) (l:By):IsMatch (fun n r=>∃s,rules[r]? =some s/\F4 (bY s).1 (l.take n)) l.length (dM ss st l):=by
 have hst:=k.stl;unfold dM;rw[if_neg (by omega)];have h:=zv (ss:=ss) (st:=st) l [] (0,-1);have e:jJ ss st []=cG ss st:=rfl;rw[e] at h;simp only[List.length_nil,List.nil_append] at h;rw[h]
 have:=uC (P:=fun n r=>∃s,rules[r]? =some s/\F4 (bY s).1 (l.take n)) (ac:=fun k=>bJ ss (jJ ss st (l.take k))) l.length 0 (0,-1) (.inl ⟨rfl,fun k r hk=>by omega⟩) (fun j _ _=>by
  have h1:=vu k.good k.stl (l.take j)
  have e:(fun r=>∃n,Acc ss (lT ss r) n st (l.take j))=(fun r=>∃s,rules[r]? =some s/\F4 (bY s).1 (l.take j)):=by
   funext r;exact propext (k.lng r _)
  rw[e] at h1;exact h1)
 rw[Nat.zero_add] at this;exact this.match
end
end Go.Proofs.YtiigijehmmcfgaaGreatDoor
