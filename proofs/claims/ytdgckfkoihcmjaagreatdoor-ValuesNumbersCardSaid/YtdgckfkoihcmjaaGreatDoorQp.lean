/- What the proof of the statement leans on (part 16). -/
import Derived.Deep.Fields
import Derived.OpenShut
import Derived.Test.YtdgckfkoihcmjaaGreatDoorQo

namespace Go.Lw
open Go.ChangeShapes Go.WideShapes Go.ChangeAt Go.RowKit
section
variable {W:World}{fuel:Nat}{sp:Nat->Bool}{held:Bool}{t:TypeId}{cs:List Value}{pl:List MemPlace}
variable {H:Type}{enc:TypeId×Value->H}{P:Program}
theorem pq {base:Nat}{l:List UInt8}(ht:P.underlying t=some .string)
 (h:DataW.trod enc P W base sp held fuel t cs=some (.lit (.string l),pl)):cs=[.string ⟨l.toArray⟩]:=by
 cases fuel with
 |zero=>simp[DataW.trod] at h
 |succ n =>
  rw[DataW.trod_step] at h;unfold DataW.trodStep at h;rw[ht] at h;split at h<;>try (first|cases h|(simp at *;done))
  rename_i s _ _;split at h
  · simp only[Option.some.injEq,Prod.mk.injEq,DataW.lit.injEq,Lit.string.injEq] at h;rw[<-h.1]
  · cases h
theorem iO {base:Nat}{k k':IntKind}{i:Int}(ht:P.underlying t=some (.int k))
 (h:DataW.trod enc P W base sp held fuel t cs=some (.lit (.int k' i),pl)):cs=[.int k i]:=by
 cases fuel with
 |zero=>simp[DataW.trod] at h
 |succ n =>
  rw[DataW.trod_step] at h;unfold DataW.trodStep at h;rw[ht] at h;split at h<;>simp_all
def eE (r:List UInt8×Int×Int):List Value:=[.string ⟨r.1.toArray⟩,.int .i64 r.2.1,.int .i64 r.2.2]
def K1:gD (List UInt8×Int×Int):=.record 3 (by decide) eE (fun _=>rfl) (fun x v hv=>by simp[eE] at hv;rcases hv with rfl|rfl|rfl<;>rfl)
def gZ (r:List UInt8×Int×Int):DataW H:=.agg [.lit (.string r.1),.lit (.int .i64 r.2.1),.lit (.int .i64 r.2.2)]
theorem ER {e:TypeId}{f0 f1 f2:Field}{L:List (List UInt8×Int×Int)}{rest:List (DataW H)}
 (ht:P.underlying t=some (.slice e)) (he:P.underlying e=some (.struct #[f0,f1,f2])) (hC:P.cellsOf e=3)
 (o0:f0.offset=0) (o1:f1.offset=1) (o2:f2.offset=2) (t0:P.underlying f0.type=some .string) (t1:P.underlying f1.type=some (.int .i64)) (t2:P.underlying f2.type=some (.int .i64)) (c0:P.cellsOf f0.type=1) (c1:P.cellsOf f1.type=1) (c2:P.cellsOf f2.type=1)
 (h:DataW.trod enc P W 0 sp held fuel t cs=some (.slice (L.map gZ) rest,pl)):∃v,cs=[v]/\aY K1 W.heap (fun _=>False) v L:=by
 rcases Deep.open_slice ht h with ⟨_,hx⟩|⟨a,len,cap,m,n,D,Pl,rfl,_,hle,hm,hmm,hx,hel⟩
 · simp at hx
 · simp only[Prod.mk.injEq,DataW.slice.injEq] at hx;have hlen:L.length=len:=by have:=congrArg List.length hx.1.1;simpa using this
   have hlm:len<=m:=by rw[hmm];split<;>omega
   have hD:∀(i:Nat) (r:List UInt8×Int×Int),L[i]? =some r->D i=gZ r:=fun i r hr=>by
    have hil:i<len:=by rw[<-hlen];exact(List.getElem?_eq_some_iff.1 hr).1
    have:=congrArg (fun z=>z[i]?) hx.1.1;simp only[List.getElem?_map,hr,Option.map_some,List.getElem?_range hil,Option.some.injEq] at this;exact this.symm
   refine⟨_,rfl,some a,len,cap,rfl,hlen,hle,hm,fun i r hr=>?_⟩;have hil:i<len:=by rw[<-hlen];exact(List.getElem?_eq_some_iff.1 hr).1
   obtain⟨cs',hc1,hc2⟩:=hel i (by omega);rw[hC] at hc1;rw[hD i r hr] at hc2;obtain⟨_,hcl,hcell⟩:=World.cells?_some hc1;obtain⟨xs,k,_,hxe,_,hxl,hfl⟩:=DataW.trod_struct he hc2;simp only[Prod.mk.injEq,gZ,DataW.agg.injEq] at hxe;have hx3:xs.length=3:=hxl
   match cs',hcl,xs,hx3 with
   | [u0,u1,u2],_,[x0,x1,x2],_ =>
    have g0:=hfl 0 f0 rfl;have g1:=hfl 1 f1 rfl;have g2:=hfl 2 f2 rfl;rw[o0,c0] at g0;rw[o1,c1] at g1;rw[o2,c2] at g2;simp only[List.map_cons,List.map_nil,List.cons.injEq,and_true] at hxe;obtain⟨⟨e0,e1,e2⟩,_⟩:=hxe;have q0:[u0]=[.string ⟨r.1.toArray⟩]:=pq t0 (pl:=x0.2) (by rw[e0];exact g0);have q1:[u1]=[.int .i64 r.2.1]:=iO t1 (pl:=x1.2) (k':=.i64) (by rw[e1];exact g1);have q2:[u2]=[.int .i64 r.2.2]:=iO t2 (pl:=x2.2) (k':=.i64) (by rw[e2];exact g2);simp only[List.cons.injEq,and_true] at q0 q1 q2;subst q0;subst q1;subst q2;obtain⟨cs0,hc0,_⟩:=hel 0 (by omega);rw[hC] at hc0;obtain⟨_,hcl0,hcell0⟩:=World.cells?_some hc0;have hs0:=hcell0 0 (by omega);rw[List.getElem?_eq_getElem (by omega)] at hs0;have hspot:a.spot=none:=by simpa [Addr.add] using World.cell?_spot hs0
    obtain⟨b,o,spot⟩:=a;have hspot:spot=none:=hspot;subst hspot;refine⟨b,o,eE r,rfl,fun k=>k,fun j u hj=>?_,rfl⟩
    have hjl:j<3:=by
     rcases Nat.lt_or_ge j 3 with h2|h2
     · exact h2
     · rw[List.getElem?_eq_none (by simpa [eE] using h2)] at hj;cases hj
    have:=hcell j hjl;rw[Deep.add_add,Addr.add_mid,dw] at this
    show cellAt W.heap ⟨b,o+i*3+j,none⟩=some u
    rw[Nat.add_assoc,this];exact hj
end
end Go.Lw
namespace Go.Lw
section
variable {α:Type}{h:aj}
theorem lf.put {sz:Nat}{enc:α->List Value}(hl:∀x,(enc x).length=sz){base:Nat}{t:TypeId}{v:Value}{xs:List α}(k:lf sz enc h base t v xs){i:Nat}{x:α}(hx:xs[i]? =some x) :
 ∃g c,v= .slice (some ⟨g,0,none⟩) xs.length c/\base<=g/\g<h.size/\rowAt h g (0+i*sz) (enc x)/\(∀o,frozenAt h ⟨g,o,none⟩=false) /\
  ∀(o:Nat) (u:Value) (y:α),o<sz->(enc x).set o u=enc y->lf sz enc (dK h ⟨g,0+i*sz+o,none⟩ u) base t v (xs.set i y):=by
 have hi:i<xs.length:=(List.getElem?_eq_some_iff.1 hx).1;have k:aB h base t sz v xs.length (xs.flatMap enc):=k
 rcases k.2 with ⟨_,hn0⟩|⟨g,cap,cur,rfl,hb,hg,hnc,hc,hs,ht⟩
 · omega
 have hlen:∀c∈xs.map enc,c.length=sz:=fun c hc=>by
  obtain⟨a,_,rfl⟩:=List.mem_map.1 hc;exact hl a
 refine⟨g,cap,rfl,hb,(Array.getElem?_eq_some_iff.1 hg).1,?_,fun o=>by simp[frozenAt,hg],fun o u y ho hy=>?_⟩
 · intro j w hj;have h4:=lI hl xs i x j w hx hj;rw[<-ht,List.getElem?_take] at h4;split at h4
   · have h5:cur[i*sz+j]? =some w:=by simpa using h4
     simpa [cellAt,hg] using h5
   · cases h4
 · have hmx:(xs.map enc)[i]? =some (enc x):=by rw[List.getElem?_map,hx];rfl
   have hf:=jS (xs.map enc) i (enc x) o u hlen hmx ho
   have hset:(xs.set i y).flatMap enc=(xs.flatMap enc).set (i*sz+o) u:=by
    rw[List.flatMap_def,List.flatMap_def,<-hf,hy,List.map_set]
   refine⟨?_,.inr ⟨g,cap,cur.setIfInBounds (0+i*sz+o) u,by simp,hb,pH hg u,by simpa using hnc,hc,by simpa using hs,?_⟩⟩
   · rw[mQ hl]
   · rw[hset,Array.toList_setIfInBounds,List.take_set,List.length_set,ht,Nat.zero_add]
theorem Sl.N5 {e:gD α}{O:Nat->Prop}{oa:Option Addr}{n c:Nat}{xs:List α}(k:Sl e h O oa n c xs) :
 ∃css:List (List Value),css.length=xs.length/\(∀(i:Nat) (cs:List Value) (x:α),css[i]? =some cs->xs[i]? =some x->e.R h O cs x)/\css.flatten.length=n*e.sz/\(∀u∈css.flatten,u.oneCell'=true)/\(n=0\/∃b o,oa=some ⟨b,o,none⟩/\rowAt h b o css.flatten):=by
 have key:∀m,m<=xs.length->∃css:List (List Value),css.length=m/\∀(i:Nat) (cs:List Value),css[i]? =some cs->∃x b o,xs[i]? =some x/\oa=some ⟨b,o,none⟩/\rowAt h b (o+i*e.sz) cs/\e.R h O cs x:=by
  intro m
  induction m with
  |zero=>exact fun _=>⟨[],rfl,fun i cs q=>by simp at q⟩
  |succ m ih =>
   intro hm;obtain⟨css,h1,h2⟩:=ih (by omega);obtain⟨b,o,cs,ha,_,hr,hR⟩:=k.get m xs[m] (List.getElem?_eq_getElem (by omega));refine⟨css++[cs],by simp[h1],fun i cs' q=>?_⟩
   rcases Nat.lt_trichotomy i m with hi|hi|hi
   · rw[List.getElem?_append_left (by omega)] at q;exact h2 i cs' q
   · subst hi;rw[List.getElem?_append_right (by omega),h1,Nat.sub_self] at q;simp at q;subst q;exact⟨_,b,o,List.getElem?_eq_getElem (by omega),ha,hr,hR⟩
   · rw[List.getElem?_eq_none (by rw[List.length_append,List.length_singleton];omega)] at q;cases q
 obtain⟨css,h1,h2⟩:=key xs.length (Nat.le_refl _)
 have hlen:∀cs∈css,cs.length=e.sz:=fun cs hc=>by
  obtain⟨i,hi⟩:=List.getElem?_of_mem hc;obtain⟨x,b,o,_,_,_,hR⟩:=h2 i cs hi;exact e.len hR
 have hfl:css.flatten.length=n*e.sz:=by
  rw[<-k.len,<-h1];clear h1 h2
  induction css with
  |nil=>simp
  |cons a l ih=>rw[List.flatten_cons,List.length_append,hlen a (by simp),ih (fun c hc=>hlen c (by simp[hc])),List.length_cons,Nat.succ_mul];omega
 refine⟨css,h1,fun i cs x q1 q2=>?_,hfl,fun u hu=>?_,?_⟩
 · obtain⟨x',_,_,hx,_,_,hR⟩:=h2 i cs q1;rw[q2] at hx;cases hx;exact hR
 · obtain⟨cs,hc,hu⟩:=List.mem_flatten.1 hu;obtain⟨i,hi⟩:=List.getElem?_of_mem hc;obtain⟨_,_,_,_,_,_,hR⟩:=h2 i cs hi;exact e.one hR u hu
 · rcases Nat.eq_zero_or_pos n with h0|h0
   · exact .inl h0
   · have hxl:xs.length=n:=k.len;have hx0:0<xs.length:=by omega
     obtain⟨b,o,cs,ha,_,_,_⟩:=k.get 0 xs[0] (List.getElem?_eq_getElem hx0);refine .inr ⟨b,o,ha,fun j v hv=>?_⟩;have hj:j<n*e.sz:=by rw[<-hfl];exact(List.getElem?_eq_some_iff.1 hv).1
     have hjn:j / e.sz<n:=Nat.div_lt_of_lt_mul (by rw[Nat.mul_comm];exact hj);have hjl:j / e.sz<css.length:=by rw[h1,hxl];exact hjn
     have hjc:css[j / e.sz]? =some css[j / e.sz]:=List.getElem?_eq_getElem hjl;obtain⟨x,b',o',_,ha',hr,hR⟩:=h2 _ _ hjc;rw[ha] at ha';cases ha';have hm:j%e.sz<(css[j / e.sz]).length:=by rw[e.len hR];exact Nat.mod_lt _ e.pos
     have h3:=jv css (j / e.sz) _ (j%e.sz) _ hlen hjc (List.getElem?_eq_getElem hm);rw[Nat.div_add_mod' j e.sz,hv] at h3;obtain rfl:=Option.some.inj h3;have h4:=hr (j%e.sz) _ (List.getElem?_eq_getElem hm);rw[Nat.add_assoc,Nat.div_add_mod' j e.sz] at h4;exact h4
theorem Db {e:gD α}{O:Nat->Prop}{h':aj}{base:Nat}{t:TypeId}{v:Value}{xs:List α}{css:List (List Value)}(h1:css.length=xs.length) (h2:∀(i:Nat) (cs:List Value) (x:α),css[i]? =some cs->xs[i]? =some x->e.R h O cs x)
 {n:Nat}(hn:xs.length=n) (ho:aB h' base t e.sz v n css.flatten) (hx:aq h h') (hv:∀b,v.ownBlock=some b->h.size<=b):cy e O h' base t v xs:=by
 subst hn
 exact⟨css,h1,ho,fun i cs x q1 q2=>e.mv (h2 i cs x q1 q2) ⟨hx.size,fun b hb hn=>⟨hx.block b hb (fun k=>k),fun k=>by
  rcases k with k|k
  · have:=hv b k.symm;omega
  · exact hn k⟩⟩⟩
end
end Go.Lw
namespace Go.Lw
open Go.RowKit
theorem gz.Mi {P:Program}{l n:Nat}{r:Loop}{args:Array Value}{h:aj}{ρ:Env}{id1 id2 id3 idb:Nat}{ops1 ops2 ops3:Array Oper}{c:Operand}{Φ:Value->aj->Prop}(hl:b7 h l r) (hst:r.state= .ready) (hsz:args.size=r.params.size)
 (ht:Fits n ρ { tmps:=(r.params.zip args).foldl (fun tmps (t,a)=>tmps.setIfInBounds t a) r.tmps,defers:=[] }) (ha1:r.assign= .region id1 ops1 false)
 (hb1:r.body= .block idb (.seq (.region id2 ops2 false) (.cond c (.seq (.region id3 ops3 false) .ret) .skip)))
 (walk:dQ P (some l) n ops1 0 ρ h (fun ρ1 h1=>b7 h1 l r/\dQ P (some l) n ops2 0 ρ1 (bL h1 l (.loop { r with state:=.busy })) (fun ρ2 h2=>∃t,aQ ρ2 c=some (.bool t) /\
  (t=true->dQ P (some l) n ops3 0 ρ2 h2 (fun _ h3=>∃r2,b7 h3 l r2/\Φ (.bool false) (bL h3 l (.loop { r2 with state:=.done,pending:=some .ret }))) (fun _ _=>False)) /\
  (t=false->∃r2,b7 h2 l r2/\Φ (.bool true) (bL h2 l (.loop { r2 with state:=.ready,pending:=none })))) (fun _ _=>False)) (fun _ _=>False)) :
 gz P l args h (bq Φ):=by
 intro m B w ha;have hlw:w.heap[l]? =some (.loop r):=by rw[ha.heap];exact hl
 refine⟨_,_,_,_,run_yield hlw hsz,roundIn_of_wpIn trivial ?_⟩;rw[ha1,hb1];refine wpIn_region ?_;refine walk m B _ w ht ha _ ?_ (fun _ _ _ _ _ _ k=>k.elim);rintro ρ1 h1 a1 w1 hf1 hw1 ⟨hl1,walk2⟩;have hlw1:w1.heap[l]? =some (.loop r):=by rw[hw1.heap];exact hl1
 refine⟨_,run_beginRound hlw1 hst,?_⟩;refine wpIn_block (wpIn_seq (wpIn_region ?_));refine walk2 m B a1 _ hf1 (hw1.bL l _) _ ?_ (fun _ _ _ _ _ _ k=>k.elim);rintro ρ2 h2 a2 w2 hf2 hw2 ⟨t,ht,k1,k2⟩;refine wpIn_cond_split (hf2.eval ht) (fun q=>?_) (fun q=>?_)
 · refine wpIn_seq (wpIn_region ?_);refine k1 q m B a2 w2 hf2 hw2 _ ?_ (fun _ _ _ _ _ _ k=>k.elim);rintro ρ3 h3 a3 w3 hf3 hw3 ⟨r2,hl2,hΦ⟩;have hlw2:w3.heap[l]? =some (.loop r2):=by rw[hw3.heap];exact hl2
   refine wpIn_ret ?_;exact⟨_,_,run_endRound (some .ret) hlw2,_,hw3.bL l _,_,rfl,hΦ⟩
 · obtain⟨r2,hl2,hΦ⟩:=k2 q;have hlw2:w2.heap[l]? =some (.loop r2):=by rw[hw2.heap];exact hl2
   refine wpIn_skip ?_;exact⟨_,_,run_endRound none hlw2,_,hw2.bL l _,_,rfl,hΦ⟩
section
variable {P:Program}{f:FuncId}{fn:Func}{k:List It}{ρ:Env}{h:aj}{R:Ending->aj->Prop}{p:List Nat}
theorem G.Es {g:Operand}{ps:Array Tmp}{assign body:Code}{f':FuncId}{fn':Func}{caps:Array Value}(hfn:P.funcs[f]? =some fn) (hk:Lw.sub (ax fn) p= .rangeFunc g ps assign body) (hg:aQ ρ g=some (.func (.func f') #[] caps))
 (hfn':P.funcs[f']? =some fn') (hb':fn'.body.isSome=true) (hnm':(fn'.name == "runtime.NumGoroutine")=false)
 (hcall:∀fid tmps,Fits fn.ntmps ρ { tmps:=tmps,defers:=[] }->av P f' (#[.func (.yield (h.size+1)) #[] #[]]++caps) ((h.push (.deferred (some []))).push (.loop (fh fid tmps ps assign body h.size)))
  (bq fun _ h'=>∃r,b7 h' (h.size+1) r/\r.state≠ .busy/\(r.pending=none/\GD P (eT h.size) f fn k ρ (bL h' (h.size+1) (.loop { r with state:=.exhausted })) R \/
   r.pending=some .ret/\h'[h.size]? =some (.deferred (some []))/\∃vs,fe P ρ (bL (bL h' (h.size+1) (.loop { r with state:=.exhausted })) h.size (.deferred none)) fn.results.toList vs /\
    R (.returned (packed vs)) (bL (bL h' (h.size+1) (.loop { r with state:=.exhausted })) h.size (.deferred none))))):G P f fn (.code p::k) ρ h R:=by
 intro B a w hf ha b hb hkk cs
 let Q:Exit->Act->World->Prop:=fun e a' w'=>match e with
  |.normal=>∃h',jJ (eT h.size) fn.ntmps ρ a'/\At B h' w'/\GD P (eT h.size) f fn k ρ h' R
  |.ret=>∃h',jJ (eT h.size) fn.ntmps ρ a'/\At B h' w'/\h'[h.size]? =some (.deferred (some []))/\∃vs,fe P ρ (bL h' h.size (.deferred none)) fn.results.toList vs/\R (.returned (packed vs)) (bL h' h.size (.deferred none))
  |_=>False
 have hw:(Code.rangeFunc g ps assign body).wp P Q a w:=by
  refine(wpIn_wide (n:=0)).1 (wpIn_rangeFunc fun fid _=>?_);have hb2:fn'.body≠none:=by intro hbb;simp[hbb] at hb'
  have hnm2:¬fn'.name= "runtime.NumGoroutine" :=by simpa using hnm'
  have hf0:Fits fn.ntmps ρ { tmps:=a.tmps,defers:=[] }:=⟨hf.size,hf.ok,rfl⟩
  have ha2:At B ((h.push (.deferred (some []))).push (.loop (fh fid a.tmps ps assign body h.size))) ((w.alloc (.deferred (some []))).alloc (.loop (fh fid a.tmps ps assign body w.heap.size))):=by
   refine⟨?_,ha.os,ha.tape,ha.output⟩
   show ((w.heap.push _).push _)=_
   rw[ha.heap]
  let W1:World:=(w.alloc (.deferred (some []))).alloc (.loop (fh fid a.tmps ps assign body w.heap.size))
  refine⟨w.heap.size+1,eT w.heap.size,W1,{ target:=.fn (.func f') caps,args:= #[.func (.yield (w.heap.size+1)) #[] #[]] },W1,f',#[.func (.yield (w.heap.size+1)) #[] #[]]++caps,W1,run_enterLoop_outer fid a.tmps ps assign body,?_,fun _ _=>trivial,?_,fun h=>by simp[Fence.wide] at h,?_⟩
  · have hge:a.eval g= .func (.func f') #[] caps:=hf.eval hg;have hec:∀v,a.eval (.const v)=v:=fun _=>rfl
    simp[resolve,hge,Deferred.ofValue,hec]
  · simp[invoke,callFunc,hfn',hnm2,hb2]
  · refine uE (ro:=none) ((?_:Calls P f' (#[.func (.yield (w.heap.size+1)) #[] #[]]++caps) ((w.alloc (.deferred (some []))).alloc (.loop (fh fid a.tmps ps assign body w.heap.size))) _));have hc:=hcall fid a.tmps hf0 B _ ha2;rw[<-ha.heap] at hc;refine hc.mono fun e w3 he=>?_
    obtain⟨h3,ha3,v,rfl,r,hl,hnb,hcs⟩:=he;have hl3:w3.heap[w.heap.size+1]? =some (.loop r):=by rw[ha3.heap];exact hl
    have hfd:jJ (eT h.size) fn.ntmps ρ { a with defers:=eT w.heap.size++a.defers }:=⟨hf.size,hf.ok,by
     show eT w.heap.size++a.defers=eT h.size
     rw[hf.nd,ha.heap];rfl⟩
    refine⟨r.pending,_,run_endLoop hl3 hnb,?_⟩;split
    · rename_i hc
      rcases hcs with ⟨hpd,hgd⟩|⟨hpd,_⟩
      · exact⟨_,hfd,ha3.bL _ _,by rw[<-ha.heap];exact hgd⟩
      · rw[hpd] at hc;cases hc
    · rename_i c hc
      rcases hcs with ⟨hpd,_⟩|⟨hpd,hmk,vs,hra,hR⟩
      · rw[hpd] at hc;cases hc
      · obtain rfl:Code.ret=c:=Option.some.inj (hpd.symm.trans hc);refine wpIn_ret ?_;refine⟨_,hfd,ha3.bL _ _,?_,vs,by rw[<-ha.heap];exact hra,by rw[<-ha.heap];exact hR⟩;have hne:¬(w.heap.size+1=h.size):=by rw[ha.heap];omega
        rw[bL,Array.getElem?_setIfInBounds_ne hne,<-ha.heap];exact hmk
 obtain⟨e,a',w',hq,harr⟩:=hw b (k.map (aE (ax fn))) cs;have hit:(It.code p::k).map (aE (ax fn))=Item.code (Code.rangeFunc g ps assign body)::k.map (aE (ax fn)):=by simp[aE,hk]
 rw[hit];cases e with
 |normal =>
  obtain⟨h',f'',a'',hgd⟩:=hq;obtain⟨e,w'',fr,h'',h1,h2,h3,h4,h5⟩:=hgd B a' w' f'' a'' b hb hkk cs;exact⟨e,w'',fr,h'',h1,h2,.of_steps harr h3,h4,h5⟩
 |ret =>
  obtain⟨h',f'',a'',hm,vs,hr,hR⟩:=hq;obtain⟨todo,hs⟩:=harr;have htake:(Instr.takeDeferred h.size).run P w'= .ok [] (w'.putObj h.size (.deferred none)):=run_takeDeferred (by rw[a''.heap];exact hm);have h2:=step_collected (P:=P) (fr:= { b.at a' todo with mode:=.returning }) (cs:=cs) (by simp) (f''.nd:_=_) rfl htake;have hz:=f''.zero;exact⟨.returned (packed vs),_,_,_,a''.bL h.size _,hR,hs.trans (.one h2),hb,rfl,rfl,hkk,fn,(show P.funcs[b.fn]? =some fn by rw[hb];exact hfn),eS hz (a''.bL h.size _) hr⟩
 |panic ch=>exact hq.elim
 |exit id=>exact hq.elim
 |goto l=>exact hq.elim
 |outgrown=>exact hq.elim
theorem GD.Gp {b0:Nat}{vs:List Value}(hfn:P.funcs[f]? =some fn) (hk:kind (Lw.sub (ax fn) p)=4) (hm:h[b0]? =some (.deferred (some []))) (hr:fe P ρ (bL h b0 (.deferred none)) fn.results.toList vs) (hR:R (.returned (packed vs)) (bL h b0 (.deferred none))):GD P (eT b0) f fn (.code p::k) ρ h R:=by
 intro B a w hf ha b hb hkk cs
 have hstep:Go.step P (lone (b.at a ((It.code p::k).map (aE (ax fn)))) cs w)= .next (lone { b.at a ((It.code p::k).map (aE (ax fn))) with mode:=.returning } cs w):=by
  simp only[List.map_cons,aE];cases hc:Lw.sub (ax fn) p<;>simp[hc,kind] at hk
  · rename_i d;cases d<;>simp at hk
  · exact step_ret
 have htake:(Instr.takeDeferred b0).run P w= .ok [] (w.putObj b0 (.deferred none)):=run_takeDeferred (by rw[ha.heap];exact hm);have h2:=step_collected (P:=P) (fr:= { b.at a ((It.code p::k).map (aE (ax fn))) with mode:=.returning }) (cs:=cs) (by simp) (hf.nd:_=_) rfl htake;have hz:=hf.zero;exact⟨.returned (packed vs),_,_,_,ha.bL b0 _,hR,.head hstep (.one h2),hb,rfl,rfl,hkk,fn,(show P.funcs[b.fn]? =some fn by rw[hb];exact hfn),eS hz (ha.bL b0 _) hr⟩
end
end Go.Lw
namespace Go.Lw
open Go.ChangeShapes Go.WideShapes Go.ChangeAt Go.RowKit
section
variable {P:Program}{H:Type}{enc:TypeId×Value->H}
theorem EP {W:World}{fuel:Nat}{sp:Nat->Bool}{held:Bool}{t e:TypeId}{cs:List Value}{L:List (List UInt8)}{rest:List (DataW H)}{pl:List MemPlace}
 (ht:P.underlying t=some (.slice e)) (he:P.underlying e=some .string) (hC:P.cellsOf e=1)
 (h:DataW.trod enc P W 0 sp held fuel t cs=some (.slice (L.map fun s=>.lit (.string s)) rest,pl)):∃v,cs=[v]/\aY (.flat (fun s=>Value.string ⟨s.toArray⟩) fun _=>rfl) W.heap (fun _=>False) v L:=by
 rcases Deep.open_slice ht h with ⟨_,hx⟩|⟨a,len,cap,m,n,D,Pl,rfl,_,hle,hm,hmm,hx,hel⟩
 · simp at hx
 · simp only[Prod.mk.injEq,DataW.slice.injEq] at hx;have hlen:L.length=len:=by have:=congrArg List.length hx.1.1;simpa using this
   have hlm:len<=m:=by rw[hmm];split<;>omega
   have hD:∀(i:Nat) (r:List UInt8),L[i]? =some r->D i= .lit (.string r):=fun i r hr=>by
    have hil:i<len:=by rw[<-hlen];exact(List.getElem?_eq_some_iff.1 hr).1
    have:=congrArg (fun z=>z[i]?) hx.1.1;simp only[List.getElem?_map,hr,Option.map_some,List.getElem?_range hil,Option.some.injEq] at this;exact this.symm
   refine⟨_,rfl,some a,len,cap,rfl,hlen,hle,hm,fun i r hr=>?_⟩;have hil:i<len:=by rw[<-hlen];exact(List.getElem?_eq_some_iff.1 hr).1
   obtain⟨cs',hc1,hc2⟩:=hel i (by omega);rw[hC] at hc1;rw[hD i r hr] at hc2;obtain⟨_,hcl,hcell⟩:=World.cells?_some hc1;obtain rfl:=pq he hc2;obtain⟨cs0,hc0,_⟩:=hel 0 (by omega);rw[hC] at hc0;obtain⟨_,hcl0,hcell0⟩:=World.cells?_some hc0;have hs0:=hcell0 0 (by omega);rw[List.getElem?_eq_getElem (by omega)] at hs0;have hspot:a.spot=none:=by simpa [Addr.add] using World.cell?_spot hs0
   obtain⟨b,o,spot⟩:=a;have hspot:spot=none:=hspot;subst hspot;refine⟨b,o,[.string ⟨r.toArray⟩],rfl,fun k=>k,fun j u hj=>?_,rfl⟩;have hj0:j=0:=by cases j with|zero=>rfl|succ j=>simp at hj
   subst hj0;have:=hcell 0 (by omega);rw[Deep.add_add,Addr.add_mid,dw] at this
   show cellAt W.heap ⟨b,o+i*1+0,none⟩=some u
   rw[Nat.add_assoc,this];exact hj
end
end Go.Lw
