/- What the proof of the statement leans on (part 17). -/
import Derived.Deep.Fields
import Derived.OpenShut
import Derived.Test.YtoickfdopobmgaaGreatDoorQp

namespace Go.Lw
open Go.ChangeShapes Go.WideShapes Go.ChangeAt Go.RowKit
variable {H:Type}{enc:TypeId×Value->H}{P:Program}
theorem C6 {α:Type}{n:Nat}{p:Nat->α->Prop}(h:∀i,i<n->∃x,p i x):∃l:List α,l.length=n/\∀i x,l[i]? =some x->p i x:=by
 induction n with
 |zero=>exact⟨[],rfl,fun i x hx=>by simp at hx⟩
 |succ n ih =>
  obtain⟨l,hl,hp⟩:=ih (fun i hi=>h i (by omega));obtain⟨x,hx⟩:=h n (by omega);refine⟨l++[x],by simp[hl],fun i y hy=>?_⟩
  rcases Nat.lt_or_ge i n with hi|hi
  · rw[List.getElem?_append_left (by omega)] at hy;exact hp i y hy
  · rw[List.getElem?_append_right (by omega),hl] at hy
    have:i=n:=by
     rcases Nat.lt_or_ge (i-n) 1 with h1|h1
     · omega
     · rw[List.getElem?_eq_none (by simpa using h1)] at hy;cases hy
    subst this;simp at hy;subst hy;exact hx
theorem Gx {α:Type}{sz:Nat}{pos:0<sz}{en:α->List Value} {hl:∀x,(en x).length=sz} {h1:∀x,∀v∈en x,v.oneCell'=true}{Q:α->Prop}
 {W:World}{base:Nat}{t e:TypeId}{fs:Array Field}{v:Value}{d:DataW H}{p:List MemPlace}(ht:P.underlying t=some (.slice e)) (he:P.underlying e=some (.struct fs))
 (hone:∀(i:Nat) (f:Field),fs[i]? =some f->f.offset=i/\P.cellsOf f.type=1) (hC:P.cellsOf e=sz) (hn:fs.size=sz)
 (rd:∀(cs:List Value) (n:Nat),cs.length=sz->(∀(i:Nat) (f:Field) (u:Value),fs[i]? =some f->cs[i]? =some u->∃y,DataW.trod enc P W 0 (fun _=>true) true n f.type [u]=some y)->∃x:α,cs=en x/\Q x)
 (hv:Value.okWide P W .any base t v) (h:DataW.Trod enc P W 0 (fun _=>true) true t v d p):∃l:List α,aT (.record sz pos en hl h1) W.heap (fun _=>False) v l/\∀x∈l,Q x:=by
 obtain⟨a0,len,cap,rfl⟩:=okWide_slice ht hv;obtain⟨fuel,hf⟩:=h
 rcases Deep.open_slice ht hf with ⟨hcs,hx⟩|⟨a,len',cap',m,n,D,Pl,hcs,_,hle,hm,hmm,hx,hel⟩
 · simp[Value.cells] at hcs;obtain⟨rfl,rfl,rfl⟩:=hcs;exact⟨[],aT.nil _ _ _,by simp⟩
 · simp[Value.cells] at hcs;obtain⟨rfl,rfl,rfl⟩:=hcs;simp only[if_true] at hmm;subst hmm
   have hspot0:0<len->a.spot=none:=fun h0=>by
    obtain⟨cs',hc1,hc2⟩:=hel 0 (by omega);rw[hC] at hc1;obtain⟨_,hlen,hcell⟩:=World.cells?_some hc1;have h0:=hcell 0 (by omega);rw[List.getElem?_eq_getElem (by omega)] at h0;simpa [Addr.add] using World.cell?_spot h0
   obtain⟨l,hll,hlp⟩:=C6 (n:=len) (p:=fun i (x:α)=>(∃b o,a=⟨b,o,none⟩/\rowAt W.heap b (o+i*sz) (en x))/\Q x) (fun i hi=>by
    obtain⟨cs',hc1,hc2⟩:=hel i (by omega);rw[hC] at hc1;obtain⟨_,hlen,hcell⟩:=World.cells?_some hc1;obtain⟨xs,k,_,_,_,hxl,hfl⟩:=DataW.trod_struct he hc2
    obtain⟨x,hxe,hQ⟩:=rd cs' k hlen (fun j f u hj hu=>by
     have g:=hfl j f hj;obtain⟨ho,hc⟩:=hone j f hj;have hjs:j<fs.size:=(Array.getElem?_eq_some_iff.1 hj).1
     have hd:(cs'.drop f.offset).take (P.cellsOf f.type)=[u]:=by
      rw[ho,hc,List.drop_eq_getElem_cons (by omega)];have:cs'[j]=u:=by rw[List.getElem?_eq_getElem (by omega)] at hu;exact Option.some.inj hu
      simp[this]
     rw[hd,List.getElem?_eq_getElem (by omega)] at g;exact⟨_,g⟩)
    refine⟨x,?_,hQ⟩;obtain⟨b,o,spot⟩:=a;have hspot:spot=none:=hspot0 (by omega);subst hspot;refine⟨b,o,rfl,fun j u hj=>?_⟩
    have hjl:j<sz:=by
     rcases Nat.lt_or_ge j sz with h2|h2
     · exact h2
     · rw[List.getElem?_eq_none (by rw[hl];exact h2)] at hj;cases hj
    have:=hcell j hjl;rw[Deep.add_add,Addr.add_mid,cU,hxe,hj] at this;rw[Nat.add_assoc];exact this)
   refine⟨l,⟨some a,len,_,rfl,hll,hle,hm,fun i x hx=>?_⟩,fun x hx=>?_⟩
   · obtain⟨⟨b,o,ha,hr⟩,_⟩:=hlp i x hx;exact⟨b,o,en x,by rw[ha],fun k=>k,hr,rfl⟩
   · obtain⟨i,hi⟩:=List.getElem?_of_mem hx;exact(hlp i x hi).2
end Go.Lw
namespace Go.Lw
open Go.ChangeShapes Go.WideShapes Go.ChangeAt Go.RowKit
section
variable {W:World}{fuel:Nat}{sp:Nat->Bool}{held:Bool}{t:TypeId}{cs:List Value}{pl:List MemPlace}
variable {H:Type}{enc:TypeId×Value->H}{P:Program}
theorem qG {base:Nat}{l:List UInt8}(ht:P.underlying t=some .string)
 (h:DataW.trod enc P W base sp held fuel t cs=some (.lit (.string l),pl)):cs=[.string ⟨l.toArray⟩]:=by
 cases fuel with
 |zero=>simp[DataW.trod] at h
 |succ n =>
  rw[DataW.trod_step] at h;unfold DataW.trodStep at h;rw[ht] at h;split at h<;>try (first|cases h|(simp at *;done))
  rename_i s _ _;split at h
  · simp only[Option.some.injEq,Prod.mk.injEq,DataW.lit.injEq,Lit.string.injEq] at h;rw[<-h.1]
  · cases h
theorem jo {base:Nat}{k k':IntKind}{i:Int}(ht:P.underlying t=some (.int k))
 (h:DataW.trod enc P W base sp held fuel t cs=some (.lit (.int k' i),pl)):cs=[.int k i]:=by
 cases fuel with
 |zero=>simp[DataW.trod] at h
 |succ n =>
  rw[DataW.trod_step] at h;unfold DataW.trodStep at h;rw[ht] at h;split at h<;>simp_all
def eT (r:List UInt8×Int×Int):List Value:=[.string ⟨r.1.toArray⟩,.int .i64 r.2.1,.int .i64 r.2.2]
def Nb:fQ (List UInt8×Int×Int):=.record 3 (by decide) eT (fun _=>rfl) (fun x v hv=>by simp[eT] at hv;rcases hv with rfl|rfl|rfl<;>rfl)
def iJ (r:List UInt8×Int×Int):DataW H:=.agg [.lit (.string r.1),.lit (.int .i64 r.2.1),.lit (.int .i64 r.2.2)]
theorem GX {e:TypeId}{f0 f1 f2:Field}{L:List (List UInt8×Int×Int)}{rest:List (DataW H)}
 (ht:P.underlying t=some (.slice e)) (he:P.underlying e=some (.struct #[f0,f1,f2])) (hC:P.cellsOf e=3)
 (o0:f0.offset=0) (o1:f1.offset=1) (o2:f2.offset=2) (t0:P.underlying f0.type=some .string) (t1:P.underlying f1.type=some (.int .i64)) (t2:P.underlying f2.type=some (.int .i64)) (c0:P.cellsOf f0.type=1) (c1:P.cellsOf f1.type=1) (c2:P.cellsOf f2.type=1)
 (h:DataW.trod enc P W 0 sp held fuel t cs=some (.slice (L.map iJ) rest,pl)):∃v,cs=[v]/\aT Nb W.heap (fun _=>False) v L:=by
 rcases Deep.open_slice ht h with ⟨_,hx⟩|⟨a,len,cap,m,n,D,Pl,rfl,_,hle,hm,hmm,hx,hel⟩
 · simp at hx
 · simp only[Prod.mk.injEq,DataW.slice.injEq] at hx;have hlen:L.length=len:=by have:=congrArg List.length hx.1.1;simpa using this
   have hlm:len<=m:=by rw[hmm];split<;>omega
   have hD:∀(i:Nat) (r:List UInt8×Int×Int),L[i]? =some r->D i=iJ r:=fun i r hr=>by
    have hil:i<len:=by rw[<-hlen];exact(List.getElem?_eq_some_iff.1 hr).1
    have:=congrArg (fun z=>z[i]?) hx.1.1;simp only[List.getElem?_map,hr,Option.map_some,List.getElem?_range hil,Option.some.injEq] at this;exact this.symm
   refine⟨_,rfl,some a,len,cap,rfl,hlen,hle,hm,fun i r hr=>?_⟩;have hil:i<len:=by rw[<-hlen];exact(List.getElem?_eq_some_iff.1 hr).1
   obtain⟨cs',hc1,hc2⟩:=hel i (by omega);rw[hC] at hc1;rw[hD i r hr] at hc2;obtain⟨_,hcl,hcell⟩:=World.cells?_some hc1;obtain⟨xs,k,_,hxe,_,hxl,hfl⟩:=DataW.trod_struct he hc2;simp only[Prod.mk.injEq,iJ,DataW.agg.injEq] at hxe;have hx3:xs.length=3:=hxl
   match cs',hcl,xs,hx3 with
   | [u0,u1,u2],_,[x0,x1,x2],_ =>
    have g0:=hfl 0 f0 rfl;have g1:=hfl 1 f1 rfl;have g2:=hfl 2 f2 rfl;rw[o0,c0] at g0;rw[o1,c1] at g1;rw[o2,c2] at g2;simp only[List.map_cons,List.map_nil,List.cons.injEq,and_true] at hxe;obtain⟨⟨e0,e1,e2⟩,_⟩:=hxe;have q0:[u0]=[.string ⟨r.1.toArray⟩]:=qG t0 (pl:=x0.2) (by rw[e0];exact g0);have q1:[u1]=[.int .i64 r.2.1]:=jo t1 (pl:=x1.2) (k':=.i64) (by rw[e1];exact g1);have q2:[u2]=[.int .i64 r.2.2]:=jo t2 (pl:=x2.2) (k':=.i64) (by rw[e2];exact g2);simp only[List.cons.injEq,and_true] at q0 q1 q2;subst q0;subst q1;subst q2;obtain⟨cs0,hc0,_⟩:=hel 0 (by omega);rw[hC] at hc0;obtain⟨_,hcl0,hcell0⟩:=World.cells?_some hc0;have hs0:=hcell0 0 (by omega);rw[List.getElem?_eq_getElem (by omega)] at hs0;have hspot:a.spot=none:=by simpa [Addr.add] using World.cell?_spot hs0
    obtain⟨b,o,spot⟩:=a;have hspot:spot=none:=hspot;subst hspot;refine⟨b,o,eT r,rfl,fun k=>k,fun j u hj=>?_,rfl⟩
    have hjl:j<3:=by
     rcases Nat.lt_or_ge j 3 with h2|h2
     · exact h2
     · rw[List.getElem?_eq_none (by simpa [eT] using h2)] at hj;cases hj
    have:=hcell j hjl;rw[Deep.add_add,Addr.add_mid,cU] at this
    show cellAt W.heap ⟨b,o+i*3+j,none⟩=some u
    rw[Nat.add_assoc,this];exact hj
end
end Go.Lw
namespace Go.Lw
section
variable {α:Type}{h:ai}
theorem mh.put {sz:Nat}{enc:α->List Value}(hl:∀x,(enc x).length=sz){base:Nat}{t:TypeId}{v:Value}{xs:List α}(k:mh sz enc h base t v xs){i:Nat}{x:α}(hx:xs[i]? =some x) :
 ∃g c,v= .slice (some ⟨g,0,none⟩) xs.length c/\base<=g/\g<h.size/\rowAt h g (0+i*sz) (enc x)/\(∀o,frozenAt h ⟨g,o,none⟩=false) /\
  ∀(o:Nat) (u:Value) (y:α),o<sz->(enc x).set o u=enc y->mh sz enc (dV h ⟨g,0+i*sz+o,none⟩ u) base t v (xs.set i y):=by
 have hi:i<xs.length:=(List.getElem?_eq_some_iff.1 hx).1;have k:aB h base t sz v xs.length (xs.flatMap enc):=k
 rcases k.2 with ⟨_,hn0⟩|⟨g,cap,cur,rfl,hb,hg,hnc,hc,hs,ht⟩
 · omega
 have hlen:∀c∈xs.map enc,c.length=sz:=fun c hc=>by
  obtain⟨a,_,rfl⟩:=List.mem_map.1 hc;exact hl a
 refine⟨g,cap,rfl,hb,(Array.getElem?_eq_some_iff.1 hg).1,?_,fun o=>by simp[frozenAt,hg],fun o u y ho hy=>?_⟩
 · intro j w hj;have h4:=iy hl xs i x j w hx hj;rw[<-ht,List.getElem?_take] at h4;split at h4
   · have h5:cur[i*sz+j]? =some w:=by simpa using h4
     simpa [cellAt,hg] using h5
   · cases h4
 · have hmx:(xs.map enc)[i]? =some (enc x):=by rw[List.getElem?_map,hx];rfl
   have hf:=kM (xs.map enc) i (enc x) o u hlen hmx ho
   have hset:(xs.set i y).flatMap enc=(xs.flatMap enc).set (i*sz+o) u:=by
    rw[List.flatMap_def,List.flatMap_def,<-hf,hy,List.map_set]
   refine⟨?_,.inr ⟨g,cap,cur.setIfInBounds (0+i*sz+o) u,by simp,hb,qL hg u,by simpa using hnc,hc,by simpa using hs,?_⟩⟩
   · rw[nX hl]
   · rw[hset,Array.toList_setIfInBounds,List.take_set,List.length_set,ht,Nat.zero_add]
theorem Sl.Qt {e:fQ α}{O:Nat->Prop}{oa:Option Addr}{n c:Nat}{xs:List α}(k:Sl e h O oa n c xs) :
 ∃css:List (List Value),css.length=xs.length/\(∀(i:Nat) (cs:List Value) (x:α),css[i]? =some cs->xs[i]? =some x->e.R h O cs x)/\css.flatten.length=n*e.sz/\(∀u∈css.flatten,u.oneCell'=true)/\(n=0\/∃b o,oa=some ⟨b,o,none⟩/\rowAt h b o css.flatten):=by
 have key:∀m,m<=xs.length->∃css:List (List Value),css.length=m/\∀(i:Nat) (cs:List Value),css[i]? =some cs->∃x b o,xs[i]? =some x/\oa=some ⟨b,o,none⟩/\rowAt h b (o+i*e.sz) cs/\e.R h O cs x:=by
  intro m
  induction m with
  |zero=>exact fun _=>⟨[],rfl,fun i cs q=>by simp at q⟩
  |succ m ih =>
   intro hm;obtain⟨css,h1,h2⟩:=ih (by omega);obtain⟨b,o,cs,ha,_,hr,hR⟩:=k.get m xs[m] (List.getElem?_eq_getElem (by omega));refine⟨css++[cs],by simp[h1],fun i cs' q=>?_⟩
   rcases Nat.lt_trichotomy i m with hi|hi|hi
   · rw[List.getElem?_append_left (by omega)] at q;exact h2 i cs' q
   · subst hi;rw[List.getElem?_append_right (by omega),h1,Nat.sub_self] at q;simp at q;subst q;exact⟨_,b,o,List.getElem?_eq_getElem (by omega),ha,hr,hR⟩
   · rw[List.getElem?_eq_none (by rw[List.length_append,List.length_singleton];omega)] at q;cases q
 obtain⟨css,h1,h2⟩:=key xs.length (Nat.le_refl _)
 have hlen:∀cs∈css,cs.length=e.sz:=fun cs hc=>by
  obtain⟨i,hi⟩:=List.getElem?_of_mem hc;obtain⟨x,b,o,_,_,_,hR⟩:=h2 i cs hi;exact e.len hR
 have hfl:css.flatten.length=n*e.sz:=by
  rw[<-k.len,<-h1];clear h1 h2
  induction css with
  |nil=>simp
  |cons a l ih=>rw[List.flatten_cons,List.length_append,hlen a (by simp),ih (fun c hc=>hlen c (by simp[hc])),List.length_cons,Nat.succ_mul];omega
 refine⟨css,h1,fun i cs x q1 q2=>?_,hfl,fun u hu=>?_,?_⟩
 · obtain⟨x',_,_,hx,_,_,hR⟩:=h2 i cs q1;rw[q2] at hx;cases hx;exact hR
 · obtain⟨cs,hc,hu⟩:=List.mem_flatten.1 hu;obtain⟨i,hi⟩:=List.getElem?_of_mem hc;obtain⟨_,_,_,_,_,_,hR⟩:=h2 i cs hi;exact e.one hR u hu
 · rcases Nat.eq_zero_or_pos n with h0|h0
   · exact .inl h0
   · have hxl:xs.length=n:=k.len;have hx0:0<xs.length:=by omega
     obtain⟨b,o,cs,ha,_,_,_⟩:=k.get 0 xs[0] (List.getElem?_eq_getElem hx0);refine .inr ⟨b,o,ha,fun j v hv=>?_⟩;have hj:j<n*e.sz:=by rw[<-hfl];exact(List.getElem?_eq_some_iff.1 hv).1
     have hjn:j / e.sz<n:=Nat.div_lt_of_lt_mul (by rw[Nat.mul_comm];exact hj);have hjl:j / e.sz<css.length:=by rw[h1,hxl];exact hjn
     have hjc:css[j / e.sz]? =some css[j / e.sz]:=List.getElem?_eq_getElem hjl;obtain⟨x,b',o',_,ha',hr,hR⟩:=h2 _ _ hjc;rw[ha] at ha';cases ha';have hm:j%e.sz<(css[j / e.sz]).length:=by rw[e.len hR];exact Nat.mod_lt _ e.pos
     have h3:=j8 css (j / e.sz) _ (j%e.sz) _ hlen hjc (List.getElem?_eq_getElem hm);rw[Nat.div_add_mod' j e.sz,hv] at h3;obtain rfl:=Option.some.inj h3;have h4:=hr (j%e.sz) _ (List.getElem?_eq_getElem hm);rw[Nat.add_assoc,Nat.div_add_mod' j e.sz] at h4;exact h4
theorem EX {e:fQ α}{O:Nat->Prop}{h':ai}{base:Nat}{t:TypeId}{v:Value}{xs:List α}{css:List (List Value)}(h1:css.length=xs.length) (h2:∀(i:Nat) (cs:List Value) (x:α),css[i]? =some cs->xs[i]? =some x->e.R h O cs x)
 {n:Nat}(hn:xs.length=n) (ho:aB h' base t e.sz v n css.flatten) (hx:aj h h') (hv:∀b,v.ownBlock=some b->h.size<=b):cH e O h' base t v xs:=by
 subst hn
 exact⟨css,h1,ho,fun i cs x q1 q2=>e.mv (h2 i cs x q1 q2) ⟨hx.size,fun b hb hn=>⟨hx.block b hb (fun k=>k),fun k=>by
  rcases k with k|k
  · have:=hv b k.symm;omega
  · exact hn k⟩⟩⟩
end
end Go.Lw
namespace Go.Lw
open Go.RowKit
section
variable {n c g:Nat}{h:ai}{t:TypeId}
theorem gW.OE {P:Program}{l:Nat}{r:Loop}{args:Array Value}{ρ:Env}{id1 id2 id3 idb:Nat}{ops1 ops2 ops3:Array Oper}{c:Operand}{Φ:Value->ai->Prop}(hl:ck h l r) (hst:r.state= .ready) (hsz:args.size=r.params.size)
 (ht:Fits n ρ { tmps:=(r.params.zip args).foldl (fun tmps (t,a)=>tmps.setIfInBounds t a) r.tmps,defers:=[] }) (ha1:r.assign= .region id1 ops1 false)
 (hb1:r.body= .block idb (.seq (.region id2 ops2 false) (.cond c (.seq (.region id3 ops3 false) .ret) .skip)))
 (walk:ef P (some l) n ops1 0 ρ h (fun ρ1 h1=>ck h1 l r/\ef P (some l) n ops2 0 ρ1 (bM h1 l (.loop { r with state:=.busy })) (fun ρ2 h2=>∃t,aP ρ2 c=some (.bool t) /\
  (t=true->ef P (some l) n ops3 0 ρ2 h2 (fun _ h3=>∃r2,ck h3 l r2/\Φ (.bool false) (bM h3 l (.loop { r2 with state:=.done,pending:=some .ret }))) (fun _ _=>False)) /\
  (t=false->∃r2,ck h2 l r2/\Φ (.bool true) (bM h2 l (.loop { r2 with state:=.ready,pending:=none })))) (fun _ _=>False)) (fun _ _=>False)) :
 gW P l args h (bw Φ):=by
 intro m B w ha;have hlw:w.heap[l]? =some (.loop r):=by rw[ha.heap];exact hl
 refine⟨_,_,_,_,run_yield hlw hsz,roundIn_of_wpIn trivial ?_⟩;rw[ha1,hb1];refine wpIn_region ?_;refine walk m B _ w ht ha _ ?_ (fun _ _ _ _ _ _ k=>k.elim);rintro ρ1 h1 a1 w1 hf1 hw1 ⟨hl1,walk2⟩;have hlw1:w1.heap[l]? =some (.loop r):=by rw[hw1.heap];exact hl1
 refine⟨_,run_beginRound hlw1 hst,?_⟩;refine wpIn_block (wpIn_seq (wpIn_region ?_));refine walk2 m B a1 _ hf1 (hw1.bM l _) _ ?_ (fun _ _ _ _ _ _ k=>k.elim);rintro ρ2 h2 a2 w2 hf2 hw2 ⟨t,ht,k1,k2⟩;refine wpIn_cond_split (hf2.eval ht) (fun q=>?_) (fun q=>?_)
 · refine wpIn_seq (wpIn_region ?_);refine k1 q m B a2 w2 hf2 hw2 _ ?_ (fun _ _ _ _ _ _ k=>k.elim);rintro ρ3 h3 a3 w3 hf3 hw3 ⟨r2,hl2,hΦ⟩;have hlw2:w3.heap[l]? =some (.loop r2):=by rw[hw3.heap];exact hl2
   refine wpIn_ret ?_;exact⟨_,_,run_endRound (some .ret) hlw2,_,hw3.bM l _,_,rfl,hΦ⟩
 · obtain⟨r2,hl2,hΦ⟩:=k2 q;have hlw2:w2.heap[l]? =some (.loop r2):=by rw[hw2.heap];exact hl2
   refine wpIn_skip ?_;exact⟨_,_,run_endRound none hlw2,_,hw2.bM l _,_,rfl,hΦ⟩
section
variable {P:Program}{f:FuncId}{fn:Func}{k:List It}{ρ:Env}{h:ai}{R:Ending->ai->Prop}{p:List Nat}
theorem G.Gz {g:Operand}{ps:Array Tmp}{assign body:Code}{f':FuncId}{fn':Func}{caps:Array Value}(hfn:P.funcs[f]? =some fn) (hk:Lw.sub (ax fn) p= .rangeFunc g ps assign body) (hg:aP ρ g=some (.func (.func f') #[] caps))
 (hfn':P.funcs[f']? =some fn') (hb':fn'.body.isSome=true) (hnm':(fn'.name == "runtime.NumGoroutine")=false)
 (hcall:∀fid tmps,Fits fn.ntmps ρ { tmps:=tmps,defers:=[] }->aq P f' (#[.func (.yield (h.size+1)) #[] #[]]++caps) ((h.push (.deferred (some []))).push (.loop (fG fid tmps ps assign body h.size)))
  (bw fun _ h'=>∃r,ck h' (h.size+1) r/\r.state≠ .busy/\(r.pending=none/\GD P (fu h.size) f fn k ρ (bM h' (h.size+1) (.loop { r with state:=.exhausted })) R \/
   r.pending=some .ret/\h'[h.size]? =some (.deferred (some []))/\∃vs,fD P ρ (bM (bM h' (h.size+1) (.loop { r with state:=.exhausted })) h.size (.deferred none)) fn.results.toList vs /\
    R (.returned (packed vs)) (bM (bM h' (h.size+1) (.loop { r with state:=.exhausted })) h.size (.deferred none))))):G P f fn (.code p::k) ρ h R:=by
 intro B a w hf ha b hb hkk cs
 let Q:Exit->Act->World->Prop:=fun e a' w'=>match e with
  |.normal=>∃h',kE (fu h.size) fn.ntmps ρ a'/\At B h' w'/\GD P (fu h.size) f fn k ρ h' R
  |.ret=>∃h',kE (fu h.size) fn.ntmps ρ a'/\At B h' w'/\h'[h.size]? =some (.deferred (some []))/\∃vs,fD P ρ (bM h' h.size (.deferred none)) fn.results.toList vs/\R (.returned (packed vs)) (bM h' h.size (.deferred none))
  |_=>False
 have hw:(Code.rangeFunc g ps assign body).wp P Q a w:=by
  refine(wpIn_wide (n:=0)).1 (wpIn_rangeFunc fun fid _=>?_);have hb2:fn'.body≠none:=by intro hbb;simp[hbb] at hb'
  have hnm2:¬fn'.name= "runtime.NumGoroutine" :=by simpa using hnm'
  have hf0:Fits fn.ntmps ρ { tmps:=a.tmps,defers:=[] }:=⟨hf.size,hf.ok,rfl⟩
  have ha2:At B ((h.push (.deferred (some []))).push (.loop (fG fid a.tmps ps assign body h.size))) ((w.alloc (.deferred (some []))).alloc (.loop (fG fid a.tmps ps assign body w.heap.size))):=by
   refine⟨?_,ha.os,ha.tape,ha.output⟩
   show ((w.heap.push _).push _)=_
   rw[ha.heap]
  let W1:World:=(w.alloc (.deferred (some []))).alloc (.loop (fG fid a.tmps ps assign body w.heap.size))
  refine⟨w.heap.size+1,fu w.heap.size,W1,{ target:=.fn (.func f') caps,args:= #[.func (.yield (w.heap.size+1)) #[] #[]] },W1,f',#[.func (.yield (w.heap.size+1)) #[] #[]]++caps,W1,run_enterLoop_outer fid a.tmps ps assign body,?_,fun _ _=>trivial,?_,fun h=>by simp[Fence.wide] at h,?_⟩
  · have hge:a.eval g= .func (.func f') #[] caps:=hf.eval hg;have hec:∀v,a.eval (.const v)=v:=fun _=>rfl
    simp[resolve,hge,Deferred.ofValue,hec]
  · simp[invoke,callFunc,hfn',hnm2,hb2]
  · refine wB (ro:=none) ((?_:Calls P f' (#[.func (.yield (w.heap.size+1)) #[] #[]]++caps) ((w.alloc (.deferred (some []))).alloc (.loop (fG fid a.tmps ps assign body w.heap.size))) _));have hc:=hcall fid a.tmps hf0 B _ ha2;rw[<-ha.heap] at hc;refine hc.mono fun e w3 he=>?_
    obtain⟨h3,ha3,v,rfl,r,hl,hnb,hcs⟩:=he;have hl3:w3.heap[w.heap.size+1]? =some (.loop r):=by rw[ha3.heap];exact hl
    have hfd:kE (fu h.size) fn.ntmps ρ { a with defers:=fu w.heap.size++a.defers }:=⟨hf.size,hf.ok,by
     show fu w.heap.size++a.defers=fu h.size
     rw[hf.nd,ha.heap];rfl⟩
    refine⟨r.pending,_,run_endLoop hl3 hnb,?_⟩;split
    · rename_i hc
      rcases hcs with ⟨hpd,hgd⟩|⟨hpd,_⟩
      · exact⟨_,hfd,ha3.bM _ _,by rw[<-ha.heap];exact hgd⟩
      · rw[hpd] at hc;cases hc
    · rename_i c hc
      rcases hcs with ⟨hpd,_⟩|⟨hpd,hmk,vs,hra,hR⟩
      · rw[hpd] at hc;cases hc
      · obtain rfl:Code.ret=c:=Option.some.inj (hpd.symm.trans hc);refine wpIn_ret ?_;refine⟨_,hfd,ha3.bM _ _,?_,vs,by rw[<-ha.heap];exact hra,by rw[<-ha.heap];exact hR⟩;have hne:¬(w.heap.size+1=h.size):=by rw[ha.heap];omega
        rw[bM,Array.getElem?_setIfInBounds_ne hne,<-ha.heap];exact hmk
 obtain⟨e,a',w',hq,harr⟩:=hw b (k.map (aC (ax fn))) cs;have hit:(It.code p::k).map (aC (ax fn))=Item.code (Code.rangeFunc g ps assign body)::k.map (aC (ax fn)):=by simp[aC,hk]
 rw[hit];cases e with
 |normal =>
  obtain⟨h',f'',a'',hgd⟩:=hq;obtain⟨e,w'',fr,h'',h1,h2,h3,h4,h5⟩:=hgd B a' w' f'' a'' b hb hkk cs;exact⟨e,w'',fr,h'',h1,h2,.of_steps harr h3,h4,h5⟩
 |ret =>
  obtain⟨h',f'',a'',hm,vs,hr,hR⟩:=hq;obtain⟨todo,hs⟩:=harr;have htake:(Instr.takeDeferred h.size).run P w'= .ok [] (w'.putObj h.size (.deferred none)):=run_takeDeferred (by rw[a''.heap];exact hm);have h2:=step_collected (P:=P) (fr:= { b.at a' todo with mode:=.returning }) (cs:=cs) (by simp) (f''.nd:_=_) rfl htake;have hz:=f''.zero;exact⟨.returned (packed vs),_,_,_,a''.bM h.size _,hR,hs.trans (.one h2),hb,rfl,rfl,hkk,fn,(show P.funcs[b.fn]? =some fn by rw[hb];exact hfn),fo hz (a''.bM h.size _) hr⟩
 |panic ch=>exact hq.elim
 |exit id=>exact hq.elim
 |goto l=>exact hq.elim
 |outgrown=>exact hq.elim
theorem GD.Iz {b0:Nat}{vs:List Value}(hfn:P.funcs[f]? =some fn) (hk:kind (Lw.sub (ax fn) p)=4) (hm:h[b0]? =some (.deferred (some []))) (hr:fD P ρ (bM h b0 (.deferred none)) fn.results.toList vs) (hR:R (.returned (packed vs)) (bM h b0 (.deferred none))):GD P (fu b0) f fn (.code p::k) ρ h R:=by
 intro B a w hf ha b hb hkk cs
 have hstep:Go.step P (lone (b.at a ((It.code p::k).map (aC (ax fn)))) cs w)= .next (lone { b.at a ((It.code p::k).map (aC (ax fn))) with mode:=.returning } cs w):=by
  simp only[List.map_cons,aC];cases hc:Lw.sub (ax fn) p<;>simp[hc,kind] at hk
  · rename_i d;cases d<;>simp at hk
  · exact step_ret
 have htake:(Instr.takeDeferred b0).run P w= .ok [] (w.putObj b0 (.deferred none)):=run_takeDeferred (by rw[ha.heap];exact hm);have h2:=step_collected (P:=P) (fr:= { b.at a ((It.code p::k).map (aC (ax fn))) with mode:=.returning }) (cs:=cs) (by simp) (hf.nd:_=_) rfl htake;have hz:=hf.zero;exact⟨.returned (packed vs),_,_,_,ha.bM b0 _,hR,.head hstep (.one h2),hb,rfl,rfl,hkk,fn,(show P.funcs[b.fn]? =some fn by rw[hb];exact hfn),fo hz (ha.bM b0 _) hr⟩
end
section
variable {P:Program}{ρ:Env}{h:ai}{dst:Option Nat}{ty:TypeId}{pos:String}{after:Array Edge}{guard:Option (Nat×Bool)}{X:List PanicEntry->ai->Prop}
theorem aQ.JU {e eb:TypeId}{x:Operand}{o:Nat}{cur:Array Value}{z:Value}(hu:P.underlying t=some (.slice e)) (hz:(P.info? e).bind (·.zero)=some z)
 (hx:aP ρ x=some (.slice (some ⟨g,o,none⟩) n c)) (hn:0<n) (hg:h[g]? =some (.cells cur eb (0,0))) (hl:o+n*z.cells.size<=cur.size) (h1:∀v∈z.cells.toList,v.oneCell'=true) :
 aQ P ⟨dst,.call ⟨.builtin .clear,#[x],#[t]⟩,ty,pos,after,guard⟩ ρ h (fun _ h'=>∃cs:Array Value,h'=setRow h g cs/\cs.size=cur.size/\cs.toList.take o=cur.toList.take o) X:=by
 intro nn B a w hf ha next Q hq _
 have hgw:w.heap[g]? =some (.cells cur eb (0,0)):=by rw[ha.heap];exact hg
 obtain⟨zs,hzs⟩:∃zs,zs=(Builtin.zeroCells z.cells n).toList:=⟨_,rfl⟩
 have hlen:zs.length=n*z.cells.size:=by rw[hzs];simp[Builtin.zeroCells]
 have hone:∀v∈zs,v.oneCell'=true:=by
  intro v hv;rw[hzs] at hv;simp only[Builtin.zeroCells,Array.toList_map,List.mem_map,Array.toList_range,List.mem_range] at hv;obtain⟨i,hi,rfl⟩:=hv
  have hp:0<z.cells.size:=by
   rcases Nat.eq_zero_or_pos z.cells.size with q|q
   · rw[q,Nat.mul_zero] at hi;omega
   · exact q
  have hm:i%z.cells.size<z.cells.size:=Nat.mod_lt _ hp;rw[getElem!_pos z.cells _ hm];exact h1 _ (by simp)
 have hst:=run_storeCells_at (P:=P) g o eb zs 0 cur w hgw (by rw[hlen];simpa using hl) hone;simp only[Nat.add_zero] at hst
 obtain⟨i,hi,hz'⟩:∃i,P.info? e=some i/\i.zero=some z:=by
  cases hi:P.info? e with
  |none=>rw[hi] at hz;cases hz
  |some i=>rw[hi] at hz;exact⟨i,rfl,hz⟩
 obtain⟨m,rfl⟩:∃m,n=m+1:=⟨n-1,by omega⟩
 have hrun:(execOp a.eval ⟨dst,.call ⟨.builtin .clear,#[x],#[t]⟩,ty,pos,after,guard⟩).run P w= .ok (.value (.tuple #[])) (w.setRow g (cur.toList.take o++zs++cur.toList.drop (o+zs.length)).toArray):=by
  simp[execOp,resolve,invoke,builtin,hf.eval hx,Builtin.clear_,run_underlying hu,zeroValue,typeInfo,hi,hz',<-hzs,hst]
 unfold Oper.wp;rw[hrun];refine hq _ (Lw.setRow h g (cur.toList.take o++zs++cur.toList.drop (o+zs.length)).toArray) _ ⟨?_,ha.os,ha.tape,ha.output⟩ ⟨_,rfl,?_,?_⟩
 · rw[<-ha.heap];rfl
 · simp;omega
 · show (cur.toList.take o++zs++cur.toList.drop (o+zs.length)).take o=_
   have hlt:(cur.toList.take o).length=o:=by rw[List.length_take,Array.length_toList];exact Nat.min_eq_left (by omega)
   rw[List.append_assoc,List.take_append_of_le_length (Nat.le_of_eq hlt.symm),List.take_take,Nat.min_self]
end
theorem aB.cut {base:Nat}{size:Nat}{xs:List Value}(k:aB h base t size (.slice (some ⟨g,0,none⟩) n c) n xs){i:Nat}(hi:i<=n) :
 ∃cur,h[g]? =some (.cells cur t (0,0))/\cur.size=c*size/\n<=c/\base<=g/\∀cs:Array Value,cs.size=cur.size->cs.toList.take (i*size)=cur.toList.take (i*size)->aB (setRow h g cs) base t size (.slice (some ⟨g,0,none⟩) i c) i (xs.take (i*size)):=by
 obtain⟨hl,hc⟩:=k
 rcases hc with ⟨hv,h0⟩|⟨g',cap,cur,hv,hb,hg,hnc,hcap,hsz,htk⟩
 · cases hv
 · cases hv;refine⟨cur,hg,hsz,hnc,hb,fun cs h1 h2=>⟨by rw[List.length_take,hl];exact Nat.min_eq_left (Nat.mul_le_mul_right _ hi),.inr ⟨g,c,cs,rfl,hb,pW hg cs,by omega,hcap,by rw[h1];exact hsz,?_⟩⟩⟩;rw[h2,<-htk,List.take_take,Nat.min_eq_left (Nat.mul_le_mul_right _ hi)]
theorem ry {α:Type}{sz:Nat}:∀(css:List (List α)) (i:Nat),(∀c∈css,c.length=sz)->(css.take i).flatten=css.flatten.take (i*sz)
 | [],i,_=>by simp
 |c::css,0,_=>by simp
 |c::css,i+1,hl=>by
  have h0:c.length=sz:=hl c (by simp);have e:(i+1)*sz=c.length+i*sz:=by rw[h0,Nat.add_mul];omega
  rw[List.take_succ_cons,List.flatten_cons,List.flatten_cons,ry css i (fun c hc=>hl c (by simp[hc])),e,List.take_length_add_append]
theorem nW {α:Type}{sz:Nat}:∀(css:List (List α)) (i:Nat) (cs:List α),(∀c∈css,c.length=sz)->cs.length=sz->i<css.length->(css.set i cs).flatten=css.flatten.take (i*sz)++cs++css.flatten.drop (i*sz+sz)
 | [],i,cs,_,_,hi=>by cases hi
 |c::css,0,cs,hl,hc,_=>by
  have h0:c.length=sz:=hl c (by simp);rw[List.set_cons_zero,List.flatten_cons,List.flatten_cons,Nat.zero_mul,List.take_zero,List.nil_append,Nat.zero_add,List.drop_append_of_le_length (Nat.le_of_eq h0.symm),List.drop_of_length_le (Nat.le_of_eq h0),List.nil_append]
 |c::css,i+1,cs,hl,hc,hi=>by
  have h0:c.length=sz:=hl c (by simp);have e:(i+1)*sz=c.length+i*sz:=by rw[h0,Nat.add_mul];omega
  rw[List.set_cons_succ,List.flatten_cons,List.flatten_cons,nW css i cs (fun c hc=>hl c (by simp[hc])) hc (by simpa using hi),e,List.take_length_add_append,Nat.add_assoc,List.drop_length_add_append];simp
theorem cH.cut {α:Type}{e:fQ α}{O:Nat->Prop}{h:ai}{base:Nat}{t:TypeId}{g n c:Nat}{ys:List α}(k:cH e O h base t (.slice (some ⟨g,0,none⟩) n c) ys) (hn:ys.length=n){i:Nat}(hi:i<=n) :
 ∃cur,h[g]? =some (.cells cur t (0,0))/\cur.size=c*e.sz/\n<=c/\base<=g/\∀cs:Array Value,cs.size=cur.size->cs.toList.take (i*e.sz)=cur.toList.take (i*e.sz)->cH e O (setRow h g cs) base t (.slice (some ⟨g,0,none⟩) i c) (ys.take i):=by
 subst hn;obtain⟨css,h1,h2,h3⟩:=k;obtain⟨cur,q1,q2,q3,q4,q5⟩:=h2.cut hi
 have hlen:∀c∈css,c.length=e.sz:=fun c hc=>by
  obtain⟨j,hj⟩:=List.getElem?_of_mem hc;have hlt:j<ys.length:=by rw[<-h1];exact(List.getElem?_eq_some_iff.1 hj).1
  exact e.len (h3 j c ys[j] hj (List.getElem?_eq_getElem hlt))
 have htl:(ys.take i).length=i:=by rw[List.length_take];exact Nat.min_eq_left hi
 refine⟨cur,q1,q2,q3,q4,fun cs h4 h5=>⟨css.take i,by simp[h1],?_,fun j cs' y hc hy=>?_⟩⟩
 · rw[ry css i hlen,htl];exact q5 cs h4 h5
 · have hj:j<i:=by rw[<-htl];exact(List.getElem?_eq_some_iff.1 hy).1
   rw[List.getElem?_take_of_lt hj] at hc hy;exact e.mv (h3 j cs' y hc hy) ⟨by rw[setRow_size];exact Nat.le_refl _,fun b hb hnb=>⟨(Ext.setRow (M:=fun b=>b=g) h g cs rfl).block b hb (fun k=>hnb (.inl (by rw[k];rfl))),hnb⟩⟩
theorem cH.putRow {α:Type}{e:fQ α}{O:Nat->Prop}{base:Nat}{ys:List α}(k:cH e O h base t (.slice (some ⟨g,0,none⟩) n c) ys) (hn:ys.length=n){i:Nat}(hi:i<n) :
 ∃cur,h[g]? =some (.cells cur t (0,0))/\cur.size=c*e.sz/\n<=c/\base<=g/\∀(cs:List Value) (y:α),e.R h (fun b=>cv (Value.slice (some ⟨g,0,none⟩) n c).ownBlock b\/O b) cs y ->
  cH e O (setRow h g (cur.toList.take (0+i*e.sz)++cs.toArray.toList++cur.toList.drop (0+i*e.sz+cs.toArray.size)).toArray) base t (.slice (some ⟨g,0,none⟩) n c) (ys.set i y):=by
 subst hn;obtain⟨css,h1,h2,h3⟩:=k
 have hlen:∀c∈css,c.length=e.sz:=fun c hc=>by
  obtain⟨j,hj⟩:=List.getElem?_of_mem hc;have hlt:j<ys.length:=by rw[<-h1];exact(List.getElem?_eq_some_iff.1 hj).1
  exact e.len (h3 j c ys[j] hj (List.getElem?_eq_getElem hlt))
 obtain⟨hl,hc⟩:=h2
 rcases hc with ⟨hv,h0⟩|⟨g',cap,cur,hv,hb,hg,hnc,hcap,hsz,htk⟩
 · cases hv
 cases hv;refine⟨cur,hg,hsz,hnc,hb,fun cs y hy=>?_⟩;have hcl:cs.length=e.sz:=e.len hy;have hic:i<css.length:=by omega
 have hmul:i*e.sz+e.sz<=ys.length*e.sz:=by
  have:(i+1)*e.sz<=ys.length*e.sz:=Nat.mul_le_mul_right _ hi
  rwa [Nat.add_mul,Nat.one_mul] at this
 have hmul2:ys.length*e.sz<=c*e.sz:=Nat.mul_le_mul_right _ hnc;simp only[Nat.zero_add,List.size_toArray,hcl]
 have hsize:(cur.toList.take (i*e.sz)++cs++cur.toList.drop (i*e.sz+e.sz)).length=c*e.sz:=by
  rw[List.length_append,List.length_append,List.length_take,List.length_drop,Array.length_toList,hsz,hcl,Nat.min_eq_left (by omega)];omega
 have htake:(cur.toList.take (i*e.sz)++cs++cur.toList.drop (i*e.sz+e.sz)).take (ys.length*e.sz)=css.flatten.take (i*e.sz)++cs++css.flatten.drop (i*e.sz+e.sz):=by
  rw[<-htk,List.take_take,Nat.min_eq_left (by omega),List.drop_take];have hal:(cur.toList.take (i*e.sz)++cs).length=i*e.sz+e.sz:=by rw[List.length_append,List.length_take,Array.length_toList,hsz,hcl,Nat.min_eq_left (by omega)]
  rw[List.take_append,hal,List.take_of_length_le (by rw[hal];omega)]
 refine⟨css.set i cs,by simp[h1],⟨?_,.inr ⟨g,c,(cur.toList.take (i*e.sz)++cs++cur.toList.drop (i*e.sz+e.sz)).toArray,by simp,hb,pW hg _,by simpa using hnc,hcap,by rw[List.size_toArray];exact hsize,?_⟩⟩,fun j cs' y' hc' hy'=>?_⟩
 · rw[nW css i cs hlen hcl hic,List.length_append,List.length_append,List.length_take,List.length_drop,hl,List.length_set,hcl,Nat.min_eq_left (by omega)];omega
 · rw[nW css i cs hlen hcl hic,List.length_set];exact htake
 · have hm:Mv (fun b=>cv (Value.slice (some ⟨g,0,none⟩) ys.length c).ownBlock b\/O b) (fun b=>cv (Value.slice (some ⟨g,0,none⟩) ys.length c).ownBlock b\/O b) h (setRow h g (cur.toList.take (i*e.sz)++cs++cur.toList.drop (i*e.sz+e.sz)).toArray) :=
    ⟨by rw[setRow_size];exact Nat.le_refl _,fun b hlt hnb=>⟨(Ext.setRow (M:=fun b=>b=g) h g _ rfl).block b hlt (fun k=>hnb (.inl (by rw[k];rfl))),hnb⟩⟩
   rcases Nat.decEq i j with hne|rfl
   · rw[List.getElem?_set_ne hne] at hc' hy';exact e.mv (h3 j cs' y' hc' hy') hm
   · rw[List.getElem?_set_self hic] at hc';rw[List.getElem?_set_self hi] at hy';cases hc';cases hy';exact e.mv hy hm
end
end Go.Lw
namespace Go.Lw
open Go.ChangeShapes Go.WideShapes Go.ChangeAt Go.RowKit
section
variable {P:Program}{H:Type}{enc:TypeId×Value->H}
theorem GW {W:World}{fuel:Nat}{sp:Nat->Bool}{held:Bool}{t e:TypeId}{cs:List Value}{L:List (List UInt8)}{rest:List (DataW H)}{pl:List MemPlace}
 (ht:P.underlying t=some (.slice e)) (he:P.underlying e=some .string) (hC:P.cellsOf e=1)
 (h:DataW.trod enc P W 0 sp held fuel t cs=some (.slice (L.map fun s=>.lit (.string s)) rest,pl)):∃v,cs=[v]/\aT (.flat (fun s=>Value.string ⟨s.toArray⟩) fun _=>rfl) W.heap (fun _=>False) v L:=by
 rcases Deep.open_slice ht h with ⟨_,hx⟩|⟨a,len,cap,m,n,D,Pl,rfl,_,hle,hm,hmm,hx,hel⟩
 · simp at hx
 · simp only[Prod.mk.injEq,DataW.slice.injEq] at hx;have hlen:L.length=len:=by have:=congrArg List.length hx.1.1;simpa using this
   have hlm:len<=m:=by rw[hmm];split<;>omega
   have hD:∀(i:Nat) (r:List UInt8),L[i]? =some r->D i= .lit (.string r):=fun i r hr=>by
    have hil:i<len:=by rw[<-hlen];exact(List.getElem?_eq_some_iff.1 hr).1
    have:=congrArg (fun z=>z[i]?) hx.1.1;simp only[List.getElem?_map,hr,Option.map_some,List.getElem?_range hil,Option.some.injEq] at this;exact this.symm
   refine⟨_,rfl,some a,len,cap,rfl,hlen,hle,hm,fun i r hr=>?_⟩;have hil:i<len:=by rw[<-hlen];exact(List.getElem?_eq_some_iff.1 hr).1
   obtain⟨cs',hc1,hc2⟩:=hel i (by omega);rw[hC] at hc1;rw[hD i r hr] at hc2;obtain⟨_,hcl,hcell⟩:=World.cells?_some hc1;obtain rfl:=qG he hc2;obtain⟨cs0,hc0,_⟩:=hel 0 (by omega);rw[hC] at hc0;obtain⟨_,hcl0,hcell0⟩:=World.cells?_some hc0;have hs0:=hcell0 0 (by omega);rw[List.getElem?_eq_getElem (by omega)] at hs0;have hspot:a.spot=none:=by simpa [Addr.add] using World.cell?_spot hs0
   obtain⟨b,o,spot⟩:=a;have hspot:spot=none:=hspot;subst hspot;refine⟨b,o,[.string ⟨r.toArray⟩],rfl,fun k=>k,fun j u hj=>?_,rfl⟩;have hj0:j=0:=by cases j with|zero=>rfl|succ j=>simp at hj
   subst hj0;have:=hcell 0 (by omega);rw[Deep.add_add,Addr.add_mid,cU] at this
   show cellAt W.heap ⟨b,o+i*1+0,none⟩=some u
   rw[Nat.add_assoc,this];exact hj
end
end Go.Lw
