/- What the proof of the statement leans on (part 23). -/
import Derived.Deep.Fields
import Derived.OpenShut
import Derived.Test.YtfegacfjgjaghaaGreatDoorQv

namespace Go.Lw
open Go.ChangeShapes Go.WideShapes Go.ChangeAt Go.RowKit
section
variable {W:World}{fuel:Nat}{sp:Nat→Bool}{held:Bool}{t:TypeId}{cs:List Value}{pl:List MemPlace}
variable {H:Type}{enc:TypeId×Value→H}{P:Program}
theorem trod_str_lit {base:Nat}{l:List UInt8}(ht:P.underlying t=some .string)
 (h:DataW.trod enc P W base sp held fuel t cs=some (.lit (.string l),pl)):cs=[.string ⟨l.toArray⟩]:=by
 cases fuel with
 |zero=>simp[DataW.trod] at h
 |succ n =>
  rw[DataW.trod_step] at h;unfold DataW.trodStep at h;rw[ht] at h;split at h<;>try (first|cases h|(simp at *;done))
  rename_i s _ _;split at h
  · simp only[Option.some.injEq,Prod.mk.injEq,DataW.lit.injEq,Lit.string.injEq] at h;rw[←h.1]
  · cases h
theorem trod_int_lit {base:Nat}{k k':IntKind}{i:Int}(ht:P.underlying t=some (.int k))
 (h:DataW.trod enc P W base sp held fuel t cs=some (.lit (.int k' i),pl)):cs=[.int k i]:=by
 cases fuel with
 |zero=>simp[DataW.trod] at h
 |succ n =>
  rw[DataW.trod_step] at h;unfold DataW.trodStep at h;rw[ht] at h;split at h<;>simp_all
def encSII (r:List UInt8×Int×Int):List Value:=[.string ⟨r.1.toArray⟩,.int .i64 r.2.1,.int .i64 r.2.2]
def eSII:Elt (List UInt8×Int×Int):=.record 3 (by decide) encSII (fun _=>rfl) (fun x v hv=>by simp[encSII] at hv;rcases hv with rfl|rfl|rfl<;>rfl)
def dataSII (r:List UInt8×Int×Int):DataW H:=.agg [.lit (.string r.1),.lit (.int .i64 r.2.1),.lit (.int .i64 r.2.2)]
theorem laid_recs {e:TypeId}{f0 f1 f2:Field}{L:List (List UInt8×Int×Int)}{rest:List (DataW H)}
 (ht:P.underlying t=some (.slice e)) (he:P.underlying e=some (.struct #[f0,f1,f2])) (hC:P.cellsOf e=3)
 (o0:f0.offset=0) (o1:f1.offset=1) (o2:f2.offset=2) (t0:P.underlying f0.type=some .string) (t1:P.underlying f1.type=some (.int .i64)) (t2:P.underlying f2.type=some (.int .i64)) (c0:P.cellsOf f0.type=1) (c1:P.cellsOf f1.type=1) (c2:P.cellsOf f2.type=1)
 (h:DataW.trod enc P W 0 sp held fuel t cs=some (.slice (L.map dataSII) rest,pl)):∃v,cs=[v]∧SlR eSII W.heap (fun _=>False) v L:=by
 rcases Deep.open_slice ht h with ⟨_,hx⟩|⟨a,len,cap,m,n,D,Pl,rfl,_,hle,hm,hmm,hx,hel⟩
 · simp at hx
 · simp only[Prod.mk.injEq,DataW.slice.injEq] at hx;have hlen:L.length=len:=by have:=congrArg List.length hx.1.1;simpa using this
   have hlm:len≤m:=by rw[hmm];split<;>omega
   have hD:∀(i:Nat) (r:List UInt8×Int×Int),L[i]? =some r→D i=dataSII r:=fun i r hr=>by
    have hil:i<len:=by rw[←hlen];exact(List.getElem?_eq_some_iff.1 hr).1
    have:=congrArg (fun z=>z[i]?) hx.1.1;simp only[List.getElem?_map,hr,Option.map_some,List.getElem?_range hil,Option.some.injEq] at this;exact this.symm
   refine⟨_,rfl,some a,len,cap,rfl,hlen,hle,hm,fun i r hr=>?_⟩;have hil:i<len:=by rw[←hlen];exact(List.getElem?_eq_some_iff.1 hr).1
   obtain⟨cs',hc1,hc2⟩:=hel i (by omega);rw[hC] at hc1;rw[hD i r hr] at hc2;obtain⟨_,hcl,hcell⟩:=World.cells?_some hc1;obtain⟨xs,k,_,hxe,_,hxl,hfl⟩:=DataW.trod_struct he hc2;simp only[Prod.mk.injEq,dataSII,DataW.agg.injEq] at hxe;have hx3:xs.length=3:=hxl
   match cs',hcl,xs,hx3 with
   | [u0,u1,u2],_,[x0,x1,x2],_ =>
    have g0:=hfl 0 f0 rfl;have g1:=hfl 1 f1 rfl;have g2:=hfl 2 f2 rfl;rw[o0,c0] at g0;rw[o1,c1] at g1;rw[o2,c2] at g2;simp only[List.map_cons,List.map_nil,List.cons.injEq,and_true] at hxe;obtain⟨⟨e0,e1,e2⟩,_⟩:=hxe;have q0:[u0]=[.string ⟨r.1.toArray⟩]:=trod_str_lit t0 (pl:=x0.2) (by rw[e0];exact g0);have q1:[u1]=[.int .i64 r.2.1]:=trod_int_lit t1 (pl:=x1.2) (k':=.i64) (by rw[e1];exact g1);have q2:[u2]=[.int .i64 r.2.2]:=trod_int_lit t2 (pl:=x2.2) (k':=.i64) (by rw[e2];exact g2);simp only[List.cons.injEq,and_true] at q0 q1 q2;subst q0;subst q1;subst q2;obtain⟨cs0,hc0,_⟩:=hel 0 (by omega);rw[hC] at hc0;obtain⟨_,hcl0,hcell0⟩:=World.cells?_some hc0;have hs0:=hcell0 0 (by omega);rw[List.getElem?_eq_getElem (by omega)] at hs0;have hspot:a.spot=none:=by simpa [Addr.add] using World.cell?_spot hs0
    obtain⟨b,o,spot⟩:=a;have hspot:spot=none:=hspot;subst hspot;refine⟨b,o,encSII r,rfl,fun k=>k,fun j u hj=>?_,rfl⟩
    have hjl:j<3:=by
     rcases Nat.lt_or_ge j 3 with h2|h2
     · exact h2
     · rw[List.getElem?_eq_none (by simpa [encSII] using h2)] at hj;cases hj
    have:=hcell j hjl;rw[Deep.add_add,Addr.add_mid,cell_heap] at this
    show cellAt W.heap ⟨b,o+i*3+j,none⟩=some u
    rw[Nat.add_assoc,this];exact hj
end
end Go.Lw
namespace Go.Proofs.YtfegacfjgjaghaaGreatDoor
open Go Go.Lw
set_option maxRecDepth 20000
section
variable {h:Heap}
def rulesM (m:Int):List By:=if m=0 then rules0 else if m=1 then rules1 else if m=2 then rules2 else []
def tabR (m:Int):List (By×Int×Int):=List.zipWith (fun r k=>(r,k.1,k.2)) (rulesM m) (kindT m)
def RulesAt (h:Heap):Prop:=∀m:Nat,m<3→∃v,cellAt h ⟨0,m,none⟩=some v∧SlR eSII h (fun _=>False) v (tabR m)
theorem RulesAt.ext0 {h h':Heap}(k:RulesAt h) (e:Ext0 h h'):RulesAt h':=fun m hm=>by
 obtain⟨v,h1,h2⟩:=k m hm;exact⟨v,e.cell (fun k=>k) h1,h2.mv (Mv.ext0 e)⟩
theorem tabR_len (m:Nat) (hm:m<3):(tabR m).length≤10∧(tabR m).map (·.1)=rulesM m:=by
 match m,hm with
 | 0,_=>exact⟨by decide,by decide⟩
 | 1,_=>exact⟨by decide,by decide⟩
 | 2,_=>exact⟨by decide,by decide⟩
theorem sii_one (r:By×Int×Int):∀v∈encSII r,v.oneCell'=true:=fun v hv=>by simp[encSII] at hv;rcases hv with rfl|rfl|rfl<;>rfl
theorem all1_calls {l cap:Nat}{oa:Option Addr}{n c:Nat}{J:Nat→Heap→Prop}(hn:n≤1000000) (hmono:∀j h g,J j h→Ext0 h g→J j g)
 (hy:∀j h,J j h→j<n→∃(b o:Nat) (r:By×Int×Int),oa=some ⟨b,o,none⟩∧Lw.rowAt h b (o+j*3) (encSII r) ∧
  ∀g,J j g→YieldH Tryz.prog l #[.int .i64 (j:Nat),.agg (encSII r).toArray] g (Ret fun r h'=>r= .bool true∧J (j+1) h')) (h0:J 0 h) (hread:cellAt h ⟨cap,0,none⟩=some (.slice oa n c)) :
 CallsH Tryz.prog 63 #[.func (.yield l) #[] #[],.pointer (some ⟨cap,0,none⟩)] h (Ret fun _ h'=>J n h'):=by
 refine CallsH.of Tryz.func63 rfl rfl ?_;refine xr Tryz.func63 rfl ?_;refine xp rfl (OpP.load H.ag91 rfl hread) ?_;refine xp rfl (OpP.lenSlice Tryz.underlying91 rfl) ?_;refine xqd 1 [0,1,5,6,7] rfl ?_;refine G.block rfl rfl ?_;refine G.loop (σ:=Nat) (fun j=>[(0,.func (.yield l) #[] #[]),(1,.pointer (some ⟨cap,0,none⟩)),(5,.slice oa n c),(6,.int .i64 (n:Nat)),(7,.int .i64 (j:Nat))]) (fun j h'=>J j h'∧j≤n) (fun j=>n-j) (0) rfl ⟨rfl,rfl,rfl,rfl,rfl,trivial⟩ ⟨h0,Nat.zero_le _⟩ ?_;rintro j h1 ⟨hJ,hj⟩ ih;refine xrd Tryz.func63 1 [0,1,5,6,7,8] rfl ?_;refine G.seq rfl ?_;refine G.ite rfl rfl (fun hlt=>?_) (fun hlt=>?_)
 · obtain⟨b,o,r,ha,hrow,hyy⟩:=hy j h1 hJ (by omega);refine G.skip rfl ?_;refine G.seq rfl ?_;refine G.block rfl rfl ?_;refine xra Tryz.func63 1 rfl ?_;refine xp rfl (OpP.indexSlice Tryz.underlying91 H.sz93 rfl rfl j rfl ha (by omega)) ?_;refine xp rfl (OpP.loadRowN H.ag93 H.sz93 rfl hrow (by first|rfl|(simp;done)|(simp;omega))) ?_;refine xo rfl (OpX.allocN H.zr93) ?_;rintro _ g1 ⟨rfl,k1,e1,z1⟩;refine xqm 1 rfl ?_;refine RW.op0 rfl rfl rfl (OpX.storeBlk H.sz93 rfl rfl k1 (by first|rfl|(simp;done)|(simp;omega)) (by first|decide|exact of_decide_eq_true rfl|(simp;done)|(simp;omega)) (sii_one r)) ?_;rintro _ g2 ⟨rfl,k2,x2,z2⟩;refine xd [0,1,3,4,5,6,7,8] rfl ?_;refine G.seq rfl ?_;have e12:Ext0 h1 g2:=e1.only x2 (Nat.le_refl _);have k2:Blk g2 h1.size 93 (encSII r):=k2;refine G.regI Tryz.func63 rfl ?_;refine RWI.pureS rfl rfl rfl rfl rfl (OpP.move rfl) ?_;refine RWI.pureS rfl rfl rfl rfl rfl (OpP.move rfl) ?_;refine RWI.pureS rfl rfl rfl rfl rfl (OpP.loadRowN H.ag93 H.sz93 rfl k2.row (by first|rfl|(simp;done)|(simp;omega))) ?_;refine RWI.yield (vs:=[_,_]) rfl rfl rfl rfl rfl rfl rfl ((hyy g2 (hmono _ _ _ hJ e12))) ?_;rintro _ h2 ⟨rfl,hJ2⟩;refine RWI.pureS rfl rfl rfl rfl rfl (OpP.notB rfl) ?_;refine RWI.done rfl ?_;refine xu [0,1,3,4,5,6,7,8,16] rfl ?_;refine G.cond rfl rfl (fun hc=>absurd hc (by decide)) (fun _=>?_);refine G.skip rfl ?_;refine G.blkEnd ?_;refine G.reg Tryz.func63 rfl ?_;refine xp rfl (OpP.add64 rfl rfl ⟨by omega,by omega⟩) ?_;refine xqd 1 [0,1,3,4,5,6,7,8,16] rfl ?_;exact ih (j+1) _ _ ⟨rfl,rfl,rfl,rfl,rfl,trivial⟩ ⟨hJ2,by omega⟩ (by omega)
 · obtain rfl:j=n:=by omega
   refine G.exit rfl rfl ?_;refine G.fall Tryz.func63 rfl ?_;exact⟨_,rfl,hJ⟩
theorem all_calls (v:Value) (hv:v.oneCell'=true):CallsH Tryz.prog 36 #[v] h (Ret fun r h'=>r= .func (.func 63) #[] #[.pointer (some ⟨h.size,0,none⟩)]∧h'=h.push (.cells #[v] 91)):=by
 have hcells:v.cells= #[v]:=by cases v<;>simp[Value.oneCell'] at hv<;>rfl
 refine CallsH.of Tryz.func36 rfl rfl ?_;refine xr Tryz.func36 rfl ?_;refine xo rfl (OpX.box rfl) ?_;rintro _ _ ⟨rfl,rfl⟩;refine xqd 1 [0,1,2] rfl ?_;refine xr Tryz.func36 rfl ?_;refine xp rfl (OpP.makeFunc (vs:=[_]) rfl) ?_;refine xqd 1 [0,1,2] rfl ?_;refine G.ret Tryz.func36 rfl rfl ?_;exact⟨_,rfl,rfl,by rw[hcells]⟩
abbrev encS (s:By):Value:=.string (bs s)
def OfJ (h:Heap) (d:Nat) (r0:Loop) (base:Nat) (l:List By) (j:Nat) (g:Heap):Prop :=
 LoopAt g (d+1) r0∧g[d]? =some (.deferred (some []))∧Ext0 h g∧base≤g.size∧∃w,Blk g h.size 22 [w]∧OwE encS g base 9 w (l.take j)
theorem OfJ.ext0 {h:Heap}{d:Nat}{r0:Loop}{base:Nat}{l:List By}{j:Nat}{g g':Heap}(k:OfJ h d r0 base l j g) (hd:d<g.size) (e:Ext0 g g'):OfJ h d r0 base l j g':=by
 obtain⟨h1,h2,h3,h4,w,h5,h6⟩:=k;exact⟨h1.ext e (fun k=>k),(e.block d hd (fun k=>k)).trans h2,h3.trans e,by have:=e.size;omega,w,h5.ext0 e,OwE.ext0 h6 e⟩
theorem rof_calls (hR:RulesAt h) (m:Nat) (hm:m<3) :
 CallsH Tryz.prog 22 #[.int .i64 (m:Nat)] h (Ret fun r h'=>SlR eBy h' (fun _=>False) r (rulesM m)∧Ext0 h h'):=by
 obtain⟨htl,htm⟩:=tabR_len m hm;generalize hL0:rulesM (m:Int)=l at *;generalize htb:tabR (m:Int)=tb at *;have hll:l.length=tb.length:=by rw[←htm];simp
 refine CallsH.of Tryz.func22 rfl rfl ?_;refine xrd Tryz.func22 1 [0,2] rfl ?_;refine G.seq rfl ?_;refine G.seq rfl ?_;refine G.regTo1 [(11,.bool false)] [(0,_),(2,_)] ⟨rfl,rfl,trivial⟩ Tryz.func22 rfl ?_ ?_
 · refine xqm 3 rfl ?_;refine RW.know (d:=8) (b':=false) rfl ((by simp)) ?_;refine xqm 3 rfl ?_;refine RW.done rfl ?_;exact⟨rfl,at_bool rfl (by simp;omega),rfl,rfl,trivial⟩
 · refine G.cond rfl rfl (fun hc=>absurd hc (by decide)) (fun _=>?_);refine G.skip rfl ?_;refine xr Tryz.func22 rfl ?_;refine xo rfl (OpX.allocN H.zr22) ?_;rintro _ h1 ⟨rfl,k3,e1,z1⟩;have k3:Blk h1 h.size 22 [.slice none 0 0]:=k3;obtain⟨v,hv,hsl⟩:=hR m hm;rw[htb] at hsl;have hsl1:=hsl.mv (Mv.ext0 e1);obtain⟨oa,kn,kc,rfl,hsl2⟩:=hsl1.open;have hkn:=hsl2.len;have hv1:cellAt h1 ⟨0,0+m*1,none⟩=some (.slice oa kn kc):=by rw[Nat.mul_one,Nat.zero_add];exact e1.cell (fun k=>k) hv
   refine xd [0,2,3,11] rfl ?_;refine G.seq rfl ?_;refine xra Tryz.func22 1 rfl ?_;refine xp rfl (OpP.indexArr Tryz.underlying94 H.sz91 rfl rfl m rfl (by omega)) ?_;refine xp rfl (OpP.load H.ag91 rfl hv1) ?_;refine xo rfl (OpX.call (vs:=[_]) Tryz.func36 rfl H.nm36 rfl (CallsH.toX (all_calls (.slice oa kn kc) rfl))) ?_;rintro _ h2 ⟨rfl,hh2⟩;have e2:Ext0 h1 h2:=by rw[hh2];exact Ext.push _ _ _
   have kc2b:Blk h2 h1.size 91 [.slice oa kn kc]:=by rw[hh2];exact Blk.new _ _ _
   have kc2:cellAt h2 ⟨h1.size,0,none⟩=some (.slice oa kn kc):=kc2b.cell (i:=0) rfl;have z2:h2.size=h1.size+1:=by rw[hh2];simp
   clear hh2;refine xd [0,2,3,11,15] rfl ?_;refine G.block rfl rfl ?_;refine G.rangeFunc rfl rfl Tryz.func63 rfl (by decide +kernel) ?_;intro fid tmps hfits;obtain⟨r0,hr0⟩:∃r0,r0=newLoop fid tmps #[16,17] (rfA (Lw.sub (bodyOf Tryz.f22) [0,1,0,1,1,1])) (rfB (Lw.sub (bodyOf Tryz.f22) [0,1,0,1,1,1])) h2.size:=⟨_,rfl⟩
   obtain⟨hL,hhL⟩:∃hL,hL=(h2.push (.deferred (some []))).push (.loop r0):=⟨_,rfl⟩
   suffices hmain:CallsH Tryz.prog 63 #[.func (.yield (h2.size+1)) #[] #[],.pointer (some ⟨h1.size,0,none⟩)] hL _ by rw[hhL,hr0] at hmain;exact hmain
   have hst:r0.state= .ready:=by rw[hr0];rfl
   have hpn:r0.pending=none:=by rw[hr0];rfl
   have hps:r0.params= #[16,17]:=by rw[hr0];rfl
   have htm2:r0.tmps=tmps:=by rw[hr0];rfl
   have eL:Ext0 h2 hL:=by rw[hhL];exact(Ext.push _ _ _).trans (Ext.push _ _ _)
   have hLz:hL.size=h2.size+2:=by rw[hhL];simp
   have hloop0:LoopAt hL (h2.size+1) r0:=by
    have hz:h2.size+1=(h2.push (.deferred (some []))).size:=by simp
    rw[LoopAt,hhL,hz];exact Array.getElem?_push_size
   have hdef0:hL[h2.size]? =some (.deferred (some [])):=by
    rw[hhL,(Ext.push (fun _=>False) (h2.push (.deferred (some []))) _).block h2.size (by simp) (fun k=>k)];exact Array.getElem?_push_size
   clear hhL;have e0L:Ext0 h hL:=(e1.trans e2).trans eL;have hJ0:OfJ h h2.size r0 hL.size l 0 hL:=⟨hloop0,hdef0,e0L,Nat.le_refl _,_,(k3.ext0 e2).ext0 eL,OwE.nil _ _ _ _⟩
   have hcapL:cellAt hL ⟨h1.size,0,none⟩=some (.slice oa kn kc):=eL.cell (fun k=>k) kc2;have hdl:∀j g,OfJ h h2.size r0 hL.size l j g→h2.size<g.size:=fun j g k=>by have:=k.2.2.2.1;omega
   refine suff (p:=∀j g,OfJ h h2.size r0 hL.size l j g→j<kn→∃(b o:Nat) (r:By×Int×Int),oa=some ⟨b,o,none⟩∧Lw.rowAt g b (o+j*3) (encSII r)∧∀g,OfJ h h2.size r0 hL.size l j g→YieldH Tryz.prog (h2.size+1) #[.int .i64 (j:Nat),.agg (encSII r).toArray] g (Ret fun r h'=>r= .bool true∧OfJ h h2.size r0 hL.size l (j+1) h')) ?_ fun hy=>?_
   · intro j g hJg hj;obtain⟨r,hx⟩:∃r,tb[j]? =some r:=⟨_,List.getElem?_eq_getElem (by omega)⟩
     have hslg:=hsl.mv (Mv.ext0 hJg.2.2.1);obtain⟨oa',n',c',hv',_,_,_,hget⟩:=id hslg;cases hv';obtain⟨b,o,cs,ha,hob,hrow,rfl⟩:=hget j r hx;refine⟨b,o,r,ha,hrow,fun g hJg=>?_⟩;obtain⟨hlp,hdf,ehg,hbg,w,kS,hw⟩:=hJg;have hlj:l[j]? =some r.1:=by rw[←htm,List.getElem?_map,hx];rfl
     have hfit:=fits_two (p1:=16) (p2:=17) (v1:=.int .i64 (j:Nat)) (v2:=.agg (encSII r).toArray) hfits rfl rfl;rw[←hps,←htm2] at hfit;refine YieldH.of hlp hst (by rw[hps];rfl) hfit ((congrArg Loop.assign hr0).trans rfl) ((congrArg Loop.body hr0).trans rfl) ?_;refine RWI.opS rfl rfl rfl rfl rfl (OpX.allocN H.zr93) ?_;rintro _ g1 ⟨rfl,k5,e1',zz1⟩;refine RWI.op0 rfl rfl rfl rfl (OpX.storeBlk H.sz93 rfl rfl k5 (by first|rfl|(simp;done)|(simp;omega)) (by first|decide|exact of_decide_eq_true rfl|(simp;done)|(simp;omega)) (sii_one r)) ?_;rintro _ g2 ⟨rfl,k5',e2',zz2⟩;refine RWI.done rfl ?_;have e12:Ext0 g g2:=e1'.only e2' (Nat.le_refl _);have k5':Blk g2 g.size 93 (encSII r):=k5';refine⟨(e12.block _ hlp.lt (fun k=>k)).trans hlp,?_⟩;obtain⟨g3,hg3⟩:∃g3,g3=Lw.putO g2 (h2.size+1) (.loop { r0 with state:=.busy }):=⟨_,rfl⟩
     rw[←hg3];have hlz:=hlp.lt;have hz2:=e12.size;have hz1:=e1.size;have e23:Ext (fun b=>b=h2.size+1) g2 g3:=by rw[hg3];exact Ext.putO _ _ _ rfl
     have hlp3:LoopAt g3 (h2.size+1) { r0 with state:=.busy }:=by rw[LoopAt,hg3];exact putO_same (by omega)
     have hz3:=e23.size;have kS3:=(kS.ext0 e12).ext e23 (show ¬h.size=h2.size+1 by omega);have k53:=k5'.ext e23 (show ¬g.size=h2.size+1 by omega);have hwge:∀b,w.ownBlock=some b→hL.size≤b:=fun b hb=>(OwnH.lt hw hb).1
     have hw3:OwnH g3 hL.size 9 1 w (l.take j).length ((l.take j).map encS):=OwnH.ext e23 (OwE.ext0 hw e12) (fun b hb k=>by have:=hwge b hb;omega);have hjl:(l.take j).length=j:=by rw[List.length_take];omega
     refine RWI.pureS rfl rfl rfl rfl rfl (OpP.load H.ag22 rfl (kS3.cell (i:=0) rfl)) ?_;refine RWI.pureS rfl rfl rfl rfl rfl (OpP.fieldAddr (off:=0) Tryz.underlying93 rfl rfl H.sz9 rfl) ?_;refine RWI.pureS rfl rfl rfl rfl rfl (OpP.load H.ag9 rfl (k53.cell (i:=0) rfl)) ?_;refine RWI.opS rfl rfl rfl rfl rfl (OpX.buildOnes (us:=[_]) Tryz.underlying22 H.el9 rfl rfl (by decide) (by simp[Value.oneCell'])) ?_;rintro _ _ ⟨rfl,rfl⟩;refine RWI.opS rfl rfl rfl rfl rfl (OpX.appendNew Tryz.underlying22 H.el9 rfl rfl (hw3) rfl rfl (by first|decide|simp[Value.oneCell']) (by omega) (by decide) (by omega)) ?_;rintro v4 g4 ⟨ho4,hx4,hx4',hv4⟩;have kS4:=kS3.ext hx4 (fun k=>by have:=hwge _ k.symm;omega);have hz4:=hx4.size;have hw4:OwE encS g4 hL.size 9 v4 (l.take j++[r.1]):=OwE.of (ys:=[r.1]) ho4 rfl rfl rfl;obtain⟨va4,vc4,rfl,_⟩:=ho4.open;refine RWI.op0 rfl rfl rfl rfl (OpX.storeOne H.sz22 rfl rfl kS4 (by first|decide|exact of_decide_eq_true rfl|(simp;done)|(simp;omega)) rfl) ?_;rintro _ g5 ⟨rfl,kS5,e5',zz5⟩;refine RWI.done rfl ?_;have kS5:Blk g5 h.size 22 [.slice va4 ((l.take j).length+1) vc4]:=by simpa using kS5
     have hlp5:LoopAt g5 (h2.size+1) { r0 with state:=.busy }:=(hlp3.ext hx4 (fun k=>by have:=hwge _ k.symm;omega)).ext e5' (show ¬h2.size+1=h.size by omega);have hr2:({ ({ r0 with state:=.busy }:Loop) with state:=.ready,pending:=none }:Loop)=r0:=by cases r0;simp at hst hpn;simp[hst,hpn]
     have hz5:=e5'.size;refine⟨_,hlp5,rfl,?_⟩;rw[hr2];have e56:Ext (fun b=>b=h2.size+1) g5 (Lw.putO g5 (h2.size+1) (.loop r0)):=Ext.putO _ _ _ rfl;have hlz5:=hlp5.lt
     have hblk:∀b,b<hL.size→¬b=h.size→¬b=h2.size+1→b<g.size→(Lw.putO g5 (h2.size+1) (.loop r0))[b]? =g[b]? :=fun b hb n1 n2 hbg=>by
      rw[e56.block b (by omega) n2,e5'.block b (by omega) n1,hx4.block b (by omega) (fun k=>by have:=hwge _ k.symm;omega),e23.block b (by omega) n2,e12.block b hbg (fun k=>k)]
     have hv4ge:∀b,(Value.slice va4 ((l.take j).length+1) vc4).ownBlock=some b→hL.size≤b:=fun b hb=>(OwnH.lt hw4 hb).1
     refine⟨putO_same hlz5,by rw[hblk h2.size (by omega) (by omega) (by omega) (by omega)];exact hdf,⟨by have:=e56.size;have:=ehg.size;omega,fun b hb _=>?_⟩,by have:=e56.size;omega,_,kS5.ext e56 (show ¬h.size=h2.size+1 by omega),?_⟩
     · rw[hblk b (by omega) (by omega) (by omega) (by have:=ehg.size;omega)];exact ehg.block b hb (fun k=>k)
     · rw[List.take_add_one,hlj];exact OwnH.ext e56 (OwnH.ext e5' hw4 (fun b hb k=>by have:=hv4ge b hb;omega)) (fun b hb k=>by have:=hv4ge b hb;omega)
   · refine(all1_calls (l:=h2.size+1) (cap:=h1.size) (n:=kn) (c:=kc) (oa:=oa) (J:=OfJ h h2.size r0 hL.size l) (by omega) (fun j g g' k e=>k.ext0 (hdl j g k) e) hy hJ0 hcapL).mono fun e g hJ=>?_
     obtain⟨u,rfl,hlp,hdf,ehg,hbg,w,kS,hw⟩:=hJ;rw[List.take_of_length_le (by omega)] at hw;refine⟨_,rfl,r0,hlp,by rw[hst];decide,hpn,?_⟩;have hz1:=e1.size;have hlz:=hlp.lt;have e6:Ext (fun b=>b=h2.size+1) g (Lw.putO g (h2.size+1) (.loop { r0 with state:=.exhausted })):=Ext.putO _ _ _ rfl;have kSe:=kS.ext e6 (show ¬h.size=h2.size+1 by omega);have hdfe:=(e6.block h2.size (by omega) (show ¬h2.size=h2.size+1 by omega)).trans hdf;have hwge:∀b,w.ownBlock=some b→hL.size≤b:=fun b hb=>(OwnH.lt hw hb).1
     have hwe:=OwnH.ext e6 hw (fun b hb k=>by have:=hwge b hb;omega);refine GD.blkEnd ?_;refine GD.seq rfl ?_;refine GD.reg Tryz.func22 rfl ?_;refine RWD.pureS rfl rfl rfl rfl (OpP.load H.ag22 rfl (kSe.cell (i:=0) rfl)) ?_;refine RWD.pureS rfl rfl rfl rfl (OpP.assign rfl) ?_;refine RWD.done rfl ?_;refine GD.sub (ρ':=[(0,_),(2,_),(3,_),(11,_),(15,_)]) ⟨rfl,rfl,rfl,rfl,rfl,trivial⟩ ?_;refine GD.retMark Tryz.func22 rfl hdfe rfl ?_;have e7:Ext (fun b=>b=h2.size) (Lw.putO g (h2.size+1) (.loop { r0 with state:=.exhausted })) (Lw.putO (Lw.putO g (h2.size+1) (.loop { r0 with state:=.exhausted })) h2.size (.deferred none)):=Ext.putO _ _ _ rfl;have hz6:=e6.size;have hz7:=e7.size;refine⟨_,rfl,OwE.read (h1:=fun _=>rfl) (show OwE encS _ hL.size 9 w l from OwnH.ext e7 hwe (fun b hb k=>by have:=hwge b hb;omega)) (fun _ _ k=>k),⟨by have:=ehg.size;omega,fun b hb _=>?_⟩⟩;rw[e7.block b (by have:=ehg.size;omega) (by omega),e6.block b (by have:=ehg.size;omega) (by omega)];exact ehg.block b hb (fun k=>k)
def lexD (m:Int):Tab:=match dmadeP (rulesM m) with|.inr d=>d|.inl _=>⟨[],[]⟩
theorem lex_made (m:Nat) (hm:m<3):∃ss st,makeP (rulesM m)= .inr (ss,st)∧dmadeP (rulesM m)= .inr (lexD m)∧dmakeP ss st= .inr (lexD m)∧(∀l,lexM m l=matchP ss st l)∧∀l,(dmatchG (lexD m) l 0 0 (0,-1)).2.2≤(lexM m l).1+2:=by
 have key:∀{ss:List Ste}{st:Nat},makeP (rulesM m)= .inr (ss,st)→(∀l,lexM m l=matchP ss st l)→(∃d,dmakeP ss st= .inr d∧(∀l,(dmatchG d l 0 0 (0,-1)).2.2≤(matchP ss st l).1+2)∧∀l x:By,(matchP ss st l).1+2<l.length→matchP ss st (l++x)=matchP ss st l)→∃ss st,makeP (rulesM m)= .inr (ss,st)∧dmadeP (rulesM m)= .inr (lexD m)∧dmakeP ss st= .inr (lexD m)∧(∀l,lexM m l=matchP ss st l)∧∀l,(dmatchG (lexD m) l 0 0 (0,-1)).2.2≤(lexM m l).1+2:=by
  intro ss st h1 h2 ⟨d,h3,h4,_⟩;have h5:dmadeP (rulesM m)= .inr d:=by unfold dmadeP;rw[h1];exact h3
  have h6:lexD m=d:=by unfold lexD;rw[h5]
  rw[h6];exact⟨ss,st,h1,h5,h3,h2,fun l=>by rw[h2];exact h4 l⟩
 match m,hm with
 | 0,_=>exact key mk0 (fun l=>rfl) (mode_more mk0 chkR0 chkA0 chkS0 ht_size.1)
 | 1,_=>exact key mk1 (fun l=>rfl) (mode_more mk1 chkR1 chkA1 chkS1 ht_size.2.1)
 | 2,_=>exact key mk2 (fun l=>rfl) (mode_more mk2 chkR2 chkA2 chkS2 ht_size.2.2)
def eDp:Elt Tab:=⟨1,by decide,fun h O cs d=>∃db,cs=[.pointer (some ⟨db,0,none⟩)]∧TabRdO h O db d,fun h=>by obtain⟨db,rfl,_⟩:=h;rfl,fun h=>by
 obtain⟨db,rfl,_⟩:=h;intro u hu;simp at hu;subst hu;rfl,fun h m=>by
 obtain⟨db,hc,hv⟩:=h;exact⟨db,hc,hv.mv m⟩⟩
def lexTs (k:Nat):List Tab:=([0,1,2].take k).map fun m:Int=>minP (lexD m)
theorem lexTs_next (k:Nat) (hk:k<3):lexTs (k+1)=lexTs k++[minP (lexD k)]∧(lexTs k).length=k:=by
 match k,hk with
 | 0,_=>exact⟨rfl,rfl⟩
 | 1,_=>exact⟨rfl,rfl⟩
 | 2,_=>exact⟨rfl,rfl⟩
def LexAt (h:Heap) (p:Value):Prop:=∃lb vm,p= .pointer (some ⟨lb,0,none⟩)∧Blk h lb 52 [vm]∧SlR eDp h (fun _=>False) vm (lexTs 3)
theorem LexAt.ext0 {h h':Heap}{p:Value}(k:LexAt h p) (e:Ext0 h h'):LexAt h' p:=by
 obtain⟨lb,vm,h1,h2,h3⟩:=k;exact⟨lb,vm,h1,h2.ext0 e,h3.mv (Mv.ext0 e)⟩
theorem new_calls {lim:Nat}(hg:Sg h lim) (hlim:lim≤h.size) (htens:Tens h) (hR:RulesAt h) :
 CallsH Tryz.prog 12 #[] h (Ret fun r h'=>LexAt h' r∧Ext0 h h'):=by
 refine CallsH.of Tryz.func12 rfl rfl ?_;refine xrd Tryz.func12 1 [0] rfl ?_;refine xr Tryz.func12 rfl ?_;refine xp rfl (OpP.build (H.bd52_ ) rfl) ?_;refine xo rfl (OpX.boxN rfl) ?_;rintro _ h1 ⟨rfl,k1,e1,z1⟩;have k1:Blk h1 h.size 52 [.slice none 0 0]:=k1;refine xqd 1 [0,1] rfl ?_;refine G.seq rfl ?_;refine xrd Tryz.func12 1 [0,1,2] rfl ?_;refine G.block rfl rfl ?_;refine G.loop (σ:=Nat×Value) (fun q=>[(1,.pointer (some ⟨h.size,0,none⟩)),(2,.int .i64 (q.1:Nat))]) (fun q h'=>q.1≤3∧Ext0 h h'∧Blk h' h.size 52 [q.2]∧OwX eDp (fun b=>b=h.size) h' h1.size 58 q.2 (lexTs q.1)∧h1.size≤h'.size) (fun q=>3-q.1) ((0,.slice none 0 0)) rfl ⟨rfl,rfl,trivial⟩ ⟨by decide,e1,k1,OwX.nil _ _ _ _ _,Nat.le_refl _⟩ ?_;rintro⟨m,vm⟩ g ⟨hm,eg,kb,hx,hz⟩ ih
 try dsimp only
 dsimp only at hm kb hx;refine G.seq rfl ?_;refine xrd Tryz.func12 2 [1,2,10] rfl ?_;refine G.ite rfl rfl (fun hlt=>?_) (fun hlt=>?_)
 · have hm3:m<3:=by omega
   obtain⟨ss,st,hmk,hdm,hdk,_⟩:=lex_made m hm3;obtain⟨hnext,hlen⟩:=lexTs_next m hm3;have hok:=dmadeP_ok hdm;have hM:=makeP_made hmk;have hb:=made_bounds hM
   have hrl:∀s∈rulesM m,s.length≤1000000:=by
    have:m=0∨m=1∨m=2:=by omega
    rcases this with rfl|rfl|rfl
    · exact of_decide_eq_true rfl
    · exact of_decide_eq_true rfl
    · exact of_decide_eq_true rfl
   refine G.skip rfl ?_;refine G.seq rfl ?_;refine G.block rfl rfl ?_;refine xra Tryz.func12 1 rfl ?_;refine xo rfl (OpX.call (vs:=[_]) Tryz.func22 rfl H.nm22 rfl (CallsH.toX (rof_calls (hR.ext0 eg) m hm3))) ?_;rintro _ g1 ⟨hr1,f1⟩;have eg1:=eg.trans f1;refine xo rfl (OpX.call (vs:=[_]) Tryz.func21 rfl H.nm21 rfl (CallsH.toX (make_made (hg.ext eg1 (fun _ k=>k.elim)) (by have:=eg1.size;omega) hr1 hrl))) ?_;rintro _ g2 ⟨⟨p,rfl,hp⟩,f2⟩
   have hp:∃(O:Nat→Prop) (nb:Nat) (v:Value),p= .pointer (some ⟨nb,0,none⟩)∧NfaAt g2 O nb v ss st:=by
    rcases hp with ⟨e,he,_⟩|⟨O,nb,v,ss',st',hp,hn,hm'⟩
    · rw[hmk] at he;cases he
    · rw[hmk] at hm';cases hm';exact⟨O,nb,v,hp,hn⟩
   obtain⟨O,nb,v,rfl,hn⟩:=hp;have eg2:=eg1.trans f2;refine xqd 5 [1,2,3,10] rfl ?_;refine xra Tryz.func12 1 rfl ?_;refine xo rfl (OpX.call (vs:=[_]) Tryz.func23 rfl H.nm23 rfl (CallsH.toX (dmake_calls (htens.ext0 eg2) hn hM.good hM.len hM.stl hb.2.1 hb.2.2))) ?_;rintro r3 g3 ⟨hr3,f3⟩;unfold MakeRes at hr3;rw[hdk] at hr3;obtain⟨db,rfl,hk⟩:=hr3;have eg3:=eg2.trans f3;have f03:=(f1.trans f2).trans f3;have zz:=f03.size;have kb3:=kb.ext0 f03;have hx3:=hx.ext0 f03;obtain⟨css3,_,hw3,_⟩:=id hx3;have vge:∀b,vm.ownBlock=some b→h1.size≤b∧b<g3.size:=fun b hb=>hw3.lt hb
   have hkM:¬(but vm.ownBlock h.size∨Array.size g3≤h.size):=by
    rintro(k|k)
    · have:=(vge _ k.symm).1;omega
    · omega
   refine xqd 5 [1,2,3,5,10] rfl ?_;refine G.draw (fun b=>but vm.ownBlock b∨Array.size g3≤b) (fun i=>Nat.blt i 11) (sz:=12) (listed:= #[false,false,false,false,false,false,false,false,false,false,false,false]) Tryz.func12 H.mixed rfl rfl rfl ?_;refine xtq 0 1 (by kernel_rfl) rfl ?_;refine xtq 1 3 (by kernel_rfl) rfl ?_;refine xtq 2 7 (by kernel_rfl) rfl ?_;refine xtp 3 15 (by kernel_rfl) rfl (fun h' e=>OpP.fieldAddr (off:=0) Tryz.underlying52 rfl rfl H.sz50 rfl) ?_;refine xtp 4 31 (by kernel_rfl) rfl (fun h' e=>OpP.load H.ag50 rfl (e.cell hkM (kb3.cell (i:=0) rfl))) ?_;refine xtq 5 63 (by kernel_rfl) rfl ?_;refine xto 6 127 (by kernel_rfl) rfl (OpX.call (vs:=[_]) Tryz.func24 rfl H.nm24 rfl (CallsH.toX (dmin_new (htens.ext0 eg3) hk hok.1 hok.2))) ?_;rintro r4 g4 ⟨⟨b4,rfl,hk4⟩,f4⟩;refine⟨fun _=>f4.mono (fun _ _ k=>k.elim),?_⟩;have hx4:=hx3.ext0 f4;have kb4:=kb3.ext0 f4;have z4:=f4.size;obtain⟨css,hc1,hc2,hc3⟩:=id hx4;rw[hlen] at hc2;refine xto 7 255 (by kernel_rfl) rfl (OpX.buildOnes (us:=[_]) Tryz.underlying50 H.el58 rfl rfl (by decide) (by simp[Value.oneCell'])) ?_;rintro _ _ ⟨rfl,rfl⟩;refine⟨fun _=>by first|exact Ext.push _ _ _|assumption,?_⟩;refine xto 8 511 (by kernel_rfl) rfl (OpX.appendNew Tryz.underlying50 H.el58 rfl rfl (hc2) rfl rfl (by first|decide|simp[Value.oneCell']) (by omega) (by decide) (by omega)) ?_;rintro v5 g5 ⟨ho5,hx5,hx5',hv5⟩;refine⟨fun _=>hx5'.mono (fun _ _ k=>.inl k),?_⟩
   have hnew:TabRdO g4 (fun b=>but vm.ownBlock b∨b=h.size) b4 (minP (lexD m)):=hk4.mv ⟨Nat.le_refl _,fun b _ hn=>⟨rfl,fun k=>hn (by
    rcases k with k|k
    · exact(vge _ k.symm).2
    · omega)⟩⟩
   have hx5w:=OwX.pushed (e:=eDp) (h:=g4) (v:=vm) (css:=css) (cs:=[.pointer (some ⟨b4,0,none⟩)]) (y:=minP (lexD m)) (O:=fun b=>b=h.size) hc1 hc3 (by rw[hlen];exact ho5) hx5 hv5 ⟨b4,rfl,hnew⟩;obtain⟨va5,vc5,rfl,_⟩:=ho5.open;have z5:=hx5.size;have kb5:=kb4.ext hx5 (fun k=>by have:=(vge _ k.symm).1;omega);have v5ge:∀b,(Value.slice va5 (m+1) vc5).ownBlock=some b→h1.size≤b:=fun b hb=>(ho5.lt hb).1
   refine xto 9 1023 (by kernel_rfl) rfl (OpP.toX (OpP.nilCheck rfl)) ?_;rintro _ hq_ ⟨rfl,hqe_⟩;replace hqe_:=hqe_.symm;subst hqe_;refine⟨fun _=>Ext.refl _ _,?_⟩;refine xtp 10 2047 (by kernel_rfl) rfl (fun h' e=>OpP.fieldAddr (off:=0) Tryz.underlying52 rfl rfl H.sz50 rfl) ?_;refine xt0 11 4095 (by kernel_rfl) rfl (OpX.storeOne H.sz50 rfl rfl kb5 (by first|decide|exact of_decide_eq_true rfl|(simp;done)|(simp;omega)) rfl) ?_;rintro _ g6 ⟨rfl,kb6,x6,z6⟩;refine⟨fun hk=>(nomatch hk),?_⟩;have kb6:Blk g6 h.size 52 [.slice va5 (m+1) vc5]:=by simpa using kb6
   have hx6:=hx5w.mv2 (O':=fun b=>b=h.size) x6 (fun b hb k=>by have:=v5ge b hb;omega) (fun b _ k=>k) (fun b _ k=>k)
   have eg6:Ext0 h g6:=⟨by have:=x6.size;omega,fun b hb _=>by
    rw[x6.block b (by omega) (by omega),hx5.block b (by omega) (fun k=>by have:=(vge _ k.symm).1;omega),f4.block b (by omega) (fun k=>k)];exact eg3.block b hb (fun k=>k)⟩
   refine RD.done (by kernel_rfl) ?_;refine xu [1,2,3,5,10] rfl ?_;refine G.blkEnd ?_;refine G.reg Tryz.func12 rfl ?_;refine xqp 1 rfl rfl (OpP.add64 rfl rfl ⟨by omega,by omega⟩) ?_;refine xqd 1 [1,2,3,5,10] rfl ?_;exact ih (m+1,_) _ _ ⟨rfl,rfl,trivial⟩ ⟨by show m+1≤3;omega,eg6,kb6,by show OwX eDp _ g6 h1.size _ _ (lexTs (m+1));rw[hnext];exact hx6,by have:=x6.size;omega⟩ (by show 3-(m+1)<3-m;omega)
 · obtain rfl:m=3:=by omega
   refine G.exit rfl rfl ?_;refine xrd Tryz.func12 2 [0,1,2,10] rfl ?_;refine G.ret Tryz.func12 rfl rfl ?_;exact⟨_,rfl,⟨h.size,vm,rfl,kb,hx.read2 (fun b hb k=>k) (fun b _ k=>k.elim)⟩,eg⟩
end
end Go.Proofs.YtfegacfjgjaghaaGreatDoor
