/- What the proof of the statement leans on (part 23). -/
import Derived.Deep.Fields
import Derived.OpenShut
import Derived.Test.YtedocgkapmeceaaGreatDoorQv

namespace Go.Lw
open Go.ChangeShapes Go.WideShapes Go.ChangeAt Go.RowKit
variable {H:Type}{enc:TypeId×Value→H}{P:Program}
theorem Bb {α:Type}{n:Nat}{p:Nat→α→Prop}(h:∀i,i<n→∃x,p i x):∃l:List α,l.length=n∧∀i x,l[i]? =some x→p i x:=by
 induction n with
 |zero=>exact⟨[],rfl,fun i x hx=>by simp at hx⟩
 |succ n ih =>
  obtain⟨l,hl,hp⟩:=ih (fun i hi=>h i (by omega));obtain⟨x,hx⟩:=h n (by omega);refine⟨l++[x],by simp[hl],fun i y hy=>?_⟩
  rcases Nat.lt_or_ge i n with hi|hi
  · rw[List.getElem?_append_left (by omega)] at hy;exact hp i y hy
  · rw[List.getElem?_append_right (by omega),hl] at hy
    have:i=n:=by
     rcases Nat.lt_or_ge (i-n) 1 with h1|h1
     · omega
     · rw[List.getElem?_eq_none (by simpa using h1)] at hy;cases hy
    subst this;simp at hy;subst hy;exact hx
theorem DS {α:Type}{sz:Nat}{pos:0<sz}{en:α→List Value} {hl:∀x,(en x).length=sz} {h1:∀x,∀v∈en x,v.oneCell'=true}{Q:α→Prop}
 {W:World}{base:Nat}{t e:TypeId}{fs:Array Field}{v:Value}{d:DataW H}{p:List MemPlace}(ht:P.underlying t=some (.slice e)) (he:P.underlying e=some (.struct fs))
 (hone:∀(i:Nat) (f:Field),fs[i]? =some f→f.offset=i∧P.cellsOf f.type=1) (hC:P.cellsOf e=sz) (hn:fs.size=sz)
 (rd:∀(cs:List Value) (n:Nat),cs.length=sz→(∀(i:Nat) (f:Field) (u:Value),fs[i]? =some f→cs[i]? =some u→∃y,DataW.trod enc P W 0 (fun _=>true) true n f.type [u]=some y)→∃x:α,cs=en x∧Q x)
 (hv:Value.okWide P W .any base t v) (h:DataW.Trod enc P W 0 (fun _=>true) true t v d p):∃l:List α,bU (.record sz pos en hl h1) W.heap (fun _=>False) v l∧∀x∈l,Q x:=by
 obtain⟨a0,len,cap,rfl⟩:=okWide_slice ht hv;obtain⟨fuel,hf⟩:=h
 rcases Deep.open_slice ht hf with ⟨hcs,hx⟩|⟨a,len',cap',m,n,D,Pl,hcs,_,hle,hm,hmm,hx,hel⟩
 · simp[Value.cells] at hcs;obtain⟨rfl,rfl,rfl⟩:=hcs;exact⟨[],bU.nil _ _ _,by simp⟩
 · simp[Value.cells] at hcs;obtain⟨rfl,rfl,rfl⟩:=hcs;simp only[if_true] at hmm;subst hmm
   have hspot0:0<len→a.spot=none:=fun h0=>by
    obtain⟨cs',hc1,hc2⟩:=hel 0 (by omega);rw[hC] at hc1;obtain⟨_,hlen,hcell⟩:=World.cells?_some hc1;have h0:=hcell 0 (by omega);rw[List.getElem?_eq_getElem (by omega)] at h0;simpa [Addr.add] using World.cell?_spot h0
   obtain⟨l,hll,hlp⟩:=Bb (n:=len) (p:=fun i (x:α)=>(∃b o,a=⟨b,o,none⟩∧rowAt W.heap b (o+i*sz) (en x))∧Q x) (fun i hi=>by
    obtain⟨cs',hc1,hc2⟩:=hel i (by omega);rw[hC] at hc1;obtain⟨_,hlen,hcell⟩:=World.cells?_some hc1;obtain⟨xs,k,_,_,_,hxl,hfl⟩:=DataW.trod_struct he hc2
    obtain⟨x,hxe,hQ⟩:=rd cs' k hlen (fun j f u hj hu=>by
     have g:=hfl j f hj;obtain⟨ho,hc⟩:=hone j f hj;have hjs:j<fs.size:=(Array.getElem?_eq_some_iff.1 hj).1
     have hd:(cs'.drop f.offset).take (P.cellsOf f.type)=[u]:=by
      rw[ho,hc,List.drop_eq_getElem_cons (by omega)];have:cs'[j]=u:=by rw[List.getElem?_eq_getElem (by omega)] at hu;exact Option.some.inj hu
      simp[this]
     rw[hd,List.getElem?_eq_getElem (by omega)] at g;exact⟨_,g⟩)
    refine⟨x,?_,hQ⟩;obtain⟨b,o,spot⟩:=a;have hspot:spot=none:=hspot0 (by omega);subst hspot;refine⟨b,o,rfl,fun j u hj=>?_⟩
    have hjl:j<sz:=by
     rcases Nat.lt_or_ge j sz with h2|h2
     · exact h2
     · rw[List.getElem?_eq_none (by rw[hl];exact h2)] at hj;cases hj
    have:=hcell j hjl;rw[Deep.add_add,Addr.add_mid,dG,hxe,hj] at this;rw[Nat.add_assoc];exact this)
   refine⟨l,⟨some a,len,_,rfl,hll,hle,hm,fun i x hx=>?_⟩,fun x hx=>?_⟩
   · obtain⟨⟨b,o,ha,hr⟩,_⟩:=hlp i x hx;exact⟨b,o,en x,by rw[ha],fun k=>k,hr,rfl⟩
   · obtain⟨i,hi⟩:=List.getElem?_of_mem hx;exact(hlp i x hi).2
end Go.Lw
namespace Go.Lw
open Go.ChangeShapes Go.WideShapes Go.ChangeAt Go.RowKit
section
variable {W:World}{fuel:Nat}{sp:Nat→Bool}{held:Bool}{t:TypeId}{cs:List Value}{pl:List MemPlace}
variable {H:Type}{enc:TypeId×Value→H}{P:Program}
theorem pK {base:Nat}{l:List UInt8}(ht:P.underlying t=some .string)
 (h:DataW.trod enc P W base sp held fuel t cs=some (.lit (.string l),pl)):cs=[.string ⟨l.toArray⟩]:=by
 cases fuel with
 |zero=>simp[DataW.trod] at h
 |succ n =>
  rw[DataW.trod_step] at h;unfold DataW.trodStep at h;rw[ht] at h;split at h<;>try (first|cases h|(simp at *;done))
  rename_i s _ _;split at h
  · simp only[Option.some.injEq,Prod.mk.injEq,DataW.lit.injEq,Lit.string.injEq] at h;rw[←h.1]
  · cases h
theorem iK {base:Nat}{k k':IntKind}{i:Int}(ht:P.underlying t=some (.int k))
 (h:DataW.trod enc P W base sp held fuel t cs=some (.lit (.int k' i),pl)):cs=[.int k i]:=by
 cases fuel with
 |zero=>simp[DataW.trod] at h
 |succ n =>
  rw[DataW.trod_step] at h;unfold DataW.trodStep at h;rw[ht] at h;split at h<;>simp_all
def fc (r:List UInt8×Int×Int):List Value:=[.string ⟨r.1.toArray⟩,.int .i64 r.2.1,.int .i64 r.2.2]
def Jd:gG (List UInt8×Int×Int):=.record 3 (by decide) fc (fun _=>rfl) (fun x v hv=>by simp[fc] at hv;rcases hv with rfl|rfl|rfl<;>rfl)
def ia (r:List UInt8×Int×Int):DataW H:=.agg [.lit (.string r.1),.lit (.int .i64 r.2.1),.lit (.int .i64 r.2.2)]
theorem Ee {e:TypeId}{f0 f1 f2:Field}{L:List (List UInt8×Int×Int)}{rest:List (DataW H)}
 (ht:P.underlying t=some (.slice e)) (he:P.underlying e=some (.struct #[f0,f1,f2])) (hC:P.cellsOf e=3)
 (o0:f0.offset=0) (o1:f1.offset=1) (o2:f2.offset=2) (t0:P.underlying f0.type=some .string) (t1:P.underlying f1.type=some (.int .i64)) (t2:P.underlying f2.type=some (.int .i64)) (c0:P.cellsOf f0.type=1) (c1:P.cellsOf f1.type=1) (c2:P.cellsOf f2.type=1)
 (h:DataW.trod enc P W 0 sp held fuel t cs=some (.slice (L.map ia) rest,pl)):∃v,cs=[v]∧bU Jd W.heap (fun _=>False) v L:=by
 rcases Deep.open_slice ht h with ⟨_,hx⟩|⟨a,len,cap,m,n,D,Pl,rfl,_,hle,hm,hmm,hx,hel⟩
 · simp at hx
 · simp only[Prod.mk.injEq,DataW.slice.injEq] at hx;have hlen:L.length=len:=by have:=congrArg List.length hx.1.1;simpa using this
   have hlm:len≤m:=by rw[hmm];split<;>omega
   have hD:∀(i:Nat) (r:List UInt8×Int×Int),L[i]? =some r→D i=ia r:=fun i r hr=>by
    have hil:i<len:=by rw[←hlen];exact(List.getElem?_eq_some_iff.1 hr).1
    have:=congrArg (fun z=>z[i]?) hx.1.1;simp only[List.getElem?_map,hr,Option.map_some,List.getElem?_range hil,Option.some.injEq] at this;exact this.symm
   refine⟨_,rfl,some a,len,cap,rfl,hlen,hle,hm,fun i r hr=>?_⟩;have hil:i<len:=by rw[←hlen];exact(List.getElem?_eq_some_iff.1 hr).1
   obtain⟨cs',hc1,hc2⟩:=hel i (by omega);rw[hC] at hc1;rw[hD i r hr] at hc2;obtain⟨_,hcl,hcell⟩:=World.cells?_some hc1;obtain⟨xs,k,_,hxe,_,hxl,hfl⟩:=DataW.trod_struct he hc2;simp only[Prod.mk.injEq,ia,DataW.agg.injEq] at hxe;have hx3:xs.length=3:=hxl
   match cs',hcl,xs,hx3 with
   | [u0,u1,u2],_,[x0,x1,x2],_ =>
    have g0:=hfl 0 f0 rfl;have g1:=hfl 1 f1 rfl;have g2:=hfl 2 f2 rfl;rw[o0,c0] at g0;rw[o1,c1] at g1;rw[o2,c2] at g2;simp only[List.map_cons,List.map_nil,List.cons.injEq,and_true] at hxe;obtain⟨⟨e0,e1,e2⟩,_⟩:=hxe;have q0:[u0]=[.string ⟨r.1.toArray⟩]:=pK t0 (pl:=x0.2) (by rw[e0];exact g0);have q1:[u1]=[.int .i64 r.2.1]:=iK t1 (pl:=x1.2) (k':=.i64) (by rw[e1];exact g1);have q2:[u2]=[.int .i64 r.2.2]:=iK t2 (pl:=x2.2) (k':=.i64) (by rw[e2];exact g2);simp only[List.cons.injEq,and_true] at q0 q1 q2;subst q0;subst q1;subst q2;obtain⟨cs0,hc0,_⟩:=hel 0 (by omega);rw[hC] at hc0;obtain⟨_,hcl0,hcell0⟩:=World.cells?_some hc0;have hs0:=hcell0 0 (by omega);rw[List.getElem?_eq_getElem (by omega)] at hs0;have hspot:a.spot=none:=by simpa [Addr.add] using World.cell?_spot hs0
    obtain⟨b,o,spot⟩:=a;have hspot:spot=none:=hspot;subst hspot;refine⟨b,o,fc r,rfl,fun k=>k,fun j u hj=>?_,rfl⟩
    have hjl:j<3:=by
     rcases Nat.lt_or_ge j 3 with h2|h2
     · exact h2
     · rw[List.getElem?_eq_none (by simpa [fc] using h2)] at hj;cases hj
    have:=hcell j hjl;rw[Deep.add_add,Addr.add_mid,dG] at this
    show cellAt W.heap ⟨b,o+i*3+j,none⟩=some u
    rw[Nat.add_assoc,this];exact hj
end
end Go.Lw
namespace Go.Proofs.YtedocgkapmeceaaGreatDoor
open Go.Proofs.Tryz
open Go Go.Lw
set_option maxRecDepth 20000
section
variable {h:aD}
def gN (m:Int):List By:=if m=0 then BU else if m=1 then BT else if m=2 then BS else []
def oA (m:Int):List (By×Int×Int):=List.zipWith (fun r k=>(r,k.1,k.2)) (gN m) (uL m)
def lR (h:aD):Prop:=∀m:Nat,m<3→∃v,cellAt h ⟨0,m,none⟩=some v∧bU Jd h (fun _=>False) v (oA m)
theorem lR.ax {h h':aD}(k:lR h) (e:aF h h'):lR h':=fun m hm=>by
 obtain⟨v,h1,h2⟩:=k m hm;exact⟨v,e.cell (fun k=>k) h1,h2.mv (Mv.ax e)⟩
theorem EX (m:Nat) (hm:m<3):(oA m).length≤10∧(oA m).map (·.1)=gN m:=by
 match m,hm with
 | 0,_=>exact⟨by decide,by decide⟩
 | 1,_=>exact⟨by decide,by decide⟩
 | 2,_=>exact⟨by decide,by decide⟩
theorem pP (r:By×Int×Int):∀v∈fc r,v.oneCell'=true:=fun v hv=>by simp[fc] at hv;rcases hv with rfl|rfl|rfl<;>rfl
theorem Cx {l cap:Nat}{oa:Option Addr}{n c:Nat}{J:Nat→aD→Prop}(hn:n≤1000000) (hmono:∀j h g,J j h→aF h g→J j g)
 (hy:∀j h,J j h→j<n→∃(b o:Nat) (r:By×Int×Int),oa=some ⟨b,o,none⟩∧Lw.rowAt h b (o+j*3) (fc r) ∧
  ∀g,J j g→lO Tryz.prog l #[.int .i64 (j:Nat),.agg (fc r).toArray] g (cL fun r h'=>r= .bool true∧J (j+1) h')) (h0:J 0 h) (hread:cellAt h ⟨cap,0,none⟩=some (.slice oa n c)) :
 ai Tryz.prog 112 #[.func (.yield l) #[] #[],.pointer (some ⟨cap,0,none⟩)] h (cL fun _ h'=>J n h'):=by
 refine ai.of func112 rfl rfl ?_;refine xr func112 rfl ?_;refine xp rfl (ah H.Dj rfl hread) ?_;refine xp rfl (aj.aJ underlying136 rfl) ?_;refine aQ 1 [0,1,5,6,7] rfl ?_;refine G.block rfl rfl ?_;refine bE (σ:=Nat) (fun j=>[(0,.func (.yield l) #[] #[]),(1,.pointer (some ⟨cap,0,none⟩)),(5,.slice oa n c),(6,.int .i64 (n:Nat)),(7,.int .i64 (j:Nat))]) (fun j h'=>J j h'∧j≤n) (fun j=>n-j) (0) rfl ⟨rfl,rfl,rfl,rfl,rfl,trivial⟩ ⟨h0,Nat.zero_le _⟩ ?_;rintro j h1 ⟨hJ,hj⟩ ih;refine aW func112 1 [0,1,5,6,7,8] rfl ?_;refine av rfl ?_;refine aL rfl rfl (fun hlt=>?_) (fun hlt=>?_)
 · obtain⟨b,o,r,ha,hrow,hyy⟩:=hy j h1 hJ (by omega);refine aE rfl ?_;refine av rfl ?_;refine G.block rfl rfl ?_;refine br func112 1 rfl ?_;refine xp rfl (aj.ay underlying136 H.ke rfl rfl j rfl ha (by omega)) ?_;refine xp rfl (aj.aG H.Bm H.ke rfl hrow (by first|rfl|(simp;done)|(simp;omega))) ?_;refine xo rfl (aC.aR H.zw) ?_;rintro _ g1 ⟨rfl,k1,e1,z1⟩;refine aT 1 rfl ?_;refine RW.bZ rfl rfl rfl (aC.aB H.ke rfl rfl k1 (by first|rfl|(simp;done)|(simp;omega)) (by first|decide|exact of_decide_eq_true rfl|(simp;done)|(simp;omega)) (pP r)) ?_;rintro _ g2 ⟨rfl,k2,x2,z2⟩;refine xd [0,1,3,4,5,6,7,8] rfl ?_;refine av rfl ?_;have e12:aF h1 g2:=e1.only x2 (Nat.le_refl _);have k2:bq g2 h1.size 138 (fc r):=k2;refine G.JM func112 rfl ?_;refine gF.au rfl rfl rfl rfl rfl (aK rfl) ?_;refine gF.au rfl rfl rfl rfl rfl (aK rfl) ?_;refine gF.au rfl rfl rfl rfl rfl (aj.aG H.Bm H.ke rfl k2.row (by first|rfl|(simp;done)|(simp;omega))) ?_;refine xM (vs:=[_,_]) rfl rfl rfl rfl rfl rfl rfl ((hyy g2 (hmono _ _ _ hJ e12))) ?_;rintro _ h2 ⟨rfl,hJ2⟩;refine gF.au rfl rfl rfl rfl rfl (aj.Hf rfl) ?_;refine kP rfl ?_;refine xu [0,1,3,4,5,6,7,8,16] rfl ?_;refine aI rfl rfl (fun hc=>absurd hc (by decide)) (fun _=>?_);refine aE rfl ?_;refine G.aN ?_;refine G.bT func112 rfl ?_;refine xp rfl (aj.bA rfl rfl ⟨by omega,by omega⟩) ?_;refine aQ 1 [0,1,3,4,5,6,7,8,16] rfl ?_;exact ih (j+1) _ _ ⟨rfl,rfl,rfl,rfl,rfl,trivial⟩ ⟨hJ2,by omega⟩ (by omega)
 · obtain rfl:j=n:=by omega
   refine bz rfl rfl ?_;refine G.u6 func112 rfl ?_;exact⟨_,rfl,hJ⟩
theorem EA (v:Value) (hv:v.oneCell'=true):ai Tryz.prog 65 #[v] h (cL fun r h'=>r= .func (.func 112) #[] #[.pointer (some ⟨h.size,0,none⟩)]∧h'=h.push (.cells #[v] 136)):=by
 have hcells:v.cells= #[v]:=by cases v<;>simp[Value.oneCell'] at hv<;>rfl
 refine ai.of func65 rfl rfl ?_;refine xr func65 rfl ?_;refine xo rfl (zi rfl) ?_;rintro _ _ ⟨rfl,rfl⟩;refine aQ 1 [0,1,2] rfl ?_;refine xr func65 rfl ?_;refine xp rfl (iP (vs:=[_]) rfl) ?_;refine aQ 1 [0,1,2] rfl ?_;refine G.ret func65 rfl rfl ?_;exact⟨_,rfl,rfl,by rw[hcells]⟩
abbrev lG (s:By):Value:=.string (bs s)
def HT (h:aD) (d:Nat) (r0:Loop) (base:Nat) (l:List By) (j:Nat) (g:aD):Prop :=
 eu g (d+1) r0∧g[d]? =some (.deferred (some []))∧aF h g∧base≤g.size∧∃w,bq g h.size 93 [w]∧cK lG g base 9 w (l.take j)
theorem HT.ax {h:aD}{d:Nat}{r0:Loop}{base:Nat}{l:List By}{j:Nat}{g g':aD}(k:HT h d r0 base l j g) (hd:d<g.size) (e:aF g g'):HT h d r0 base l j g':=by
 obtain⟨h1,h2,h3,h4,w,h5,h6⟩:=k;exact⟨h1.ext e (fun k=>k),(e.block d hd (fun k=>k)).trans h2,h3.trans e,by have:=e.size;omega,w,h5.ax e,cK.ax h6 e⟩
theorem DR (hR:lR h) (m:Nat) (hm:m<3) :
 ai Tryz.prog 39 #[.int .i64 (m:Nat)] h (cL fun r h'=>bU mV h' (fun _=>False) r (gN m)∧aF h h'):=by
 obtain⟨htl,htm⟩:=EX m hm;generalize hL0:gN (m:Int)=l at *;generalize htb:oA (m:Int)=tb at *;have hll:l.length=tb.length:=by rw[←htm];simp
 refine ai.of func39 rfl rfl ?_;refine aW func39 1 [0,2] rfl ?_;refine av rfl ?_;refine av rfl ?_;refine G.bD [(11,.bool false)] [(0,_),(2,_)] ⟨rfl,rfl,trivial⟩ func39 rfl ?_ ?_
 · refine aT 3 rfl ?_;refine RW.cW (d:=8) (b':=false) rfl ((by simp)) ?_;refine aT 3 rfl ?_;refine az rfl ?_;exact⟨rfl,aA rfl (by simp;omega),rfl,rfl,trivial⟩
 · refine aI rfl rfl (fun hc=>absurd hc (by decide)) (fun _=>?_);refine aE rfl ?_;refine xr func39 rfl ?_;refine xo rfl (aC.aR H.Lf) ?_;rintro _ h1 ⟨rfl,k3,e1,z1⟩;have k3:bq h1 h.size 93 [.slice none 0 0]:=k3;obtain⟨v,hv,hsl⟩:=hR m hm;rw[htb] at hsl;have hsl1:=hsl.mv (Mv.ax e1);obtain⟨oa,kn,kc,rfl,hsl2⟩:=hsl1.open;have hkn:=hsl2.len;have hv1:cellAt h1 ⟨0,0+m*1,none⟩=some (.slice oa kn kc):=by rw[Nat.mul_one,Nat.zero_add];exact e1.cell (fun k=>k) hv
   refine xd [0,2,3,11] rfl ?_;refine av rfl ?_;refine br func39 1 rfl ?_;refine xp rfl (aj.cM underlying139 H.E3 rfl rfl m rfl (by omega)) ?_;refine xp rfl (ah H.Dj rfl hv1) ?_;refine xo rfl (aq (vs:=[_]) func65 rfl H.LL rfl (ai.bw (EA (.slice oa kn kc) rfl))) ?_;rintro _ h2 ⟨rfl,hh2⟩;have e2:aF h1 h2:=by rw[hh2];exact Ext.push _ _ _
   have kc2b:bq h2 h1.size 136 [.slice oa kn kc]:=by rw[hh2];exact Dr _ _ _
   have kc2:cellAt h2 ⟨h1.size,0,none⟩=some (.slice oa kn kc):=kc2b.cell (i:=0) rfl;have z2:h2.size=h1.size+1:=by rw[hh2];simp
   clear hh2;refine xd [0,2,3,11,15] rfl ?_;refine G.block rfl rfl ?_;refine sL rfl rfl func112 rfl (by decide +kernel) ?_;intro fid tmps hfits;obtain⟨r0,hr0⟩:∃r0,r0=lz fid tmps #[16,17] (Mf (Lw.sub (aM f39) [0,1,0,1,1,1])) (Me (Lw.sub (aM f39) [0,1,0,1,1,1])) h2.size:=⟨_,rfl⟩
   obtain⟨hL,hhL⟩:∃hL,hL=(h2.push (.deferred (some []))).push (.loop r0):=⟨_,rfl⟩
   suffices hmain:ai Tryz.prog 112 #[.func (.yield (h2.size+1)) #[] #[],.pointer (some ⟨h1.size,0,none⟩)] hL _ by rw[hhL,hr0] at hmain;exact hmain
   have hst:r0.state= .ready:=by rw[hr0];rfl
   have hpn:r0.pending=none:=by rw[hr0];rfl
   have hps:r0.params= #[16,17]:=by rw[hr0];rfl
   have htm2:r0.tmps=tmps:=by rw[hr0];rfl
   have eL:aF h2 hL:=by rw[hhL];exact(Ext.push _ _ _).trans (Ext.push _ _ _)
   have hLz:hL.size=h2.size+2:=by rw[hhL];simp
   have hloop0:eu hL (h2.size+1) r0:=by
    have hz:h2.size+1=(h2.push (.deferred (some []))).size:=by simp
    rw[eu,hhL,hz];exact Array.getElem?_push_size
   have hdef0:hL[h2.size]? =some (.deferred (some [])):=by
    rw[hhL,(Ext.push (fun _=>False) (h2.push (.deferred (some []))) _).block h2.size (by simp) (fun k=>k)];exact Array.getElem?_push_size
   clear hhL;have e0L:aF h hL:=(e1.trans e2).trans eL;have hJ0:HT h h2.size r0 hL.size l 0 hL:=⟨hloop0,hdef0,e0L,Nat.le_refl _,_,(k3.ax e2).ax eL,cK.nil _ _ _ _⟩
   have hcapL:cellAt hL ⟨h1.size,0,none⟩=some (.slice oa kn kc):=eL.cell (fun k=>k) kc2;have hdl:∀j g,HT h h2.size r0 hL.size l j g→h2.size<g.size:=fun j g k=>by have:=k.2.2.2.1;omega
   refine suff (p:=∀j g,HT h h2.size r0 hL.size l j g→j<kn→∃(b o:Nat) (r:By×Int×Int),oa=some ⟨b,o,none⟩∧Lw.rowAt g b (o+j*3) (fc r)∧∀g,HT h h2.size r0 hL.size l j g→lO Tryz.prog (h2.size+1) #[.int .i64 (j:Nat),.agg (fc r).toArray] g (cL fun r h'=>r= .bool true∧HT h h2.size r0 hL.size l (j+1) h')) ?_ fun hy=>?_
   · intro j g hJg hj;obtain⟨r,hx⟩:∃r,tb[j]? =some r:=⟨_,List.getElem?_eq_getElem (by omega)⟩
     have hslg:=hsl.mv (Mv.ax hJg.2.2.1);obtain⟨oa',n',c',hv',_,_,_,hget⟩:=id hslg;cases hv';obtain⟨b,o,cs,ha,hob,hrow,rfl⟩:=hget j r hx;refine⟨b,o,r,ha,hrow,fun g hJg=>?_⟩;obtain⟨hlp,hdf,ehg,hbg,w,kS,hw⟩:=hJg;have hlj:l[j]? =some r.1:=by rw[←htm,List.getElem?_map,hx];rfl
     have hfit:=AZ (p1:=16) (p2:=17) (v1:=.int .i64 (j:Nat)) (v2:=.agg (fc r).toArray) hfits rfl rfl;rw[←hps,←htm2] at hfit;refine lO.of hlp hst (by rw[hps];rfl) hfit ((congrArg Loop.assign hr0).trans rfl) ((congrArg Loop.body hr0).trans rfl) ?_;refine gF.EK rfl rfl rfl rfl rfl (aC.aR H.zw) ?_;rintro _ g1 ⟨rfl,k5,e1',zz1⟩;refine gF.bZ rfl rfl rfl rfl (aC.aB H.ke rfl rfl k5 (by first|rfl|(simp;done)|(simp;omega)) (by first|decide|exact of_decide_eq_true rfl|(simp;done)|(simp;omega)) (pP r)) ?_;rintro _ g2 ⟨rfl,k5',e2',zz2⟩;refine kP rfl ?_;have e12:aF g g2:=e1'.only e2' (Nat.le_refl _);have k5':bq g2 g.size 138 (fc r):=k5';refine⟨(e12.block _ hlp.lt (fun k=>k)).trans hlp,?_⟩;obtain⟨g3,hg3⟩:∃g3,g3=Lw.eR g2 (h2.size+1) (.loop { r0 with state:=.busy }):=⟨_,rfl⟩
     rw[←hg3];have hlz:=hlp.lt;have hz2:=e12.size;have hz1:=e1.size;have e23:Ext (fun b=>b=h2.size+1) g2 g3:=by rw[hg3];exact Ext.eR _ _ _ rfl
     have hlp3:eu g3 (h2.size+1) { r0 with state:=.busy }:=by rw[eu,hg3];exact nG (by omega)
     have hz3:=e23.size;have kS3:=(kS.ax e12).ext e23 (show ¬h.size=h2.size+1 by omega);have k53:=k5'.ext e23 (show ¬g.size=h2.size+1 by omega);have hwge:∀b,w.ownBlock=some b→hL.size≤b:=fun b hb=>(aS.lt hw hb).1
     have hw3:aS g3 hL.size 9 1 w (l.take j).length ((l.take j).map lG):=aS.ext e23 (cK.ax hw e12) (fun b hb k=>by have:=hwge b hb;omega);have hjl:(l.take j).length=j:=by rw[List.length_take];omega
     refine gF.au rfl rfl rfl rfl rfl (ah H.HJ rfl (kS3.cell (i:=0) rfl)) ?_;refine gF.au rfl rfl rfl rfl rfl (af (off:=0) underlying138 rfl rfl H.dA rfl) ?_;refine gF.au rfl rfl rfl rfl rfl (ah H.dO rfl (k53.cell (i:=0) rfl)) ?_;refine gF.EK rfl rfl rfl rfl rfl (aC.aZ (us:=[_]) underlying93 H.nT rfl rfl (by decide) (by simp[Value.oneCell'])) ?_;rintro _ _ ⟨rfl,rfl⟩;refine gF.EK rfl rfl rfl rfl rfl (aC.bO underlying93 H.nT rfl rfl (hw3) rfl rfl (by first|decide|simp[Value.oneCell']) (by omega) (by decide) (by omega)) ?_;rintro v4 g4 ⟨ho4,hx4,hx4',hv4⟩;have kS4:=kS3.ext hx4 (fun k=>by have:=hwge _ k.symm;omega);have hz4:=hx4.size;have hw4:cK lG g4 hL.size 9 v4 (l.take j++[r.1]):=cK.of (ys:=[r.1]) ho4 rfl rfl rfl;obtain⟨va4,vc4,rfl,_⟩:=ho4.open;refine gF.bZ rfl rfl rfl rfl (aC.bF H.Lq rfl rfl kS4 (by first|decide|exact of_decide_eq_true rfl|(simp;done)|(simp;omega)) rfl) ?_;rintro _ g5 ⟨rfl,kS5,e5',zz5⟩;refine kP rfl ?_;have kS5:bq g5 h.size 93 [.slice va4 ((l.take j).length+1) vc4]:=by simpa using kS5
     have hlp5:eu g5 (h2.size+1) { r0 with state:=.busy }:=(hlp3.ext hx4 (fun k=>by have:=hwge _ k.symm;omega)).ext e5' (show ¬h2.size+1=h.size by omega);have hr2:({ ({ r0 with state:=.busy }:Loop) with state:=.ready,pending:=none }:Loop)=r0:=by cases r0;simp at hst hpn;simp[hst,hpn]
     have hz5:=e5'.size;refine⟨_,hlp5,rfl,?_⟩;rw[hr2];have e56:Ext (fun b=>b=h2.size+1) g5 (Lw.eR g5 (h2.size+1) (.loop r0)):=Ext.eR _ _ _ rfl;have hlz5:=hlp5.lt
     have hblk:∀b,b<hL.size→¬b=h.size→¬b=h2.size+1→b<g.size→(Lw.eR g5 (h2.size+1) (.loop r0))[b]? =g[b]? :=fun b hb n1 n2 hbg=>by
      rw[e56.block b (by omega) n2,e5'.block b (by omega) n1,hx4.block b (by omega) (fun k=>by have:=hwge _ k.symm;omega),e23.block b (by omega) n2,e12.block b hbg (fun k=>k)]
     have hv4ge:∀b,(Value.slice va4 ((l.take j).length+1) vc4).ownBlock=some b→hL.size≤b:=fun b hb=>(aS.lt hw4 hb).1
     refine⟨nG hlz5,by rw[hblk h2.size (by omega) (by omega) (by omega) (by omega)];exact hdf,⟨by have:=e56.size;have:=ehg.size;omega,fun b hb _=>?_⟩,by have:=e56.size;omega,_,kS5.ext e56 (show ¬h.size=h2.size+1 by omega),?_⟩
     · rw[hblk b (by omega) (by omega) (by omega) (by have:=ehg.size;omega)];exact ehg.block b hb (fun k=>k)
     · rw[List.take_add_one,hlj];exact aS.ext e56 (aS.ext e5' hw4 (fun b hb k=>by have:=hv4ge b hb;omega)) (fun b hb k=>by have:=hv4ge b hb;omega)
   · refine(Cx (l:=h2.size+1) (cap:=h1.size) (n:=kn) (c:=kc) (oa:=oa) (J:=HT h h2.size r0 hL.size l) (by omega) (fun j g g' k e=>k.ax (hdl j g k) e) hy hJ0 hcapL).mono fun e g hJ=>?_
     obtain⟨u,rfl,hlp,hdf,ehg,hbg,w,kS,hw⟩:=hJ;rw[List.take_of_length_le (by omega)] at hw;refine⟨_,rfl,r0,hlp,by rw[hst];decide,hpn,?_⟩;have hz1:=e1.size;have hlz:=hlp.lt;have e6:Ext (fun b=>b=h2.size+1) g (Lw.eR g (h2.size+1) (.loop { r0 with state:=.exhausted })):=Ext.eR _ _ _ rfl;have kSe:=kS.ext e6 (show ¬h.size=h2.size+1 by omega);have hdfe:=(e6.block h2.size (by omega) (show ¬h2.size=h2.size+1 by omega)).trans hdf;have hwge:∀b,w.ownBlock=some b→hL.size≤b:=fun b hb=>(aS.lt hw hb).1
     have hwe:=aS.ext e6 hw (fun b hb k=>by have:=hwge b hb;omega);refine GD.aN ?_;refine pF rfl ?_;refine GD.bT func39 rfl ?_;refine jt.au rfl rfl rfl rfl (ah H.HJ rfl (kSe.cell (i:=0) rfl)) ?_;refine jt.au rfl rfl rfl rfl (aj.assign rfl) ?_;refine kQ rfl ?_;refine GD.sub (ρ':=[(0,_),(2,_),(3,_),(11,_),(15,_)]) ⟨rfl,rfl,rfl,rfl,rfl,trivial⟩ ?_;refine GD.CX func39 rfl hdfe rfl ?_;have e7:Ext (fun b=>b=h2.size) (Lw.eR g (h2.size+1) (.loop { r0 with state:=.exhausted })) (Lw.eR (Lw.eR g (h2.size+1) (.loop { r0 with state:=.exhausted })) h2.size (.deferred none)):=Ext.eR _ _ _ rfl;have hz6:=e6.size;have hz7:=e7.size;refine⟨_,rfl,cK.read (h1:=fun _=>rfl) (show cK lG _ hL.size 9 w l from aS.ext e7 hwe (fun b hb k=>by have:=hwge b hb;omega)) (fun _ _ k=>k),⟨by have:=ehg.size;omega,fun b hb _=>?_⟩⟩;rw[e7.block b (by have:=ehg.size;omega) (by omega),e6.block b (by have:=ehg.size;omega) (by omega)];exact ehg.block b hb (fun k=>k)
end
end Go.Proofs.YtedocgkapmeceaaGreatDoor
namespace Go.Proofs.YtedocgkapmeceaaGreatDoor
open Go Go.Lw
section
variable {h:aD}{O:Nat→Prop}{cs:List Value}{k:Int}{t:By}{l:List Tr}{v:Value}{x:Tr}
def n7:Nat→aD→(Nat→Prop)→List Value→Tr→Prop
 | 0,_,_,_,_=>False
 |d+1,h,O,cs,x=>∃oa n c,cs=[.int .i64 x.kind,.string (bs x.text),.slice oa n c]∧x.kids.length=n∧n≤c∧c≤maxLen ∧
  ∀i y,x.kids[i]? =some y→∃b o cs',oa=some ⟨b,o,none⟩∧¬O b∧Lw.rowAt h b (o+i*3) cs'∧n7 d h O cs' y
theorem wT:∀{d:Nat}{h:aD}{O:Nat→Prop}{cs:List Value}{x:Tr},n7 d h O cs x→cs.length=3
 | 0,_,_,_,_,k=>k.elim
 |_+1,_,_,_,_,⟨_,_,_,hc,_⟩=>by rw[hc];rfl
theorem D0:∀{d:Nat}{h:aD}{O:Nat→Prop}{cs:List Value}{x:Tr},n7 d h O cs x→∀v∈cs,v.oneCell'=true
 | 0,_,_,_,_,k=>k.elim
 |_+1,_,_,_,_,⟨_,_,_,hc,_⟩=>by
  intro v hv;rw[hc] at hv;simp at hv;rcases hv with rfl|rfl|rfl<;>rfl
theorem Aw:∀{d:Nat}{h h':aD}{O O':Nat→Prop}{cs:List Value}{x:Tr},n7 d h O cs x→Mv O O' h h'→n7 d h' O' cs x
 | 0,_,_,_,_,_,_,k,_=>k.elim
 |d+1,h,h',O,O',cs,x,⟨oa,n,c,hc,hl,hn,hm,hk⟩,m=>by
  refine⟨oa,n,c,hc,hl,hn,hm,fun i y hy=>?_⟩;obtain⟨b,o,cs',h1,h2,h3,h4⟩:=hk i y hy;have hne:cs'≠[]:=fun e0=>by have:=wT h4;rw[e0] at this;simp at this
  exact⟨b,o,cs',h1,(m.block b (eM h3 hne) h2).2,m.rowAt h2 h3,Aw h4 m⟩
theorem uj:∀{d d':Nat}{h:aD}{O:Nat→Prop}{cs:List Value}{x:Tr},n7 d h O cs x→d≤d'→n7 d' h O cs x
 | 0,_,_,_,_,_,k,_=>k.elim
 |d+1,0,_,_,_,_,_,hd=>by omega
 |d+1,d'+1,h,O,cs,x,⟨oa,n,c,hc,hl,hn,hm,hk⟩,hd=>by
  refine⟨oa,n,c,hc,hl,hn,hm,fun i y hy=>?_⟩;obtain⟨b,o,cs',h1,h2,h3,h4⟩:=hk i y hy;exact⟨b,o,cs',h1,h2,h3,uj h4 (by omega)⟩
def eN:gG Tr where
 sz:=3
 pos:=by decide
 R:=fun h O cs x=>∃d,n7 d h O cs x
 len:=fun⟨_,k⟩=>wT k
 one:=fun⟨_,k⟩=>D0 k
 mv:=fun⟨d,k⟩ m=>⟨d,Aw k m⟩
theorem jG (q:eN.R h O cs (.mk k t l)):∃v,cs=[.int .i64 k,.string (bs t),v]∧bU eN h O v l:=by
 obtain⟨d,q⟩:=q;cases d with
 |zero=>exact q.elim
 |succ d =>
  obtain⟨oa,n,c,hc,hl,hn,hm,hk⟩:=q;refine⟨_,hc,oa,n,c,rfl,hl,hn,hm,fun i y hy=>?_⟩;obtain⟨b,o,cs',h1,h2,h3,h4⟩:=hk i y hy;exact⟨b,o,cs',h1,h2,h3,d,h4⟩
theorem yR (q:bU eN h O v l):eN.R h O [.int .i64 k,.string (bs t),v] (.mk k t l):=by
 obtain⟨oa,n,c,rfl,hl,hn,hm,hk⟩:=q
 have:∃d,∀i y,l[i]? =some y→∃b o cs,oa=some ⟨b,o,none⟩∧¬O b∧Lw.rowAt h b (o+i*3) cs∧n7 d h O cs y:=by
  have key:∀j:Nat,∃d,∀i y,i<j→l[i]? =some y→∃b o cs,oa=some ⟨b,o,none⟩∧¬O b∧Lw.rowAt h b (o+i*3) cs∧n7 d h O cs y:=by
   intro j
   induction j with
   |zero=>exact⟨0,fun i y hi=>by omega⟩
   |succ j ih =>
    obtain⟨d,hd⟩:=ih;cases hj:l[j]? with
    |none =>
     refine⟨d,fun i y hi hy=>hd i y ?_ hy⟩
     rcases Nat.lt_or_ge i j with q|q
     · exact q
     · have:i=j:=by omega
       subst this;rw[hj] at hy;cases hy
    |some z =>
     obtain⟨b,o,cs,h1,h2,h3,d2,h4⟩:=hk j z hj;refine⟨max d d2,fun i y hi hy=>?_⟩
     rcases Nat.lt_or_ge i j with q|q
     · obtain⟨b',o',cs',g1,g2,g3,g4⟩:=hd i y q hy;exact⟨b',o',cs',g1,g2,g3,uj g4 (by omega)⟩
     · have:i=j:=by omega
       subst this;rw[hj] at hy;cases hy;exact⟨b,o,cs,h1,h2,h3,uj h4 (by omega)⟩
  obtain⟨d,hd⟩:=key l.length;exact⟨d,fun i y hy=>hd i y (List.getElem?_eq_some_iff.1 hy).1 hy⟩
 obtain⟨d,hd⟩:=this;exact⟨d+1,oa,n,c,rfl,hl,hn,hm,hd⟩
def dS (h:aD) (O:Nat→Prop) (v:Value) (x:Tr):Prop:=∃cs,v= .agg cs.toArray∧eN.R h O cs x
theorem dS.open (q:dS h O v (.mk k t l)):∃w,v= .agg #[.int .i64 k,.string (bs t),w]∧bU eN h O w l:=by
 obtain⟨cs,rfl,q⟩:=q;obtain⟨w,rfl,q2⟩:=jG q;exact⟨w,rfl,q2⟩
theorem dS.shut {w:Value}(q:bU eN h O w l):dS h O (.agg #[.int .i64 k,.string (bs t),w]) (.mk k t l):=⟨_,rfl,yR q⟩
theorem dS.mv {h h':aD}{O O':Nat→Prop}{v:Value}{x:Tr}(q:dS h O v x) (m:Mv O O' h h'):dS h' O' v x:=by
 obtain⟨cs,rfl,q⟩:=q;exact⟨cs,rfl,eN.mv q m⟩
theorem Sl.nd {oa:Option Addr}{n c:Nat}(k:Sl eN h O oa n c l){i:Nat}(hi:i<n) :
 ∃b o x cs,oa=some ⟨b,o,none⟩∧¬O b∧l[i]? =some x∧Lw.rowAt h b (o+i*3) cs∧eN.R h O cs x:=by
 have hlt:i<l.length:=by rw[k.len];exact hi
 obtain⟨b,o,cs,ha,ho,hr,hR⟩:=k.get i l[i] (List.getElem?_eq_getElem hlt);exact⟨b,o,l[i],cs,ha,ho,List.getElem?_eq_getElem hlt,hr,hR⟩
theorem sr {α:Type}{sz:Nat}:∀css:List (List α),(∀c∈css,c.length=sz)→css.flatten.length=css.length*sz
 | [],_=>by simp
 |c::css,h=>by
  rw[List.flatten_cons,List.length_append,h c (by simp),sr css (fun c hc=>h c (by simp[hc])),List.length_cons,Nat.add_mul];omega
theorem dD.Ky {α:Type}{e:gG α}{css:List (List Value)}{xs:List α}{t:TypeId}{base n:Nat}(hl:css.length=xs.length)
 (hR:∀(i:Nat) (cs:List Value) (x:α),css[i]? =some cs→xs[i]? =some x→e.R h O cs x) (hb:base≤h.size) (hn:xs.length=n) (hm:n≤maxLen) :
 dD e O (h.push (.cells css.flatten.toArray t)) base t (.slice (some ⟨h.size,0,none⟩) n n) xs:=by
 subst hn
 have hlen:∀c∈css,c.length=e.sz:=fun c hc=>by
  obtain⟨i,hi⟩:=List.getElem?_of_mem hc;have hlt:i<xs.length:=by rw[←hl];exact(List.getElem?_eq_some_iff.1 hi).1
  exact e.len (hR i c xs[i] hi (List.getElem?_eq_getElem hlt))
 have hfl:css.flatten.length=xs.length*e.sz:=by rw[sr css hlen,hl]
 refine⟨css,hl,⟨hfl,.inr ⟨h.size,xs.length,css.flatten.toArray,rfl,hb,by simp,Nat.le_refl _,hm,by rw[List.size_toArray,hfl],by rw[←hfl];exact List.take_length⟩⟩,fun i cs x h1 h2=>?_⟩
 exact e.mv (hR i cs x h1 h2) ⟨by simp,fun b hb' ho=>⟨(Ext.push (fun _=>False) h _).block b hb' (fun k=>k),fun k=>by
  rcases k with k|k
  · simp[cT,Value.ownBlock] at k;omega
  · exact ho k⟩⟩
theorem dS.get (q:dS h O v x):∃k t a n c,v= .agg #[.int .i64 k,.string (bs t),.slice a n c]∧eN.R h O [.int .i64 k,.string (bs t),.slice a n c] x:=by
 obtain⟨cs,rfl,q⟩:=q;cases x with
 |mk k t l =>
  obtain⟨w,rfl,q2⟩:=jG q;obtain⟨a,n,c,rfl,_⟩:=q2.open;exact⟨k,t,a,n,c,rfl,q⟩
theorem dS.of (q:eN.R h O cs x):dS h O (.agg cs.toArray) x:=⟨cs,rfl,q⟩
theorem dS.ext {h':aD}{M O':Nat→Prop}(q:dS h O v x) (e:Ext M h h') (hm:∀b,b<h.size→¬O b→¬M b∧¬O' b):dS h' O' v x:=q.mv (Mv.dc e hm)
theorem aX {h':aD}{M O':Nat→Prop}(q:eN.R h O cs x) (e:Ext M h h') (hm:∀b,b<h.size→¬O b→¬M b∧¬O' b):eN.R h' O' cs x:=eN.mv q (Mv.dc e hm)
theorem mM {T:TypeId}(q:eN.R h O cs x) (ho:¬O h.size):bU eN (h.push (.cells cs.toArray T)) O (.slice (some ⟨h.size,0,none⟩) 1 1) [x]:=bU.n8 q ho
theorem uu {c1 c2:List Value}{y:Tr}{T:TypeId}(q1:eN.R h O c1 x) (q2:eN.R h O c2 y){base:Nat}(hb:base≤h.size):dD eN O (h.push (.cells (c1++c2).toArray T)) base T (.slice (some ⟨h.size,0,none⟩) 2 2) [x,y]:=by
 have:=dD.Ky (e:=eN) (O:=O) (h:=h) (css:=[c1,c2]) (xs:=[x,y]) (t:=T) (base:=base) (n:=2) rfl (fun i cs z h1 h2=>by
  match i with
  | 0=>simp at h1 h2;subst h1 h2;exact q1
  | 1=>simp at h1 h2;subst h1 h2;exact q2
  |i+2=>simp at h1) hb rfl (by decide)
 simpa using this
end
end Go.Proofs.YtedocgkapmeceaaGreatDoor
namespace Go.Lw
open Go.RowKit
section
variable {P:Program}{ρ:Env}{h:aD}{dst:Option Nat}{ty:TypeId}{pos:String}{after:Array Edge}{guard:Option (Nat×Bool)}
end
theorem Ext.fo {M N:Nat→Prop}{a b c:aD}(e:Ext M a b) (x:Ext N b c) (hn:∀i,i<a.size→N i→M i):Ext M a c :=
 ⟨Nat.le_trans e.size x.size,fun i hi hm=>(x.block i (Nat.lt_of_lt_of_le hi e.size) (fun q=>hm (hn i hi q))).trans (e.block i hi hm)⟩
section
variable {P:Program}{ρ:Env}{h:aD}{dst:Option Nat}{ty:TypeId}{pos:String}{after:Array Edge}{guard:Option (Nat×Bool)}
theorem aj.Ei {t e:TypeId}{n sz:Nat}{x y:Operand}{cs:Array Value}{k:IntKind}{j:Int}{ds:Array Value}(hu:P.underlying t=some (.array n e)) (hs:cZ P e=some sz) (hr:bS P e=some true) (hx:bW ρ x=some (.agg cs)) (hy:bW ρ y=some (.int k j)) (i:Nat) (hj:j=i) (hi:i<n) (hv:cs.extract (i*sz) (i*sz+sz)=ds) :
 aj P ⟨dst,.index t x y,ty,pos,after,guard⟩ ρ h (.agg ds):=by
 intro _ B a w hf _;subst hj;simp[execOp,Instr.index,run_underlying hu,asIntOf,hf.eval hx,hf.eval hy,run_sizeOf hs,hi,part,lq hr,hv]
end
end Go.Lw
namespace Go.Proofs.YtedocgkapmeceaaGreatDoor
open Go.Proofs.Tryz
open Go Go.Lw
set_option maxRecDepth 20000
section
variable {h:aD}{O:Nat→Prop}{ts:List By}{T:TypeId}{eU:gG Un}{s:PS}
theorem cj (h:aD) (ts:List By) (T:TypeId){n:Nat}(hn:ts.length=n) (hm:n≤maxLen){us:List Value}(hu:us=ts.map lG):bU mV (h.push (.cells us.toArray T)) (fun _=>False) (.slice (some ⟨h.size,0,none⟩) n n) ts :=
 cK.read (h1:=fun _=>rfl) (jo lG h T ts n hn hm 0 (Nat.zero_le _) hu) (fun _ _ k=>k)
theorem yK {v:Value}(hv:bU mV h O v ts) (s:By) :
 ai Tryz.prog 93 #[v,.string (bs s)] h (cL fun r h'=>(∃i:Int,r= .int .i64 i∧decide (0≤i)=decide (s∈ts))∧h'=h):=by
 obtain⟨va,vn,vc,rfl,hvs⟩:=hv.open;have hvl:ts.length=vn:=hvs.len;subst hvl;have hvm:=hvs.cap;have hvc:=hvs.le;simp only[maxLen] at hvm;refine ai.of func93 rfl rfl ?_;refine aW func93 1 [0,1,4] rfl ?_;refine av rfl ?_;refine br func93 1 rfl ?_;refine xp rfl (aj.aJ underlying93 rfl) ?_;refine aQ 1 [0,1,4,7,8] rfl ?_;refine G.block rfl rfl ?_;refine bE (σ:=Nat) (fun i=>[(0,.slice va ts.length vc),(1,.string (bs s)),(7,.int .i64 (ts.length:Nat)),(8,.int .i64 (i:Nat))]) (fun i h'=>h'=h∧i≤ts.length∧s∉ts.take i) (fun i=>ts.length-i) (0) rfl ⟨rfl,rfl,rfl,rfl,trivial⟩ ⟨rfl,Nat.zero_le _,by simp⟩ ?_;rintro i g ⟨rfl,hi,hin⟩ ih;refine aW func93 1 [0,1,7,8,9] rfl ?_;refine av rfl ?_;refine aL rfl rfl (fun hlt=>?_) (fun hlt=>?_)
 · have hil:i<ts.length:=by omega
   obtain⟨b,o,x,ha,_,hx,hc⟩:=hvs.at hil;refine aE rfl ?_;refine av rfl ?_;refine G.block rfl rfl ?_;refine aW func93 2 [0,1,5,7,8,9] rfl ?_;refine br func93 3 rfl ?_;refine xp rfl (aj.ay underlying93 H.dA rfl rfl i rfl ha (by omega)) ?_;refine xp rfl (ah H.dO rfl hc) ?_;refine xp rfl (aj.cI rfl rfl) ?_;refine xd [0,1,5,7,8,9,16] rfl ?_;refine aL rfl rfl (fun he=>?_) (fun he=>?_)
   · have he:s=x:=dx he;refine aW func93 2 [0,1,4,5,7,8,9,16] rfl ?_;refine G.ret func93 rfl rfl ?_;exact⟨_,rfl,⟨i,rfl,by rw[decide_eq_true (by omega),decide_eq_true (by rw[he];exact List.mem_of_getElem? hx)]⟩,rfl⟩
   · refine aE rfl ?_;refine G.aN ?_;refine G.bT func93 rfl ?_;refine xp rfl (aj.bA rfl rfl ⟨by omega,by omega⟩) ?_;refine aQ 1 [0,1,5,7,8,9,16] rfl ?_;exact ih (i+1) _ _ ⟨rfl,rfl,rfl,rfl,trivial⟩ ⟨rfl,by omega,by rw[List.take_add_one,hx,List.mem_append,not_or];exact⟨hin,by simpa using fun q=>he (by rw[q])⟩⟩ (by omega)
 · refine bz rfl rfl ?_;refine aW func93 1 [0,1,4,7,8,9] rfl ?_;refine G.ret func93 rfl rfl ?_;have hil:i=ts.length:=by omega
   rw[hil,List.take_length] at hin;exact⟨_,rfl,⟨-1,rfl,by rw[decide_eq_false hin];rfl⟩,rfl⟩
theorem oP {v:Value}(hv:bU mV h O v ts) (s:By) :
 ai Tryz.prog 49 #[v,.string (bs s)] h (cL fun r h'=>r= .bool (decide (s∈ts))∧h'=h):=by
 refine ai.of func49 rfl rfl ?_;refine aW func49 1 [0,1,4] rfl ?_;refine br func49 2 rfl ?_;refine xo rfl (aq (vs:=[_,_]) func93 rfl H.Ly rfl (ai.bw (yK hv s))) ?_;rintro _ h ⟨⟨i,rfl,hi⟩,rfl⟩;refine aQ 2 [0,1,4] rfl ?_;refine G.ret func49 rfl rfl ?_;exact⟨_,rfl,by rw[hi];rfl,rfl⟩
def rD (u:Un):List Value:=[.int .i64 u.1,.string (bs u.2.1),.int .i64 u.2.2]
theorem xW (u:Un):∀v∈rD u,v.oneCell'=true:=fun v hv=>by simp[rD] at hv;rcases hv with rfl|rfl|rfl<;>rfl
abbrev Mj:gG Un:=.record 3 (by decide) rD (fun _=>rfl) xW
def Mm (us:List Un) (i:Nat) (b:Bool) (m:Int):PS→Prop
 |.ok r=>b=false∧r=us.drop i
 |.bad k=>b=true∧m=k
structure PC where
 pb:Nat
 lv:Value
 n0:Nat
 us:List Un
 e:Int
def CA (T:TypeId) (eU:gG Un) (c:PC) (h:aD) (s:PS):Prop :=
 ∃i b m,bq h c.pb T [c.lv,.int .i64 (i:Nat),.int .i64 c.e,.bool b,.int .i64 m]∧bU eU h (fun x=>x=c.pb∨c.n0≤x) c.lv c.us∧i≤c.us.length∧Mm c.us i b m s∧c.pb<c.n0∧c.n0≤h.size∧c.us.length≤1000
theorem CA.ext {T:TypeId}{eU:gG Un}{c:PC}{h h':aD}{s:PS}{M:Nat→Prop}(k:CA T eU c h s) (x:Ext M h h') (hM:∀b,b<c.n0→¬M b):CA T eU c h' s:=by
 obtain⟨i,b,m,hk,hl,hi,hs,hp,hn⟩:=k;exact⟨i,b,m,hk.ext x (hM _ hp),hl.mv (Mv.dc x fun b _ ho=>⟨hM b (by omega),ho⟩),hi,hs,hp,Nat.le_trans hn.1 x.size,hn.2⟩
theorem CA.ax {c:PC}{h':aD}(k:CA T eU c h s) (x:aF h h'):CA T eU c h' s:=k.ext x (fun _ _ k=>k)
theorem CA.lt {T:TypeId}{eU:gG Un}{c:PC}{h:aD}{s:PS}(k:CA T eU c h s):c.pb<h.size:=by
 obtain⟨i,b,m,hk,_⟩:=k;exact hk.lt
theorem CA.old {c:PC}(k:CA T eU c h s):c.pb<c.n0∧c.n0≤h.size:=by
 obtain⟨i,b,m,_,_,_,_,h1,h2⟩:=k;exact⟨h1,h2.1⟩
theorem CA.short {c:PC}(k:CA T eU c h s):c.us.length≤1000∧s.len≤c.us.length:=by
 obtain⟨i,b,m,_,_,_,hs,_,h2⟩:=k;refine⟨h2.2,?_⟩;cases s with
 |bad q=>exact Nat.zero_le _
 |ok r=>obtain⟨_,rfl⟩:=hs;simp[PS.len]
abbrev qL:=CA 69 Mj
theorem ET {oa:Option Addr}{n c:Nat}{us:List Un}{i:Nat}{u:Un}{r:List Un}(_:Sl eU h O oa n c us) (hi:u::r=us.drop i):us[i]? =some u∧i<us.length∧r=us.drop (i+1):=by
 have h0:(us.drop i)[0]? =some u:=by rw[←hi];rfl
 rw[List.getElem?_drop,Nat.add_zero] at h0;refine⟨h0,(List.getElem?_eq_some_iff.1 h0).1,?_⟩;rw[←List.tail_drop,←hi];rfl
theorem BG {us:List Un}{i:Nat}(hi:[]=us.drop i) (hl:i≤us.length):i=us.length:=by
 have:=List.drop_eq_nil_iff.1 hi.symm;omega
abbrev ptr (b:Nat):Value:=.pointer (some ⟨b,0,none⟩)
abbrev MA (o:Option By):Value:=packed [.string (bs (o.getD [])),.bool o.isSome]
theorem cg {c:PC}(hp:qL c h s) (k:Int){tv:Value}(ht:bU mV h O tv ts) :
 ai Tryz.prog 26 #[ptr c.pb,.int .i64 k,tv] h (cL fun r h'=>r=MA (dL k ts s).1∧qL c h' (dL k ts s).2∧Ext (fun b=>b=c.pb) h h'):=by
 obtain⟨pb,lv,n0,us,e⟩:=c;obtain⟨i,b,m,hk,hl,hi,hs,hpn,hn0⟩:=id hp;dsimp only at hk hl hi hs hpn hn0 ⊢;obtain⟨la,ln,lc,rfl,hls⟩:=hl.open;have hln:us.length=ln:=hls.len;subst hln;have hlm:=hls.cap;have hlc:=hls.le;simp only[maxLen] at hlm;cases s with
 |bad q =>
  obtain⟨rfl,rfl⟩:=hs;refine ai.of func26 rfl rfl ?_;refine aW func26 2 [0,1,2,6,7] rfl ?_;refine av rfl ?_;refine av rfl ?_;refine G.dB func26 H.mixed rfl (by kernel_rfl) ?_;refine RQ.au rfl rfl rfl rfl (aK rfl) ?_;refine RQ.au rfl rfl rfl rfl (aO rfl) ?_;refine RQ.au rfl rfl rfl rfl (af (off:=3) underlying69 rfl rfl H.mg rfl) ?_;refine RQ.au rfl rfl rfl rfl (ah H.vC rfl (hk.cell (i:=3) rfl)) ?_;refine RQ.au rfl rfl rfl rfl (aK rfl) ?_;refine RQ.cW (d:=12) (b':=true) rfl (rfl) ?_;refine RQ.aU rfl rfl rfl rfl ?_;refine RQ.aU rfl rfl rfl rfl ?_;refine RQ.aU rfl rfl rfl rfl ?_;refine RQ.aU rfl rfl rfl rfl ?_;refine RQ.aU rfl rfl rfl rfl ?_;refine RQ.aU rfl rfl rfl rfl ?_;refine RQ.aU rfl rfl rfl rfl ?_;refine RQ.aU rfl rfl rfl rfl ?_;refine RQ.aU rfl rfl rfl rfl ?_;refine RQ.aU rfl rfl rfl rfl ?_;refine RQ.au rfl rfl rfl rfl (aj.mI rfl rfl) ?_;refine RQ.au rfl rfl rfl rfl (aK rfl) ?_;refine RQ.aU rfl rfl rfl rfl ?_;refine RQ.aU rfl rfl rfl rfl ?_;refine RQ.aU rfl rfl rfl rfl ?_;refine RQ.aU rfl rfl rfl rfl ?_;refine RQ.aU rfl rfl rfl rfl ?_;refine RQ.aU rfl rfl rfl rfl ?_;refine RQ.aU rfl rfl rfl rfl ?_;refine RQ.aU rfl rfl rfl rfl ?_;refine RQ.aU rfl rfl rfl rfl ?_;refine RQ.aU rfl rfl rfl rfl ?_;refine RQ.aU rfl rfl rfl rfl ?_;refine RQ.aU rfl rfl rfl rfl ?_;refine RQ.aU rfl rfl rfl rfl ?_;refine RQ.au rfl rfl rfl rfl (aj.mI rfl rfl) ?_;refine RQ.au rfl rfl rfl rfl (aK rfl) ?_;refine RQ.aU rfl rfl rfl rfl ?_;refine RQ.aU rfl rfl rfl rfl ?_;refine RQ.aU rfl rfl rfl rfl ?_;refine RQ.aU rfl rfl rfl rfl ?_;refine RQ.aU rfl rfl rfl rfl ?_;refine RQ.aU rfl rfl rfl rfl ?_;refine RQ.aU rfl rfl rfl rfl ?_;refine RQ.aU rfl rfl rfl rfl ?_;refine RQ.aU rfl rfl rfl rfl ?_;refine RQ.aU rfl rfl rfl rfl ?_;refine RQ.aU rfl rfl rfl rfl ?_;refine RQ.aU rfl rfl rfl rfl ?_;refine RQ.aU rfl rfl rfl rfl ?_;refine RQ.aU rfl rfl rfl rfl ?_;refine RQ.au rfl rfl rfl rfl (aj.mI rfl rfl) ?_;refine b8 rfl ?_;refine xu [0,1,2,6,7,54] rfl ?_;refine aI rfl rfl (fun _=>?_) (fun hc=>absurd hc (by simp));refine aW func26 2 [0,1,2,6,7,54] rfl ?_;refine G.ret func26 rfl rfl ?_;exact⟨_,rfl,rfl,hp,Ext.refl _ _⟩
  |ok r =>
  obtain⟨rfl,hr⟩:=hs;cases r with
  |nil =>
   have hie:=BG hr hi;refine ai.of func26 rfl rfl ?_;refine aW func26 2 [0,1,2,6,7] rfl ?_;refine av rfl ?_;refine av rfl ?_;refine G.dB func26 H.mixed rfl (by kernel_rfl) ?_;refine RQ.au rfl rfl rfl rfl (aK rfl) ?_;refine RQ.au rfl rfl rfl rfl (aO rfl) ?_;refine RQ.au rfl rfl rfl rfl (af (off:=3) underlying69 rfl rfl H.mg rfl) ?_;refine RQ.au rfl rfl rfl rfl (ah H.vC rfl (hk.cell (i:=3) rfl)) ?_;refine RQ.au rfl rfl rfl rfl (aK rfl) ?_;refine RQ.cW (d:=12) (b':=false) rfl (rfl) ?_;refine RQ.au rfl rfl rfl rfl (aK rfl) ?_;refine RQ.au rfl rfl rfl rfl (aO rfl) ?_;refine RQ.au rfl rfl rfl rfl (af (off:=1) underlying69 rfl rfl H.bY rfl) ?_;refine RQ.au rfl rfl rfl rfl (ah H.cG rfl (hk.cell (i:=1) rfl)) ?_;refine RQ.au rfl rfl rfl rfl (aK rfl) ?_;refine RQ.au rfl rfl rfl rfl (aO rfl) ?_;refine RQ.au rfl rfl rfl rfl (af (off:=0) underlying69 rfl rfl H.nP rfl) ?_;refine RQ.au rfl rfl rfl rfl (ah H.nU rfl (hk.cell (i:=0) rfl)) ?_;refine RQ.au rfl rfl rfl rfl (aj.aJ underlying64 rfl) ?_;refine RQ.au rfl rfl rfl rfl (lS rfl rfl) ?_;refine RQ.au rfl rfl rfl rfl (aj.n5 rfl rfl) ?_;refine RQ.au rfl rfl rfl rfl (aK rfl) ?_;refine RQ.cW (d:=24) (b':=true) rfl (decide_eq_true ((by omega))) ?_;refine RQ.aU rfl rfl rfl rfl ?_;refine RQ.aU rfl rfl rfl rfl ?_;refine RQ.aU rfl rfl rfl rfl ?_;refine RQ.aU rfl rfl rfl rfl ?_;refine RQ.aU rfl rfl rfl rfl ?_;refine RQ.aU rfl rfl rfl rfl ?_;refine RQ.aU rfl rfl rfl rfl ?_;refine RQ.aU rfl rfl rfl rfl ?_;refine RQ.aU rfl rfl rfl rfl ?_;refine RQ.aU rfl rfl rfl rfl ?_;refine RQ.aU rfl rfl rfl rfl ?_;refine RQ.aU rfl rfl rfl rfl ?_;refine RQ.aU rfl rfl rfl rfl ?_;refine RQ.au rfl rfl rfl rfl (aj.mI rfl rfl) ?_;refine RQ.au rfl rfl rfl rfl (aK rfl) ?_;refine RQ.aU rfl rfl rfl rfl ?_;refine RQ.aU rfl rfl rfl rfl ?_;refine RQ.aU rfl rfl rfl rfl ?_;refine RQ.aU rfl rfl rfl rfl ?_;refine RQ.aU rfl rfl rfl rfl ?_;refine RQ.aU rfl rfl rfl rfl ?_;refine RQ.aU rfl rfl rfl rfl ?_;refine RQ.aU rfl rfl rfl rfl ?_;refine RQ.aU rfl rfl rfl rfl ?_;refine RQ.aU rfl rfl rfl rfl ?_;refine RQ.aU rfl rfl rfl rfl ?_;refine RQ.aU rfl rfl rfl rfl ?_;refine RQ.aU rfl rfl rfl rfl ?_;refine RQ.aU rfl rfl rfl rfl ?_;refine RQ.au rfl rfl rfl rfl (aj.mI rfl rfl) ?_;refine b8 rfl ?_;refine xu [0,1,2,6,7,54] rfl ?_;refine aI rfl rfl (fun _=>?_) (fun hc=>absurd hc (by simp));refine aW func26 2 [0,1,2,6,7,54] rfl ?_;refine G.ret func26 rfl rfl ?_;exact⟨_,rfl,rfl,hp,Ext.refl _ _⟩
   |cons u r =>
   obtain⟨hu,hil,hr'⟩:=ET hls hr;obtain⟨b1,o1,u',hua,hub,hu',hrow⟩:=hls.wo hil;rw[hu] at hu';cases hu';have c0:=hrow 0 _ rfl;have c1:=hrow 1 _ rfl;refine ai.of func26 rfl rfl ?_;refine aW func26 2 [0,1,2,6,7] rfl ?_;refine av rfl ?_;refine av rfl ?_;refine G.dB func26 H.mixed rfl (by kernel_rfl) ?_;refine RQ.au rfl rfl rfl rfl (aK rfl) ?_;refine RQ.au rfl rfl rfl rfl (aO rfl) ?_;refine RQ.au rfl rfl rfl rfl (af (off:=3) underlying69 rfl rfl H.mg rfl) ?_;refine RQ.au rfl rfl rfl rfl (ah H.vC rfl (hk.cell (i:=3) rfl)) ?_;refine RQ.au rfl rfl rfl rfl (aK rfl) ?_;refine RQ.cW (d:=12) (b':=false) rfl (rfl) ?_;refine RQ.au rfl rfl rfl rfl (aK rfl) ?_;refine RQ.au rfl rfl rfl rfl (aO rfl) ?_;refine RQ.au rfl rfl rfl rfl (af (off:=1) underlying69 rfl rfl H.bY rfl) ?_;refine RQ.au rfl rfl rfl rfl (ah H.cG rfl (hk.cell (i:=1) rfl)) ?_;refine RQ.au rfl rfl rfl rfl (aK rfl) ?_;refine RQ.au rfl rfl rfl rfl (aO rfl) ?_;refine RQ.au rfl rfl rfl rfl (af (off:=0) underlying69 rfl rfl H.nP rfl) ?_;refine RQ.au rfl rfl rfl rfl (ah H.nU rfl (hk.cell (i:=0) rfl)) ?_;refine RQ.au rfl rfl rfl rfl (aj.aJ underlying64 rfl) ?_;refine RQ.au rfl rfl rfl rfl (lS rfl rfl) ?_;refine RQ.au rfl rfl rfl rfl (aj.n5 rfl rfl) ?_;refine RQ.au rfl rfl rfl rfl (aK rfl) ?_;refine RQ.cW (d:=24) (b':=false) rfl (decide_eq_false ((by omega))) ?_;refine RQ.au rfl rfl rfl rfl (aK rfl) ?_;refine RQ.au rfl rfl rfl rfl (aO rfl) ?_;refine RQ.au rfl rfl rfl rfl (af (off:=0) underlying69 rfl rfl H.nP rfl) ?_;refine RQ.au rfl rfl rfl rfl (ah H.nU rfl (hk.cell (i:=0) rfl)) ?_;refine RQ.au rfl rfl rfl rfl (aK rfl) ?_;refine RQ.au rfl rfl rfl rfl (aO rfl) ?_;refine RQ.au rfl rfl rfl rfl (af (off:=1) underlying69 rfl rfl H.bY rfl) ?_;refine RQ.au rfl rfl rfl rfl (ah H.cG rfl (hk.cell (i:=1) rfl)) ?_;refine RQ.au rfl rfl rfl rfl (aj.ay underlying64 H.kf rfl rfl i rfl hua (by omega)) ?_;refine RQ.au rfl rfl rfl rfl (af (off:=0) underlying106 rfl rfl H.bY rfl) ?_;refine RQ.au rfl rfl rfl rfl (ah H.cG rfl c0) ?_;refine RQ.au rfl rfl rfl rfl (aK rfl) ?_;refine RQ.au rfl rfl rfl rfl (aj.B2 rfl rfl) ?_;refine RQ.au rfl rfl rfl rfl (aj.n5 rfl rfl) ?_;refine RQ.au rfl rfl rfl rfl (aK rfl) ?_;refine Bq (d:=39) rfl (fun hkk=>?_) (fun hkk=>?_)
   · have hkk:=of_decide_eq_true hkk;refine RQ.aU rfl rfl rfl rfl ?_;refine RQ.aU rfl rfl rfl rfl ?_;refine RQ.aU rfl rfl rfl rfl ?_;refine RQ.aU rfl rfl rfl rfl ?_;refine RQ.aU rfl rfl rfl rfl ?_;refine RQ.aU rfl rfl rfl rfl ?_;refine RQ.aU rfl rfl rfl rfl ?_;refine RQ.aU rfl rfl rfl rfl ?_;refine RQ.aU rfl rfl rfl rfl ?_;refine RQ.aU rfl rfl rfl rfl ?_;refine RQ.aU rfl rfl rfl rfl ?_;refine RQ.aU rfl rfl rfl rfl ?_;refine RQ.aU rfl rfl rfl rfl ?_;refine RQ.aU rfl rfl rfl rfl ?_;refine RQ.au rfl rfl rfl rfl (aj.mI rfl rfl) ?_;refine b8 rfl ?_;refine xu [0,1,2,6,7,54] rfl ?_;refine aI rfl rfl (fun _=>?_) (fun hc=>absurd hc (by simp[hkk]));refine aW func26 2 [0,1,2,6,7,54] rfl ?_;refine G.ret func26 rfl rfl ?_;have hno:dL k ts (.ok (u::r))=(none,.ok (u::r)):=by rw[mQ,if_neg (fun q=>hkk (by rw[q.1]))]
     exact⟨_,rfl,by rw[hno];rfl,by rw[hno];exact hp,Ext.refl _ _⟩
   · have hkk:=of_decide_eq_false hkk;have hkk:u.1=k:=by simpa using hkk
     refine RQ.au rfl rfl rfl rfl (aK rfl) ?_;refine RQ.au rfl rfl rfl rfl (aK rfl) ?_;refine RQ.au rfl rfl rfl rfl (aO rfl) ?_;refine RQ.au rfl rfl rfl rfl (af (off:=0) underlying69 rfl rfl H.nP rfl) ?_;refine RQ.au rfl rfl rfl rfl (ah H.nU rfl (hk.cell (i:=0) rfl)) ?_;refine RQ.au rfl rfl rfl rfl (aK rfl) ?_;refine RQ.au rfl rfl rfl rfl (aO rfl) ?_;refine RQ.au rfl rfl rfl rfl (af (off:=1) underlying69 rfl rfl H.bY rfl) ?_;refine RQ.au rfl rfl rfl rfl (ah H.cG rfl (hk.cell (i:=1) rfl)) ?_;refine RQ.au rfl rfl rfl rfl (aj.ay underlying64 H.kf rfl rfl i rfl hua (by omega)) ?_;refine RQ.au rfl rfl rfl rfl (af (off:=1) underlying106 rfl rfl H.dA rfl) ?_;refine RQ.au rfl rfl rfl rfl (ah H.dO rfl c1) ?_;refine RQ.IE (vs:=[_,_]) rfl rfl rfl rfl rfl func49 rfl H.I2 rfl (oP ht u.2.1) ?_;refine RQ.au rfl rfl rfl rfl (aj.Hf rfl) ?_;refine RQ.au rfl rfl rfl rfl (aj.n5 rfl rfl) ?_;refine b8 rfl ?_;refine xu [0,1,2,6,7,54] rfl ?_;refine aI rfl rfl (fun hin=>?_) (fun hin=>?_)
     · have hin:u.2.1∉ts:=by simpa using hin
       refine aW func26 2 [0,1,2,6,7,54] rfl ?_;refine G.ret func26 rfl rfl ?_;have hno:dL k ts (.ok (u::r))=(none,.ok (u::r)):=by rw[mQ,if_neg (fun q=>hin q.2)]
       exact⟨_,rfl,by rw[hno];rfl,by rw[hno];exact hp,Ext.refl _ _⟩
     · have hin:u.2.1∈ts:=by simpa using hin
       refine aE rfl ?_;refine br func26 2 rfl ?_;refine xp rfl (af (off:=1) underlying69 rfl rfl H.bY rfl) ?_;refine xp rfl (ah H.cG rfl (hk.cell (i:=1) rfl)) ?_;refine xp rfl (aj.bA rfl rfl ⟨by omega,by omega⟩) ?_;refine bP 1 rfl rfl (af (off:=1) underlying69 rfl rfl H.bY rfl) ?_;refine RW.bZ rfl rfl rfl (aC.bF H.bY rfl rfl hk (by first|decide|exact of_decide_eq_true rfl|(simp;done)|(simp;omega)) rfl) ?_;rintro _ h1 ⟨rfl,k1,x1,z1⟩;refine xd [0,1,2,6,7,54] rfl ?_;refine av rfl ?_;refine G.dB func26 H.mixed rfl (by kernel_rfl) ?_;refine RQ.au rfl rfl rfl rfl (aK rfl) ?_;refine RQ.au rfl rfl rfl rfl (aO rfl) ?_;refine RQ.au rfl rfl rfl rfl (af (off:=0) underlying69 rfl rfl H.nP rfl) ?_;have hls1:=hls.mv (Mv.dc x1 fun b _ ho=>⟨fun q=>ho (.inl q),ho⟩);obtain⟨b2,o2,u2,hua2,hub2,hu2,hrow2⟩:=hls1.wo hil;rw[hu] at hu2;cases hu2;refine RQ.au rfl rfl rfl rfl (ah H.nU rfl (k1.cell (i:=0) rfl)) ?_;refine RQ.au rfl rfl rfl rfl (aK rfl) ?_;refine RQ.au rfl rfl rfl rfl (aO rfl) ?_;refine RQ.au rfl rfl rfl rfl (af (off:=1) underlying69 rfl rfl H.bY rfl) ?_;refine RQ.au rfl rfl rfl rfl (ah H.cG rfl (k1.cell (i:=1) rfl)) ?_;refine RQ.au rfl rfl rfl rfl (aj.iF rfl rfl ⟨by omega,by omega⟩) ?_;refine RQ.au rfl rfl rfl rfl (aj.ay underlying64 H.kf rfl rfl i (by omega) hua2 (by omega)) ?_;refine RQ.au rfl rfl rfl rfl (af (off:=1) underlying106 rfl rfl H.dA rfl) ?_;refine RQ.au rfl rfl rfl rfl (ah H.dO rfl (hrow2 1 _ rfl)) ?_;refine RQ.au rfl rfl rfl rfl (aj.assign rfl) ?_;refine RQ.au rfl rfl rfl rfl (aj.assign rfl) ?_;refine b8 rfl ?_;refine xu [0,1,2,6,7,54] rfl ?_;refine G.ret func26 rfl rfl ?_;have hyes:dL k ts (.ok (u::r))=(some u.2.1,.ok r):=by rw[mQ,if_pos ⟨hkk,hin⟩]
       refine⟨_,rfl,by rw[hyes];rfl,?_,x1⟩;rw[hyes];exact⟨i+1,false,m,k1,hls1.shut,hil,⟨rfl,hr'⟩,hpn,by have:=x1.size;dsimp only;omega⟩
abbrev Mh:Value:=.agg #[.int .i64 0,.string (bs []),.slice none 0 0]
theorem eI {c:PC}(hp:qL c h s) :
 ai Tryz.prog 27 #[ptr c.pb] h (cL fun r h'=>r=Mh∧qL c h' (dM c.e s)∧Ext (fun b=>b=c.pb) h h'):=by
 obtain⟨pb,lv,n0,us,e⟩:=c;obtain⟨i,b,m,hk,hl,hi,hs,hpn,hn0⟩:=id hp;dsimp only at hk hl hi hs hpn hn0 ⊢;obtain⟨la,ln,lc,rfl,hls⟩:=hl.open;have hln:us.length=ln:=hls.len;subst hln;have hlm:=hls.cap;have hlc:=hls.le;simp only[maxLen] at hlm;have hpl:=hk.lt;cases s with
 |bad q =>
  obtain⟨rfl,rfl⟩:=hs;refine ai.of func27 rfl rfl ?_;refine xr func27 rfl ?_;refine xo rfl (aC.aR H.eG) ?_;rintro _ h1 ⟨rfl,k1,e1,z1⟩;refine xd [0,2] rfl ?_;refine av rfl ?_;refine br func27 2 rfl ?_;refine xp rfl (af (off:=3) underlying69 rfl rfl H.mg rfl) ?_;refine xp rfl (ah H.vC rfl ((hk.ax e1).cell (i:=3) rfl)) ?_;refine aQ 1 [0,2,7] rfl ?_;refine aI rfl rfl (fun hc=>absurd hc (by simp)) (fun _=>?_);refine aE rfl ?_;refine xr func27 rfl ?_;refine xp rfl (aP (H.Bh ) rfl) ?_;refine RW.bZ rfl rfl rfl (aC.aB H.aV rfl rfl k1 (by first|rfl|(simp;done)|(simp;omega)) (by first|decide|exact of_decide_eq_true rfl|(simp;done)|(simp;omega)) (by first|decide|simp[Value.oneCell'])) ?_;rintro _ h2 ⟨rfl,k2,x2,z2⟩;refine xd [0,2,7] rfl ?_;refine G.cN func27 rfl (.cons (bu.cB H.bN H.aV rfl (k2.row) (by first|rfl|(simp;done)|(simp;omega))) (.nil)) ?_;exact⟨_,rfl,rfl,(hp.ax e1).ext x2 (fun y (hy:y<n0) q=>by omega),e1.of.fo x2 (fun y _ q=>by omega)⟩
  |ok r =>
  obtain⟨rfl,hr⟩:=hs;refine ai.of func27 rfl rfl ?_;refine xr func27 rfl ?_;refine xo rfl (aC.aR H.eG) ?_;rintro _ h1 ⟨rfl,k1,e1,z1⟩;refine xd [0,2] rfl ?_;refine av rfl ?_;refine br func27 2 rfl ?_;refine xp rfl (af (off:=3) underlying69 rfl rfl H.mg rfl) ?_;refine xp rfl (ah H.vC rfl ((hk.ax e1).cell (i:=3) rfl)) ?_;refine aQ 1 [0,2,7] rfl ?_;have hk1:=hk.ax e1;refine aI rfl rfl (fun _=>?_) (fun hc=>absurd hc (by simp));refine br func27 4 rfl ?_;refine xp rfl (af (off:=2) underlying69 rfl rfl H.bY rfl) ?_;refine xp rfl (ah H.cG rfl (hk1.cell (i:=2) rfl)) ?_;refine bP 1 rfl rfl (af (off:=3) underlying69 rfl rfl H.mg rfl) ?_;refine RW.bZ rfl rfl rfl (aC.bF H.mg rfl rfl hk1 (by first|decide|exact of_decide_eq_true rfl|(simp;done)|(simp;omega)) rfl) ?_;rintro _ h2 ⟨rfl,k2,x2,z2⟩;refine bP 1 rfl rfl (af (off:=4) underlying69 rfl rfl H.bY rfl) ?_;refine RW.bZ rfl rfl rfl (aC.bF H.bY rfl rfl k2 (by first|decide|exact of_decide_eq_true rfl|(simp;done)|(simp;omega)) rfl) ?_;rintro _ h3 ⟨rfl,k3,x3,z3⟩;refine xd [0,2,7] rfl ?_;refine av rfl ?_;refine G.dB func27 H.mixed rfl (by kernel_rfl) ?_;refine RQ.au rfl rfl rfl rfl (aK rfl) ?_;refine RQ.au rfl rfl rfl rfl (aO rfl) ?_;refine RQ.au rfl rfl rfl rfl (af (off:=1) underlying69 rfl rfl H.bY rfl) ?_;have x13:=x2.trans x3;have hls3:=(hls.mv (Mv.ax e1)).mv (Mv.dc x13 fun b _ ho=>⟨fun q=>ho (.inl q),ho⟩);have k13:=k1.ext x13 (show ¬h.size=pb by omega);refine RQ.au rfl rfl rfl rfl (ah H.cG rfl (k3.cell (i:=1) rfl)) ?_;refine RQ.au rfl rfl rfl rfl (aK rfl) ?_;refine RQ.au rfl rfl rfl rfl (aO rfl) ?_;refine RQ.au rfl rfl rfl rfl (af (off:=0) underlying69 rfl rfl H.nP rfl) ?_;refine RQ.au rfl rfl rfl rfl (ah H.nU rfl (k3.cell (i:=0) rfl)) ?_;refine RQ.au rfl rfl rfl rfl (aj.aJ underlying64 rfl) ?_;refine RQ.au rfl rfl rfl rfl (Dm rfl rfl) ?_;refine b8 rfl ?_;refine xu [0,2,7,27] rfl ?_;refine aL rfl rfl (fun hlt=>?_) (fun hlt=>?_)
  · have hil:i<us.length:=by omega
    obtain⟨b1,o1,u,hua,hub,hu,hrow⟩:=hls3.wo hil;refine bV (fun b=>Array.size h3≤b) (fun i=>Nat.blt i 14) (sz:=15) (listed:= #[false,false,false,false,false,false,false,false,false,false,false,false,false,false,false]) func27 H.mixed rfl rfl rfl ?_;refine b9 0 1 (by kernel_rfl) rfl ?_;refine b9 1 3 (by kernel_rfl) rfl ?_;refine b9 2 7 (by kernel_rfl) rfl ?_;refine bI 3 15 (by kernel_rfl) rfl (fun h' e=>af (off:=0) underlying69 rfl rfl H.nP rfl) ?_;refine bI 4 31 (by kernel_rfl) rfl (fun h' e=>ah H.nU rfl (e.old (k3.cell (i:=0) rfl))) ?_;refine b9 5 63 (by kernel_rfl) rfl ?_;refine b9 6 127 (by kernel_rfl) rfl ?_;refine bI 7 255 (by kernel_rfl) rfl (fun h' e=>af (off:=1) underlying69 rfl rfl H.bY rfl) ?_;refine bI 8 511 (by kernel_rfl) rfl (fun h' e=>ah H.cG rfl (e.old (k3.cell (i:=1) rfl))) ?_;refine bI 9 1023 (by kernel_rfl) rfl (fun h' e=>aj.ay underlying64 H.kf rfl rfl i rfl hua (by omega)) ?_;refine bI 10 2047 (by kernel_rfl) rfl (fun h' e=>af (off:=2) underlying106 rfl rfl H.bY rfl) ?_;refine bI 11 4095 (by kernel_rfl) rfl (fun h' e=>ah H.cG rfl (e.old (hrow 2 _ rfl))) ?_;refine cU 12 8191 (by kernel_rfl) rfl (aj.bw (aO rfl)) ?_;rintro _ hq_ ⟨rfl,hqe_⟩;replace hqe_:=hqe_.symm;subst hqe_;refine⟨fun _=>Ext.refl _ _,?_⟩;refine bI 13 16383 (by kernel_rfl) rfl (fun h' e=>af (off:=4) underlying69 rfl rfl H.bY rfl) ?_;refine fS 14 32767 (by kernel_rfl) rfl (aC.bF H.bY rfl rfl k3 (by first|decide|exact of_decide_eq_true rfl|(simp;done)|(simp;omega)) rfl) ?_;rintro _ h4 ⟨rfl,k4,x4,z4⟩;refine⟨fun hk=>(nomatch hk),?_⟩;refine bg (by kernel_rfl) ?_;refine xu [0,2,7,27] rfl ?_;refine xr func27 rfl ?_;refine xp rfl (aP (H.Bh ) rfl) ?_;refine RW.bZ rfl rfl rfl (aC.aB H.aV rfl rfl (k13.ext x4 (show ¬h.size=pb by omega)) (by first|rfl|(simp;done)|(simp;omega)) (by first|decide|exact of_decide_eq_true rfl|(simp;done)|(simp;omega)) (by first|decide|simp[Value.oneCell'])) ?_;rintro _ h5 ⟨rfl,k5,x5,z5⟩;refine xd [0,2,7,27] rfl ?_;refine G.cN func27 rfl (.cons (bu.cB H.bN H.aV rfl (k5.row) (by first|rfl|(simp;done)|(simp;omega))) (.nil)) ?_;have hr2:r=u::us.drop (i+1):=by rw[hr,List.drop_eq_getElem_cons hil];congr 1;rw[List.getElem?_eq_getElem hil] at hu;exact Option.some.inj hu
    subst hr2;have hls4:=hls3.mv (Mv.dc x4 fun b _ ho=>⟨fun q=>ho (.inl q),ho⟩);refine⟨_,rfl,rfl,CA.ext (c:=⟨pb,_,n0,us,e⟩) (M:=fun b=>b=h.size) ⟨i,true,u.2.2,k4,hls4.shut,hi,⟨rfl,rfl⟩,hpn,by dsimp only;omega⟩ x5 (fun y (hy:y<n0) q=>by omega),((e1.of.trans x13).trans x4).fo x5 (fun y _ q=>by omega)⟩
  · refine aE rfl ?_;refine xr func27 rfl ?_;refine xp rfl (aP (H.Bh ) rfl) ?_;refine RW.bZ rfl rfl rfl (aC.aB H.aV rfl rfl k13 (by first|rfl|(simp;done)|(simp;omega)) (by first|decide|exact of_decide_eq_true rfl|(simp;done)|(simp;omega)) (by first|decide|simp[Value.oneCell'])) ?_;rintro _ h5 ⟨rfl,k5,x5,z5⟩;refine xd [0,2,7,27] rfl ?_;refine G.cN func27 rfl (.cons (bu.cB H.bN H.aV rfl (k5.row) (by first|rfl|(simp;done)|(simp;omega))) (.nil)) ?_;have hil:i=us.length:=by omega
    have hr2:r=[]:=by rw[hr,hil,List.drop_length]
    subst hr2;refine⟨_,rfl,rfl,CA.ext (c:=⟨pb,_,n0,us,e⟩) (M:=fun b=>b=h.size) ⟨i,true,e,k3,hls3.shut,hi,⟨rfl,rfl⟩,hpn,by dsimp only;omega⟩ x5 (fun y (hy:y<n0) q=>by omega),(e1.of.trans x13).fo x5 (fun y _ q=>by omega)⟩
theorem gm {c:PC}(hp:qL c h s) (k:Int) (t:By) :
 ai Tryz.prog 89 #[ptr c.pb,.int .i64 k,.string (bs t)] h (cL fun r h'=>qL c h' (eK c.e k t s)∧Ext (fun b=>b=c.pb) h h'):=by
 have hpl:=hp.lt;refine ai.of func89 rfl rfl ?_;refine br func89 3 rfl ?_;refine xo rfl (aC.aZ (us:=[_]) underlying93 H.nT rfl rfl (by decide) (by simp[Value.oneCell'])) ?_;rintro _ h1 ⟨rfl,hh1⟩;have e1:aF h h1:=by rw[hh1];exact Ext.push _ _ _
 have IA:bU mV h1 (fun _=>False) (.slice (some ⟨h.size,0,none⟩) 1 1) [t]:=by rw[hh1];exact cj h [t] _ rfl (by simp[maxLen]) rfl
 refine xo rfl (aq (vs:=[_,_,_]) func26 rfl H.iY rfl (ai.bw (cg (hp.ax e1) k IA))) ?_;rintro _ h2 ⟨rfl,hp2,x2⟩;refine aQ 5 [0,1,2,7] rfl ?_;refine aW func89 2 [0,1,2,7,17] rfl ?_;refine aI rfl rfl (fun hq=>?_) (fun hq=>?_)
 · have hq:(dL k [t] s).1=none:=by simpa using hq
   have hm:eK c.e k t s=dM c.e (dL k [t] s).2:=by unfold eK;rw[hq]
   refine G.bT func89 rfl ?_;refine aT 1 rfl ?_;refine xo rfl (aq (vs:=[_]) func27 rfl H.wq rfl (ai.bw (eI hp2))) ?_;rintro _ h3 ⟨rfl,hp3,x3⟩;refine xd [0,1,2,7,17] rfl ?_;refine G.u6 func89 rfl ?_;exact⟨_,rfl,by rw[hm];exact hp3,e1.of.trans (x2.trans x3)⟩
 · refine aE rfl ?_;refine G.u6 func89 rfl ?_
   have hm:eK c.e k t s=(dL k [t] s).2:=by
    unfold eK;cases hs:(dL k [t] s).1 with
    |some x=>rfl
    |none=>rw[hs] at hq;simp at hq
   exact⟨_,rfl,by rw[hm];exact hp2,e1.of.trans x2⟩
theorem rP {c:PC}(hp:qL c h s) :
 ai Tryz.prog 88 #[ptr c.pb] h (cL fun r h'=>r= .string (bs (dX c.e s).1)∧qL c h' (dX c.e s).2∧Ext (fun b=>b=c.pb) h h'):=by
 obtain⟨pb,lv,n0,us,e⟩:=c;obtain⟨i,b,m,hk,hl,hi,hs,hpn,hn0⟩:=id hp;dsimp only at hk hl hi hs hpn hn0 ⊢;obtain⟨la,ln,lc,rfl,hls⟩:=hl.open;have hln:us.length=ln:=hls.len;subst hln;have hlm:=hls.cap;have hlc:=hls.le;simp only[maxLen] at hlm;have hf:=eI hp;dsimp only at hf;cases s with
 |bad q =>
  obtain⟨rfl,rfl⟩:=hs;refine ai.of func88 rfl rfl ?_;refine aW func88 1 [0,2] rfl ?_;refine av rfl ?_;refine av rfl ?_;refine G.dB func88 H.mixed rfl (by kernel_rfl) ?_;refine RQ.au rfl rfl rfl rfl (aK rfl) ?_;refine RQ.au rfl rfl rfl rfl (aO rfl) ?_;refine RQ.au rfl rfl rfl rfl (af (off:=3) underlying69 rfl rfl H.mg rfl) ?_;refine RQ.au rfl rfl rfl rfl (ah H.vC rfl (hk.cell (i:=3) rfl)) ?_;refine RQ.au rfl rfl rfl rfl (aK rfl) ?_;refine RQ.cW (d:=7) (b':=true) rfl (rfl) ?_;refine RQ.aU rfl rfl rfl rfl ?_;refine RQ.aU rfl rfl rfl rfl ?_;refine RQ.aU rfl rfl rfl rfl ?_;refine RQ.aU rfl rfl rfl rfl ?_;refine RQ.aU rfl rfl rfl rfl ?_;refine RQ.aU rfl rfl rfl rfl ?_;refine RQ.aU rfl rfl rfl rfl ?_;refine RQ.aU rfl rfl rfl rfl ?_;refine RQ.aU rfl rfl rfl rfl ?_;refine RQ.aU rfl rfl rfl rfl ?_;refine RQ.au rfl rfl rfl rfl (aj.mI rfl rfl) ?_;refine RQ.au rfl rfl rfl rfl (aK rfl) ?_;refine RQ.aU rfl rfl rfl rfl ?_;refine RQ.aU rfl rfl rfl rfl ?_;refine RQ.aU rfl rfl rfl rfl ?_;refine RQ.aU rfl rfl rfl rfl ?_;refine RQ.aU rfl rfl rfl rfl ?_;refine RQ.aU rfl rfl rfl rfl ?_;refine RQ.aU rfl rfl rfl rfl ?_;refine RQ.aU rfl rfl rfl rfl ?_;refine RQ.aU rfl rfl rfl rfl ?_;refine RQ.aU rfl rfl rfl rfl ?_;refine RQ.aU rfl rfl rfl rfl ?_;refine RQ.aU rfl rfl rfl rfl ?_;refine RQ.au rfl rfl rfl rfl (aj.mI rfl rfl) ?_;refine b8 rfl ?_;refine xu [0,2,32] rfl ?_;refine aI rfl rfl (fun _=>?_) (fun hc=>absurd hc (by simp));refine br func88 1 rfl ?_;refine xo rfl (aq (vs:=[_]) func27 rfl H.wq rfl (ai.bw (hf))) ?_;rintro _ h2 ⟨rfl,hp2,x2⟩;refine xd [0,2,32] rfl ?_;refine aW func88 1 [0,2,32] rfl ?_;refine G.ret func88 rfl rfl ?_;exact⟨_,rfl,rfl,hp2,x2⟩
  |ok r =>
  obtain⟨rfl,hr⟩:=hs;cases r with
  |nil =>
   have hie:=BG hr hi;refine ai.of func88 rfl rfl ?_;refine aW func88 1 [0,2] rfl ?_;refine av rfl ?_;refine av rfl ?_;refine G.dB func88 H.mixed rfl (by kernel_rfl) ?_;refine RQ.au rfl rfl rfl rfl (aK rfl) ?_;refine RQ.au rfl rfl rfl rfl (aO rfl) ?_;refine RQ.au rfl rfl rfl rfl (af (off:=3) underlying69 rfl rfl H.mg rfl) ?_;refine RQ.au rfl rfl rfl rfl (ah H.vC rfl (hk.cell (i:=3) rfl)) ?_;refine RQ.au rfl rfl rfl rfl (aK rfl) ?_;refine RQ.cW (d:=7) (b':=false) rfl (rfl) ?_;refine RQ.au rfl rfl rfl rfl (aK rfl) ?_;refine RQ.au rfl rfl rfl rfl (aO rfl) ?_;refine RQ.au rfl rfl rfl rfl (af (off:=1) underlying69 rfl rfl H.bY rfl) ?_;refine RQ.au rfl rfl rfl rfl (ah H.cG rfl (hk.cell (i:=1) rfl)) ?_;refine RQ.au rfl rfl rfl rfl (aK rfl) ?_;refine RQ.au rfl rfl rfl rfl (aO rfl) ?_;refine RQ.au rfl rfl rfl rfl (af (off:=0) underlying69 rfl rfl H.nP rfl) ?_;refine RQ.au rfl rfl rfl rfl (ah H.nU rfl (hk.cell (i:=0) rfl)) ?_;refine RQ.au rfl rfl rfl rfl (aj.aJ underlying64 rfl) ?_;refine RQ.au rfl rfl rfl rfl (lS rfl rfl) ?_;refine RQ.au rfl rfl rfl rfl (aj.n5 rfl rfl) ?_;refine RQ.au rfl rfl rfl rfl (aK rfl) ?_;refine RQ.cW (d:=19) (b':=true) rfl (decide_eq_true ((by omega))) ?_;refine RQ.aU rfl rfl rfl rfl ?_;refine RQ.aU rfl rfl rfl rfl ?_;refine RQ.aU rfl rfl rfl rfl ?_;refine RQ.aU rfl rfl rfl rfl ?_;refine RQ.aU rfl rfl rfl rfl ?_;refine RQ.aU rfl rfl rfl rfl ?_;refine RQ.aU rfl rfl rfl rfl ?_;refine RQ.aU rfl rfl rfl rfl ?_;refine RQ.aU rfl rfl rfl rfl ?_;refine RQ.aU rfl rfl rfl rfl ?_;refine RQ.aU rfl rfl rfl rfl ?_;refine RQ.aU rfl rfl rfl rfl ?_;refine RQ.au rfl rfl rfl rfl (aj.mI rfl rfl) ?_;refine b8 rfl ?_;refine xu [0,2,32] rfl ?_;refine aI rfl rfl (fun _=>?_) (fun hc=>absurd hc (by simp));refine br func88 1 rfl ?_;refine xo rfl (aq (vs:=[_]) func27 rfl H.wq rfl (ai.bw (hf))) ?_;rintro _ h2 ⟨rfl,hp2,x2⟩;refine xd [0,2,32] rfl ?_;refine aW func88 1 [0,2,32] rfl ?_;refine G.ret func88 rfl rfl ?_;exact⟨_,rfl,rfl,hp2,x2⟩
   |cons u r =>
   obtain⟨hu,hil,hr'⟩:=ET hls hr;obtain⟨b1,o1,u',hua,hub,hu',hrow⟩:=hls.wo hil;rw[hu] at hu';cases hu';have c0:=hrow 0 _ rfl;refine ai.of func88 rfl rfl ?_;refine aW func88 1 [0,2] rfl ?_;refine av rfl ?_;refine av rfl ?_;refine G.dB func88 H.mixed rfl (by kernel_rfl) ?_;refine RQ.au rfl rfl rfl rfl (aK rfl) ?_;refine RQ.au rfl rfl rfl rfl (aO rfl) ?_;refine RQ.au rfl rfl rfl rfl (af (off:=3) underlying69 rfl rfl H.mg rfl) ?_;refine RQ.au rfl rfl rfl rfl (ah H.vC rfl (hk.cell (i:=3) rfl)) ?_;refine RQ.au rfl rfl rfl rfl (aK rfl) ?_;refine RQ.cW (d:=7) (b':=false) rfl (rfl) ?_;refine RQ.au rfl rfl rfl rfl (aK rfl) ?_;refine RQ.au rfl rfl rfl rfl (aO rfl) ?_;refine RQ.au rfl rfl rfl rfl (af (off:=1) underlying69 rfl rfl H.bY rfl) ?_;refine RQ.au rfl rfl rfl rfl (ah H.cG rfl (hk.cell (i:=1) rfl)) ?_;refine RQ.au rfl rfl rfl rfl (aK rfl) ?_;refine RQ.au rfl rfl rfl rfl (aO rfl) ?_;refine RQ.au rfl rfl rfl rfl (af (off:=0) underlying69 rfl rfl H.nP rfl) ?_;refine RQ.au rfl rfl rfl rfl (ah H.nU rfl (hk.cell (i:=0) rfl)) ?_;refine RQ.au rfl rfl rfl rfl (aj.aJ underlying64 rfl) ?_;refine RQ.au rfl rfl rfl rfl (lS rfl rfl) ?_;refine RQ.au rfl rfl rfl rfl (aj.n5 rfl rfl) ?_;refine RQ.au rfl rfl rfl rfl (aK rfl) ?_;refine RQ.cW (d:=19) (b':=false) rfl (decide_eq_false ((by omega))) ?_;refine RQ.au rfl rfl rfl rfl (aK rfl) ?_;refine RQ.au rfl rfl rfl rfl (aO rfl) ?_;refine RQ.au rfl rfl rfl rfl (af (off:=0) underlying69 rfl rfl H.nP rfl) ?_;refine RQ.au rfl rfl rfl rfl (ah H.nU rfl (hk.cell (i:=0) rfl)) ?_;refine RQ.au rfl rfl rfl rfl (aK rfl) ?_;refine RQ.au rfl rfl rfl rfl (aO rfl) ?_;refine RQ.au rfl rfl rfl rfl (af (off:=1) underlying69 rfl rfl H.bY rfl) ?_;refine RQ.au rfl rfl rfl rfl (ah H.cG rfl (hk.cell (i:=1) rfl)) ?_;refine RQ.au rfl rfl rfl rfl (aj.ay underlying64 H.kf rfl rfl i rfl hua (by omega)) ?_;refine RQ.au rfl rfl rfl rfl (af (off:=0) underlying106 rfl rfl H.bY rfl) ?_;refine RQ.au rfl rfl rfl rfl (ah H.cG rfl c0) ?_;refine RQ.au rfl rfl rfl rfl (aj.B2 rfl rfl) ?_;refine RQ.au rfl rfl rfl rfl (aj.n5 rfl rfl) ?_;refine b8 rfl ?_;refine xu [0,2,32] rfl ?_;refine aI rfl rfl (fun hkk=>?_) (fun hkk=>?_)
   · have hkk:¬u.1=3:=by simpa using hkk
     refine br func88 1 rfl ?_;refine xo rfl (aq (vs:=[_]) func27 rfl H.wq rfl (ai.bw (hf))) ?_;rintro _ h2 ⟨rfl,hp2,x2⟩;refine xd [0,2,32] rfl ?_;refine aW func88 1 [0,2,32] rfl ?_;refine G.ret func88 rfl rfl ?_;have hno:dX e (.ok (u::r))=([],dM e (.ok (u::r))):=by rw[oI,if_neg hkk]
     rw[hno];exact⟨_,rfl,rfl,hp2,x2⟩
   · have hkk:u.1=3:=by simpa using hkk
     refine aE rfl ?_;refine br func88 2 rfl ?_;refine xp rfl (af (off:=1) underlying69 rfl rfl H.bY rfl) ?_;refine xp rfl (ah H.cG rfl (hk.cell (i:=1) rfl)) ?_;refine xp rfl (aj.bA rfl rfl ⟨by omega,by omega⟩) ?_;refine bP 1 rfl rfl (af (off:=1) underlying69 rfl rfl H.bY rfl) ?_;refine RW.bZ rfl rfl rfl (aC.bF H.bY rfl rfl hk (by first|decide|exact of_decide_eq_true rfl|(simp;done)|(simp;omega)) rfl) ?_;rintro _ h1 ⟨rfl,k1,x1,z1⟩;refine xd [0,2,32] rfl ?_;refine av rfl ?_;refine G.dB func88 H.mixed rfl (by kernel_rfl) ?_;refine RQ.au rfl rfl rfl rfl (aK rfl) ?_;refine RQ.au rfl rfl rfl rfl (aO rfl) ?_;refine RQ.au rfl rfl rfl rfl (af (off:=0) underlying69 rfl rfl H.nP rfl) ?_;have hls1:=hls.mv (Mv.dc x1 fun b _ ho=>⟨fun q=>ho (.inl q),ho⟩);obtain⟨b2,o2,u2,hua2,hub2,hu2,hrow2⟩:=hls1.wo hil;rw[hu] at hu2;cases hu2;refine RQ.au rfl rfl rfl rfl (ah H.nU rfl (k1.cell (i:=0) rfl)) ?_;refine RQ.au rfl rfl rfl rfl (aK rfl) ?_;refine RQ.au rfl rfl rfl rfl (aO rfl) ?_;refine RQ.au rfl rfl rfl rfl (af (off:=1) underlying69 rfl rfl H.bY rfl) ?_;refine RQ.au rfl rfl rfl rfl (ah H.cG rfl (k1.cell (i:=1) rfl)) ?_;refine RQ.au rfl rfl rfl rfl (aj.iF rfl rfl ⟨by omega,by omega⟩) ?_;refine RQ.au rfl rfl rfl rfl (aj.ay underlying64 H.kf rfl rfl i (by omega) hua2 (by omega)) ?_;refine RQ.au rfl rfl rfl rfl (af (off:=1) underlying106 rfl rfl H.dA rfl) ?_;refine RQ.au rfl rfl rfl rfl (ah H.dO rfl (hrow2 1 _ rfl)) ?_;refine RQ.au rfl rfl rfl rfl (aj.assign rfl) ?_;refine b8 rfl ?_;refine xu [0,2,32] rfl ?_;refine G.ret func88 rfl rfl ?_;have hyes:dX e (.ok (u::r))=(u.2.1,.ok r):=by rw[oI,if_pos hkk]
     rw[hyes];exact⟨_,rfl,rfl,⟨i+1,false,m,k1,hls1.shut,hil,⟨rfl,hr'⟩,hpn,by have:=x1.size;dsimp only;omega⟩,x1⟩
end
end Go.Proofs.YtedocgkapmeceaaGreatDoor
namespace Go.Lw
section
variable {P:Program}{ρ:Env}{h:aD}{dst:Option Nat}{ty:TypeId}{pos:String}{after:Array Edge}{guard:Option (Nat×Bool)}{X:List PanicEntry→aD→Prop}
theorem aC.Cs {t e:TypeId}{size bytes:Nat}(ht:P.underlying t=some (.slice e)) (he:fD P e size bytes) :
 aC P ⟨dst,.buildSlice t 0 #[],ty,pos,after,guard⟩ ρ h (fun u g=>u= .slice (some ⟨h.size,0,none⟩) 0 0∧g=h.push (.cells #[] e)) X :=
 gD (vs:=[]) (cells:= #[]) ht he rfl (by omega) (fun z _=>by simp[Instr.fill])
end
theorem CC (h:aD) (t:TypeId) (size base:Nat) (hb:base≤h.size):aS (h.push (.cells #[] t)) base t size (.slice (some ⟨h.size,0,none⟩) 0 0) 0 [] :=
 ⟨by simp,.inr ⟨h.size,0,#[],rfl,hb,by simp,Nat.le_refl _,by simp[maxLen],by simp,by simp⟩⟩
end Go.Lw
namespace Go.Lw
theorem bU.open_slice {α:Type}{e:gG α}{h:aD}{O:Nat→Prop}{oa:Option Addr}{n c:Nat}{xs:List α}(k:bU e h O (.slice oa n c) xs):Sl e h O oa n c xs:=by
 obtain⟨oa',n',c',hv,k'⟩:=k.open;cases hv;exact k'
theorem A0 {off:Nat}:∀(cs:List Value) (k:Nat) (pre tl:List Value) (rest:List Value),pre.length=off+k→tl.length=cs.length →
 (cs.zipIdx k).foldl (fun(a:Array Value) (p:Value×Nat)=>a.setIfInBounds (off+p.2) p.1) (pre++(tl++rest)).toArray=(pre++(cs++rest)).toArray
 | [],k,pre,tl,rest,_,hl=>by
  have:tl=[]:=List.eq_nil_of_length_eq_zero (by simpa using hl);subst this;rfl
 |c::cs,k,pre,[],rest,hp,hl=>by simp at hl
 |c::cs,k,pre,t::tl,rest,hp,hl=>by
  rw[List.zipIdx_cons,List.foldl_cons]
  have hset:(pre++(t::tl++rest)).toArray.setIfInBounds (off+k) c=((pre++[c])++(tl++rest)).toArray:=by
   rw[←hp];simp[List.set_append_right]
  simp only[hset];rw[A0 cs (k+1) (pre++[c]) tl rest (by simp[hp];omega) (by simpa using hl)];simp
theorem xC {sz:Nat}:∀(css:List (List Value)),(∀c∈css,c.length=sz)→∀(k:Nat) (pre tl:List Value),pre.length=k*sz→tl.length=css.length*sz →
 Instr.fill (fun i=>some (i*sz,sz)) (pre++tl).toArray (css.zipIdx k |>.map fun p=>(p.2,Value.agg p.1.toArray))=some (pre++css.flatten).toArray
 | [],_,k,pre,tl,_,hl=>by
  have:tl=[]:=List.eq_nil_of_length_eq_zero (by simpa using hl);subst this;simp[Instr.fill]
 |c::css,h1,k,pre,tl,hp,hl=>by
  have hc:c.length=sz:=h1 c (by simp);have hl':tl.length=sz+css.length*sz:=by rw[hl,List.length_cons,Nat.add_mul];omega
  have ih:=xC css (fun v hv=>h1 v (by simp[hv])) (k+1) (pre++c) (tl.drop sz) (by rw[List.length_append,hp,hc,Nat.add_mul];omega) (by rw[List.length_drop];omega);simp only[List.zipIdx_cons,List.map_cons,Instr.fill,Value.cells];have htl:tl=tl.take sz++tl.drop sz:=(List.take_append_drop sz tl).symm;have hf:=A0 (off:=k*sz) c 0 pre (tl.take sz) (tl.drop sz) (by rw[hp];omega) (by rw[List.length_take];omega);rw[←htl] at hf;have h2:¬(c.toArray.size≠sz∨k*sz+c.toArray.size>(pre++tl).toArray.size):=by simp;omega
  have hz:c.toArray.zipIdx.foldl (fun(cs:Array Value) (p:Value×Nat)=>cs.setIfInBounds (k*sz+p.2) p.1) (pre++tl).toArray=(pre++(c++tl.drop sz)).toArray:=by
   rw[←hf];simp
  simp only[Bool.or_eq_true,decide_eq_true_eq,if_neg h2];rw[if_neg (by simpa using h2)];rw[hz,←List.append_assoc,ih];simp
section
variable {P:Program}{ρ:Env}{h:aD}{dst:Option Nat}{ty:TypeId}{pos:String}{after:Array Edge}{guard:Option (Nat×Bool)}{X:List PanicEntry→aD→Prop}
theorem aC.rG {t e:TypeId}{size bytes len:Nat}{ps:Array (Nat×Operand)}(ht:P.underlying t=some (.slice e)) (he:fD P e size bytes) (css:List (List Value))
 (hps:ps.toList.map (fun p=>(p.1,bW ρ p.2))=(css.zipIdx.map fun p=>(p.2,Value.agg p.1.toArray)).map (fun p=>(p.1,some p.2))) (hl:css.length=len) (hlen:len*size≤16777216) (h1:∀c∈css,c.length=size) :
 aC P ⟨dst,.buildSlice t len ps,ty,pos,after,guard⟩ ρ h (fun u g=>u= .slice (some ⟨h.size,0,none⟩) len len∧g=h.push (.cells css.flatten.toArray e)) X:=by
 refine gD ht he hps hlen fun z hz=>?_
 have:=xC css h1 0 [] ((List.range (len*size)).map (fun j=>z[j%z.size]!)) (by simp) (by simp[hl]);rw[List.nil_append,List.nil_append] at this;rw[←this]
 congr 1
 apply Array.ext';simp
end
end Go.Lw
namespace Go.Proofs.YtedocgkapmeceaaGreatDoor
open Go.Proofs.Tryz
open Go Go.Lw
set_option maxRecDepth 20000
section
variable {h g:aD}{s' s s1:PS}{t:Tr}{n b3:Nat}{e k:Int}{u:Un}
def eB (c:PC) (h h':aD) (s':PS) (t:Tr) (r:Value):Prop :=
 Ext (fun b=>b=c.pb) h h'∧qL c h' s'∧∃t',dS h' (fun b=>b<h.size) r t'∧(s'.dm=false→t'=t)
def Ct (f:FuncId) (ex:List Value) (j:Jy) (n:Nat):Prop :=
 ∀(c:PC) (h:aD) (s:PS) (t:Tr) (s':PS),qL c h s→pM c.e n j s=some (t,s')→ai Tryz.prog f (ptr c.pb::ex).toArray h (cL fun r h'=>eB c h h' s' t r)
structure zv (n:Nat):Prop where
 stmt:Ct 25 [] .stmt n
 expr:Ct 48 [] .expr n
 lt:∀a,Ct 47 [.bool a] (.lt a) n
 choice:Ct 90 [] .choice n
 fn:Ct 91 [] .fn n
 block:Ct 130 [] .block n
 p0:Ct 92 [] (.part 0) n
 p1:Ct 131 [] (.part 1) n
 p2:Ct 154 [] (.part 2) n
 p3:Ct 168 [] (.part 3) n
 p4:Ct 188 [] (.part 4) n
 p5:Ct 204 [] (.part 5) n
 p6:Ct 211 [] (.part 6) n
 p7:Ct 213 [] (.part 7) n
 atom:Ct 214 [] .atom n
theorem eB.ret {c:PC}{g2 g3:aD}{b2:Nat}{s0:PS}{r:Value}(k:eB c g g2 s' t r) (hp:qL c h s0) (x:Ext (fun b=>b=c.pb) h g) (x3:Ext (fun b=>b=b2) g2 g3) (h1:h.size≤b2) (h2:b2<g.size):eB c h g3 s' t r:=by
 obtain⟨e1,k1,t',k2,k3⟩:=k;obtain⟨o1,o2⟩:=hp.old;have:=x.size;have:=e1.size;exact⟨(x.trans e1).fo x3 (fun i hi q=>by omega),k1.ext x3 (fun b hb q=>by omega),t',k2.ext x3 (fun b hb q=>⟨fun q2=>q (by omega),fun q2=>q (by omega)⟩),k3⟩
theorem zA (ih:∀m,m≤n→zv m):Ct 25 [] .stmt (n+1):=by
 intro c h s t s' hp hm;have hpl:=hp.lt;rw[pM] at hm;refine ai.of func25 rfl rfl ?_;refine xr func25 rfl ?_;refine xo rfl (aC.aR H.eG) ?_;rintro _ h1 ⟨rfl,k1,e1,z1⟩;refine xd [0,2] rfl ?_;refine av rfl ?_;refine br func25 1 rfl ?_;refine xo rfl (aC.aZ (us:=[_]) underlying93 H.nT rfl rfl (by decide) (by simp[Value.oneCell'])) ?_;rintro _ w2 ⟨rfl,hw2⟩;have y2:aF h1 w2:=by rw[hw2];exact Ext.push _ _ _
 have ts2:bU mV w2 (fun _=>False) (.slice (some ⟨Array.size h1,0,none⟩) 1 1) [wk]:=by rw[hw2];exact cj _ [wk] _ rfl (by simp[maxLen]) rfl
 refine xo rfl (aq (vs:=[_,_,_]) func26 rfl H.iY rfl (ai.bw (cg ((hp.ax e1).ax y2) 4 ts2))) ?_;rintro _ h2 ⟨rfl,hp2,x2⟩;have x2:=y2.of.trans x2
 rcases hq2:dL 4 [wk] s with ⟨o2,s2⟩
 rw[hq2] at hp2 hm;have k2:=k1.ext x2 (show ¬h.size=c.pb by omega);have x02:=e1.of.trans x2
 rcases o2 with _|v2
 · simp only at hm;refine aQ 5 [0,2,4] rfl ?_;refine aW func25 1 [0,2,4,11] rfl ?_;refine aI rfl rfl (fun hc=>absurd hc (by simp)) (fun _=>?_);refine aE rfl ?_;refine br func25 1 rfl ?_;refine xo rfl (aq (vs:=[_]) func48 rfl H.B0 rfl (ai.bw ((ih n (Nat.le_refl _)).expr _ _ _ _ _ hp2 hm))) ?_;rintro r9 g9 ⟨y9,hp9,t9,hn9,ht9⟩;have k9:=(k2).ext y9 (show ¬h.size=c.pb by omega);obtain⟨nk,nt,na,nn,nc,rfl,_⟩:=hn9.get;refine RW.bZ rfl rfl rfl (aC.aB H.aV rfl rfl k9 (by first|rfl|(simp;done)|(simp;omega)) (by first|decide|exact of_decide_eq_true rfl|(simp;done)|(simp;omega)) (by first|decide|simp[Value.oneCell'])) ?_;rintro _ g10 ⟨rfl,k10,x10,z10⟩;refine xd [0,2,4,11] rfl ?_;refine G.cN func25 rfl (.cons (bu.cB H.bN H.aV rfl (k10.row) (by first|rfl|(simp;done)|(simp;omega))) (.nil)) ?_;exact⟨_,rfl,eB.ret ⟨y9,hp9,t9,hn9,ht9⟩ hp (x02) x10 (Nat.le_refl _) (k2).lt⟩
 · simp only at hm;refine aQ 5 [0,2,4] rfl ?_;refine aW func25 1 [0,2,4,11] rfl ?_;refine aI rfl rfl (fun _=>?_) (fun hc=>absurd hc (by simp));refine br func25 1 rfl ?_;refine xo rfl (aq (vs:=[_,_]) func47 rfl H.J1 rfl (ai.bw ((ih n (Nat.le_refl _)).lt true _ _ _ _ _ hp2 hm))) ?_;rintro r9 g9 ⟨y9,hp9,t9,hn9,ht9⟩;have k9:=(k2).ext y9 (show ¬h.size=c.pb by omega);obtain⟨nk,nt,na,nn,nc,rfl,_⟩:=hn9.get;refine RW.bZ rfl rfl rfl (aC.aB H.aV rfl rfl k9 (by first|rfl|(simp;done)|(simp;omega)) (by first|decide|exact of_decide_eq_true rfl|(simp;done)|(simp;omega)) (by first|decide|simp[Value.oneCell'])) ?_;rintro _ g10 ⟨rfl,k10,x10,z10⟩;refine xd [0,2,4,11] rfl ?_;refine G.cN func25 rfl (.cons (bu.cB H.bN H.aV rfl (k10.row) (by first|rfl|(simp;done)|(simp;omega))) (.nil)) ?_;exact⟨_,rfl,eB.ret ⟨y9,hp9,t9,hn9,ht9⟩ hp (x02) x10 (Nat.le_refl _) (k2).lt⟩
theorem zB (ih:∀m,m≤n→zv m):Ct 48 [] .expr (n+1):=by
 intro c h s t s' hp hm;have hpl:=hp.lt;rw[pM] at hm;refine ai.of func48 rfl rfl ?_;refine xr func48 rfl ?_;refine xo rfl (aC.aR H.eG) ?_;rintro _ h1 ⟨rfl,k1,e1,z1⟩;refine xd [0,2] rfl ?_;refine av rfl ?_;refine br func48 1 rfl ?_;refine xo rfl (aC.aZ (us:=[_]) underlying93 H.nT rfl rfl (by decide) (by simp[Value.oneCell'])) ?_;rintro _ w2 ⟨rfl,hw2⟩;have y2:aF h1 w2:=by rw[hw2];exact Ext.push _ _ _
 have ts2:bU mV w2 (fun _=>False) (.slice (some ⟨Array.size h1,0,none⟩) 1 1) [wk]:=by rw[hw2];exact cj _ [wk] _ rfl (by simp[maxLen]) rfl
 refine xo rfl (aq (vs:=[_,_,_]) func26 rfl H.iY rfl (ai.bw (cg ((hp.ax e1).ax y2) 4 ts2))) ?_;rintro _ h2 ⟨rfl,hp2,x2⟩;have x2:=y2.of.trans x2
 rcases hq2:dL 4 [wk] s with ⟨o2,s2⟩
 rw[hq2] at hp2 hm;have k2:=k1.ext x2 (show ¬h.size=c.pb by omega);have x02:=e1.of.trans x2
 rcases o2 with _|v2
 · simp only at hm;refine aQ 5 [0,2,4] rfl ?_;refine aW func48 1 [0,2,4,15] rfl ?_;refine aI rfl rfl (fun hc=>absurd hc (by simp)) (fun _=>?_);refine aE rfl ?_;refine av rfl ?_;refine br func48 1 rfl ?_;refine xo rfl (aC.aZ (us:=[_]) underlying93 H.nT rfl rfl (by decide) (by simp[Value.oneCell'])) ?_;rintro _ w3 ⟨rfl,hw3⟩;have y3:aF h2 w3:=by rw[hw3];exact Ext.push _ _ _
   have ts3:bU mV w3 (fun _=>False) (.slice (some ⟨Array.size h2,0,none⟩) 1 1) [GV]:=by rw[hw3];exact cj _ [GV] _ rfl (by simp[maxLen]) rfl
   refine xo rfl (aq (vs:=[_,_,_]) func26 rfl H.iY rfl (ai.bw (cg ((hp2).ax y3) 4 ts3))) ?_;rintro _ h3 ⟨rfl,hp3,x3⟩;have x3:=y3.of.trans x3
   rcases hq3:dL 4 [GV] s2 with ⟨o3,s3⟩
   rw[hq3] at hp3 hm;have k3:=k2.ext x3 (show ¬h.size=c.pb by omega);have x03:=x02.trans x3
   rcases o3 with _|v3
   · simp only at hm;refine aQ 5 [0,2,4,6,15] rfl ?_;refine aW func48 1 [0,2,4,6,15,24] rfl ?_;refine aI rfl rfl (fun hc=>absurd hc (by simp)) (fun _=>?_);refine aE rfl ?_;refine av rfl ?_;refine br func48 1 rfl ?_;refine xo rfl (aC.aZ (us:=[_]) underlying93 H.nT rfl rfl (by decide) (by simp[Value.oneCell'])) ?_;rintro _ w4 ⟨rfl,hw4⟩;have y4:aF h3 w4:=by rw[hw4];exact Ext.push _ _ _
     have ts4:bU mV w4 (fun _=>False) (.slice (some ⟨Array.size h3,0,none⟩) 1 1) [EZ]:=by rw[hw4];exact cj _ [EZ] _ rfl (by simp[maxLen]) rfl
     refine xo rfl (aq (vs:=[_,_,_]) func26 rfl H.iY rfl (ai.bw (cg ((hp3).ax y4) 4 ts4))) ?_;rintro _ h4 ⟨rfl,hp4,x4⟩;have x4:=y4.of.trans x4
     rcases hq4:dL 4 [EZ] s3 with ⟨o4,s4⟩
     rw[hq4] at hp4 hm;have k4:=k3.ext x4 (show ¬h.size=c.pb by omega);have x04:=x03.trans x4
     rcases o4 with _|v4
     · simp only at hm;refine aQ 5 [0,2,4,6,8,15,24] rfl ?_;refine aW func48 1 [0,2,4,6,8,15,24,33] rfl ?_;refine aI rfl rfl (fun hc=>absurd hc (by simp)) (fun _=>?_);refine aE rfl ?_;refine br func48 1 rfl ?_;refine xo rfl (aq (vs:=[_]) func92 rfl H.Lz rfl (ai.bw ((ih n (Nat.le_refl _)).p0 _ _ _ _ _ hp4 hm))) ?_;rintro r9 g9 ⟨y9,hp9,t9,hn9,ht9⟩;have k9:=(k4).ext y9 (show ¬h.size=c.pb by omega);obtain⟨nk,nt,na,nn,nc,rfl,_⟩:=hn9.get;refine RW.bZ rfl rfl rfl (aC.aB H.aV rfl rfl k9 (by first|rfl|(simp;done)|(simp;omega)) (by first|decide|exact of_decide_eq_true rfl|(simp;done)|(simp;omega)) (by first|decide|simp[Value.oneCell'])) ?_;rintro _ g10 ⟨rfl,k10,x10,z10⟩;refine xd [0,2,4,6,8,15,24,33] rfl ?_;refine G.cN func48 rfl (.cons (bu.cB H.bN H.aV rfl (k10.row) (by first|rfl|(simp;done)|(simp;omega))) (.nil)) ?_;exact⟨_,rfl,eB.ret ⟨y9,hp9,t9,hn9,ht9⟩ hp (x04) x10 (Nat.le_refl _) (k4).lt⟩
     · simp only at hm;refine aQ 5 [0,2,4,6,8,15,24] rfl ?_;refine aW func48 1 [0,2,4,6,8,15,24,33] rfl ?_;refine aI rfl rfl (fun _=>?_) (fun hc=>absurd hc (by simp));refine br func48 1 rfl ?_;refine xo rfl (aq (vs:=[_]) func91 rfl H.JT rfl (ai.bw ((ih n (Nat.le_refl _)).fn _ _ _ _ _ hp4 hm))) ?_;rintro r9 g9 ⟨y9,hp9,t9,hn9,ht9⟩;have k9:=(k4).ext y9 (show ¬h.size=c.pb by omega);obtain⟨nk,nt,na,nn,nc,rfl,_⟩:=hn9.get;refine RW.bZ rfl rfl rfl (aC.aB H.aV rfl rfl k9 (by first|rfl|(simp;done)|(simp;omega)) (by first|decide|exact of_decide_eq_true rfl|(simp;done)|(simp;omega)) (by first|decide|simp[Value.oneCell'])) ?_;rintro _ g10 ⟨rfl,k10,x10,z10⟩;refine xd [0,2,4,6,8,15,24,33] rfl ?_;refine G.cN func48 rfl (.cons (bu.cB H.bN H.aV rfl (k10.row) (by first|rfl|(simp;done)|(simp;omega))) (.nil)) ?_;exact⟨_,rfl,eB.ret ⟨y9,hp9,t9,hn9,ht9⟩ hp (x04) x10 (Nat.le_refl _) (k4).lt⟩
   · simp only at hm;refine aQ 5 [0,2,4,6,15] rfl ?_;refine aW func48 1 [0,2,4,6,15,24] rfl ?_;refine aI rfl rfl (fun _=>?_) (fun hc=>absurd hc (by simp));refine br func48 1 rfl ?_;refine xo rfl (aq (vs:=[_]) func90 rfl H.JU rfl (ai.bw ((ih n (Nat.le_refl _)).choice _ _ _ _ _ hp3 hm))) ?_;rintro r9 g9 ⟨y9,hp9,t9,hn9,ht9⟩;have k9:=(k3).ext y9 (show ¬h.size=c.pb by omega);obtain⟨nk,nt,na,nn,nc,rfl,_⟩:=hn9.get;refine RW.bZ rfl rfl rfl (aC.aB H.aV rfl rfl k9 (by first|rfl|(simp;done)|(simp;omega)) (by first|decide|exact of_decide_eq_true rfl|(simp;done)|(simp;omega)) (by first|decide|simp[Value.oneCell'])) ?_;rintro _ g10 ⟨rfl,k10,x10,z10⟩;refine xd [0,2,4,6,15,24] rfl ?_;refine G.cN func48 rfl (.cons (bu.cB H.bN H.aV rfl (k10.row) (by first|rfl|(simp;done)|(simp;omega))) (.nil)) ?_;exact⟨_,rfl,eB.ret ⟨y9,hp9,t9,hn9,ht9⟩ hp (x03) x10 (Nat.le_refl _) (k3).lt⟩
 · simp only at hm;refine aQ 5 [0,2,4] rfl ?_;refine aW func48 1 [0,2,4,15] rfl ?_;refine aI rfl rfl (fun _=>?_) (fun hc=>absurd hc (by simp));refine br func48 1 rfl ?_;refine xo rfl (aq (vs:=[_,_]) func47 rfl H.J1 rfl (ai.bw ((ih n (Nat.le_refl _)).lt false _ _ _ _ _ hp2 hm))) ?_;rintro r9 g9 ⟨y9,hp9,t9,hn9,ht9⟩;have k9:=(k2).ext y9 (show ¬h.size=c.pb by omega);obtain⟨nk,nt,na,nn,nc,rfl,_⟩:=hn9.get;refine RW.bZ rfl rfl rfl (aC.aB H.aV rfl rfl k9 (by first|rfl|(simp;done)|(simp;omega)) (by first|decide|exact of_decide_eq_true rfl|(simp;done)|(simp;omega)) (by first|decide|simp[Value.oneCell'])) ?_;rintro _ g10 ⟨rfl,k10,x10,z10⟩;refine xd [0,2,4,15] rfl ?_;refine G.cN func48 rfl (.cons (bu.cB H.bN H.aV rfl (k10.row) (by first|rfl|(simp;done)|(simp;omega))) (.nil)) ?_;exact⟨_,rfl,eB.ret ⟨y9,hp9,t9,hn9,ht9⟩ hp (x02) x10 (Nat.le_refl _) (k2).lt⟩
theorem fh {j:Jy}(h:pM e n j s=some (t,s')) (hb:s'.dm=false):s.dm=false:=by
 cases s with
 |ok r=>rfl
 |bad m=>rw[Ft h] at hb;cases hb
theorem cw {ts:List By}{o:Option By}(h:dL k ts s=(o,s')) (hb:s'.dm=false):s.dm=false:=by
 cases s with
 |ok r=>rfl
 |bad m=>rw[Hu] at h;cases h;cases hb
theorem oV:(dM e s).dm=true:=by cases s<;>rfl
theorem oJ {t:By}(hb:(eK e k t s).dm=false):s.dm=false:=by
 cases s with
 |ok r=>rfl
 |bad m=>cases hb
theorem cn {c:PC}{g3:aD}{s0:PS}{t':Tr}{v:Value}(hp:qL c h s0) (x:Ext (fun b=>b=c.pb) h g) (k:qL c g s') (hn:dS g (fun b=>b≤h.size) v t') (ht:s'.dm=false→t'=t) (x3:Ext (fun b=>b=h.size) g g3):eB c h g3 s' t v:=by
 obtain⟨o1,o2⟩:=hp.old;have:=x.size;exact⟨x.fo x3 (fun i hi q=>by omega),k.ext x3 (fun b hb q=>by omega),t',hn.ext x3 (fun b hb q=>⟨fun q2=>q (by omega),fun q2=>q (by omega)⟩),ht⟩
theorem iX {g c b:Nat}(h:(Value.slice (some ⟨g,0,none⟩) n c).ownBlock=some b):b=g:=(Option.some.inj h).symm
theorem eT {t:ByteArray}{a:Option Addr}{c:Nat}:∀v∈[Value.int .i64 k,.string t,.slice a n c],v.oneCell'=true:=fun v hv=>by simp at hv;rcases hv with rfl|rfl|rfl<;>rfl
theorem tu {base:Nat}{e:TypeId}{size:Nat}{v:Value}{xs:List Value}(k:aS h base e size v n xs):∃a m c,v= .slice a m c:=by
 rcases k.2 with ⟨rfl,_⟩|⟨g,cap,cur,rfl,_⟩
 · exact⟨_,_,_,rfl⟩
 · exact⟨_,_,_,rfl⟩
theorem Bz (ih:∀m,m≤n→zv m) (al:Bool):Ct 47 [.bool al] (.lt al) (n+1):=by
 intro c h s t s' hp hm;have hpl:=hp.lt;obtain⟨o1,o2⟩:=hp.old;rw[pM] at hm;obtain⟨v,s1,hv,hm⟩:=aY hm;refine ai.of func47 rfl rfl ?_;refine xr func47 rfl ?_;refine xo rfl (aC.aR H.eG) ?_;rintro _ h1 ⟨rfl,k1,e1,z1⟩;refine xd [0,1,4] rfl ?_;refine br func47 1 rfl ?_;refine xo rfl (aq (vs:=[_]) func88 rfl H.JV rfl (ai.bw (rP (hp.ax e1)))) ?_;rintro _ h2 ⟨rfl,hp2,x2⟩;refine xp rfl (aP (H.kL _ _) rfl) ?_;refine xo rfl (aC.aR H.eG) ?_;rintro _ h3 ⟨rfl,k3,e3,z3⟩;refine RW.bZ rfl rfl rfl (aC.aB H.aV rfl rfl k3 (by first|rfl|(simp;done)|(simp;omega)) (by first|decide|exact of_decide_eq_true rfl|(simp;done)|(simp;omega)) (by first|decide|simp[Value.oneCell'])) ?_;rintro _ h4 ⟨rfl,k4,x4,z4⟩;have z2:=x2.size;have hp4:=(hp2.ax e3).ext x4 (fun b hb q=>by omega);refine xd [0,1,4,5] rfl ?_;refine br func47 1 rfl ?_;refine xo rfl (aq (vs:=[_,_,_]) func89 rfl H.D1 rfl (ai.bw (gm hp4 6 [61]))) ?_;rintro _ h5 ⟨hp5,x5⟩;have z5:=x5.size;refine xd [0,1,4,5] rfl ?_;refine br func47 1 rfl ?_;refine xo rfl (aq (vs:=[_]) func48 rfl H.B0 rfl (ai.bw ((ih n (Nat.le_refl _)).expr _ _ _ _ _ hp5 hv))) ?_;rintro r6 h6 ⟨y6,hp6,t6,hn6,ht6⟩;have z6:=y6.size;obtain⟨nk,nt,na,nn,nc,rfl,hr6⟩:=hn6.get;have k6:=(k4.ext x5 (show ¬h2.size=c.pb by omega)).ext y6 (show ¬h2.size=c.pb by omega);refine xo rfl (aC.cx (cs:=[_,_,_]) underlying28 H.gR rfl rfl (by decide)) ?_;rintro _ h7 ⟨rfl,hh7⟩;have e7:aF h6 h7:=by rw[hh7];exact Ext.push _ _ _
 have z7:h7.size=h6.size+1:=by rw[hh7];simp
 have ho7:dD eN (fun b=>b<h5.size) h7 h6.size 39 (.slice (some ⟨h6.size,0,none⟩) 1 1) [t6]:=by rw[hh7];exact dD.n8 hr6 (Nat.le_refl _)
 refine xp rfl (af (off:=2) underlying39 rfl rfl H.fE rfl) ?_;refine RW.bZ rfl rfl rfl (aC.bF H.fE rfl rfl (k6.ax e7) (by first|decide|exact of_decide_eq_true rfl|(simp;done)|(simp;omega)) rfl) ?_;rintro _ h8 ⟨rfl,k8,x8,z8⟩;have k8:bq h8 h2.size 39 [.int .i64 7,.string (bs (dX c.e s).1),.slice (some ⟨h6.size,0,none⟩) 1 1]:=k8;have ho8:dD eN (fun b=>b<h5.size) h8 h6.size 39 (.slice (some ⟨h6.size,0,none⟩) 1 1) [t6]:=ho7.pG x8 (fun b q q2=>by have:=iX q;omega) (fun b hb q=>by omega) (fun _ _ q=>q);have hp8:=(hp6.ax e7).ext x8 (fun b hb q=>by omega);have x08:Ext (fun b=>b=c.pb) h h8:=((((((e1.of.trans x2).trans e3.of).fo x4 (fun i hi q=>by omega)).trans x5).trans y6).trans e7.of).fo x8 (fun i hi q=>by omega);have q8:=(((((((k1.ext x2 (show ¬h.size=c.pb by omega)).ax e3).ext x4 (show ¬h.size=h2.size by omega)).ext x5 (show ¬h.size=c.pb by omega)).ext y6 (show ¬h.size=c.pb by omega)).ax e7).ext x8 (show ¬h.size=h2.size by omega))
 refine xd [0,1,4,5] rfl ?_;refine av rfl ?_;refine br func47 1 rfl ?_;refine xo rfl (aC.aZ (us:=[_]) underlying93 H.nT rfl rfl (by decide) (by simp[Value.oneCell'])) ?_;rintro _ w9 ⟨rfl,hw9⟩;have y9:aF h8 w9:=by rw[hw9];exact Ext.push _ _ _
 have ts9:bU mV w9 (fun _=>False) (.slice (some ⟨Array.size h8,0,none⟩) 1 1) [JE]:=by rw[hw9];exact cj _ [JE] _ rfl (by simp[maxLen]) rfl
 refine xo rfl (aq (vs:=[_,_,_]) func26 rfl H.iY rfl (ai.bw (cg ((hp8).ax y9) 4 ts9))) ?_;rintro _ h9 ⟨rfl,hp9,x9⟩;have x9:=y9.of.trans x9
 rcases hq9:dL 4 [JE] s1 with ⟨o9,s9⟩
 rw[hq9] at hp9 hm;have z9:=x9.size;have k9:=k8.ext x9 (show ¬h2.size=c.pb by omega);have q9:=q8.ext x9 (show ¬h.size=c.pb by omega);have x09:=x08.trans x9;have ho9:dD eN (fun b=>b<h5.size) h9 h6.size 39 (.slice (some ⟨h6.size,0,none⟩) 1 1) [t6]:=ho8.pG x9 (fun b q q2=>by have:=iX q;omega) (fun b hb q=>by omega) (fun _ _ q=>q)
 rcases o9 with _|v9
 · simp only at hm;have e9:=eD hq9;have hs9:bU eN h9 (fun b=>b≤h.size) _ [t6]:=ho9.CY (fun b q q2=>by have:=iX q;omega) (fun b hb q=>by omega);refine aQ 5 [0,1,4,5,7] rfl ?_;refine aW func47 1 [0,1,4,5,7,23] rfl ?_;refine aI rfl rfl (fun hc=>absurd hc (by simp)) (fun _=>?_);refine aW func47 2 [0,1,4,5,7,23,32] rfl ?_;refine aI rfl rfl (fun ha=>?_) (fun ha=>?_)
   · have ha:al=false:=by simpa using ha
     subst ha;simp only[Bool.false_eq_true,if_false] at hm;obtain⟨rfl,rfl⟩:Tr.mk 7 (dX c.e s).1 [v]=t∧dM c.e s9=s':=by cases hm;exact⟨rfl,rfl⟩
     refine G.bT func47 rfl ?_;refine aT 1 rfl ?_;refine xo rfl (aq (vs:=[_]) func27 rfl H.wq rfl (ai.bw (eI hp9))) ?_;rintro _ h10 ⟨rfl,hp10,x10⟩;refine xd [0,1,4,5,7,23,32] rfl ?_;refine xr func47 rfl ?_;refine xp rfl (aj.aG H.bN H.aV rfl (k9.ext x10 (show ¬h2.size=c.pb by omega)).row (by first|rfl|(simp;done)|(simp;omega))) ?_;refine RW.bZ rfl rfl rfl (aC.aB H.aV rfl rfl (q9.ext x10 (show ¬h.size=c.pb by omega)) (by first|rfl|(simp;done)|(simp;omega)) (by first|decide|exact of_decide_eq_true rfl|(simp;done)|(simp;omega)) (eT)) ?_;rintro _ hz ⟨rfl,kz,xz,zz⟩;refine xd [0,1,4,5,7,23,32] rfl ?_;refine G.cN func47 rfl (.cons (bu.cB H.bN H.aV rfl (kz.row) (by first|rfl|(simp;done)|(simp;omega))) (.nil)) ?_;exact⟨_,rfl,cn hp (x09.trans x10) hp10 (dS.shut (hs9.mv (Mv.dc x10 fun b hb q=>⟨fun q2=>q (by omega),q⟩))) (fun q=>by rw[oV] at q;cases q) xz⟩
   · have ha:al=true:=by simpa using ha
     subst ha;simp only[if_true] at hm;obtain⟨rfl,rfl⟩:Tr.mk 7 (dX c.e s).1 [v]=t∧s9=s':=by cases hm;exact⟨rfl,rfl⟩
     refine aE rfl ?_;refine xr func47 rfl ?_;refine xp rfl (aj.aG H.bN H.aV rfl (k9).row (by first|rfl|(simp;done)|(simp;omega))) ?_;refine RW.bZ rfl rfl rfl (aC.aB H.aV rfl rfl (q9) (by first|rfl|(simp;done)|(simp;omega)) (by first|decide|exact of_decide_eq_true rfl|(simp;done)|(simp;omega)) (eT)) ?_;rintro _ hz ⟨rfl,kz,xz,zz⟩;refine xd [0,1,4,5,7,23,32] rfl ?_;refine G.cN func47 rfl (.cons (bu.cB H.bN H.aV rfl (kz.row) (by first|rfl|(simp;done)|(simp;omega))) (.nil)) ?_;exact⟨_,rfl,cn hp x09 hp9 (dS.shut hs9) (fun q=>by rw[ht6 (cw hq9 q)]) xz⟩
 · simp only at hm;obtain⟨w,s3,hw,hm⟩:=aY hm;obtain⟨rfl,rfl⟩:Tr.mk 7 (dX c.e s).1 [v,w]=t∧s3=s':=by cases hm;exact⟨rfl,rfl⟩
   refine aQ 5 [0,1,4,5,7] rfl ?_;refine aW func47 1 [0,1,4,5,7,23] rfl ?_;refine aI rfl rfl (fun _=>?_) (fun hc=>absurd hc (by simp));refine bV (fun b=>b=c.pb∨b=h6.size∨Array.size h9≤b) (fun i=>Nat.blt i 7) (sz:=8) (listed:= #[false,false,false,false,false,false,false,false]) func47 H.mixed rfl rfl rfl ?_;refine bI 0 1 (by kernel_rfl) rfl (fun h' e=>af (off:=2) underlying39 rfl rfl H.fE rfl) ?_;refine bI 1 3 (by kernel_rfl) rfl (fun h' e=>ah H.kN rfl (e.cell (by dsimp only;omega) (k9.cell (i:=2) rfl))) ?_;refine b9 2 7 (by kernel_rfl) rfl ?_;refine cU 3 15 (by kernel_rfl) rfl (aq (vs:=[_]) func48 rfl H.B0 rfl (ai.bw ((ih n (Nat.le_refl _)).expr _ _ _ _ _ hp9 hw))) ?_;rintro r10 h10 ⟨y10,hp10,t10,hn10,ht10⟩;refine⟨fun _=>y10.mono (fun _ _ q=>.inl q),?_⟩;have z10:=y10.size;obtain⟨mk,mt,ma,mn,mc,rfl,hr10⟩:=hn10.get;have ho10:dD eN (fun b=>b<h5.size) h10 h6.size 39 (.slice (some ⟨h6.size,0,none⟩) 1 1) [t6]:=ho9.pG y10 (fun b q q2=>by have:=iX q;omega) (fun b hb q=>by omega) (fun _ _ q=>q);obtain⟨css,hc1,hc2,hc3⟩:=id ho10;have hc2:aS h10 h6.size 39 3 (.slice (some ⟨h6.size,0,none⟩) 1 1) 1 css.flatten:=hc2;refine cU 4 31 (by kernel_rfl) rfl (aC.cx (cs:=[_,_,_]) underlying28 H.gR rfl rfl (by decide)) ?_;rintro _ _ ⟨rfl,rfl⟩;refine⟨fun _=>by first|exact Ext.push _ _ _|assumption,?_⟩;refine cU 5 63 (by kernel_rfl) rfl (aC.bO underlying28 H.gR rfl rfl (hc2) rfl rfl (by first|decide|simp[Value.oneCell']) (by omega) (by decide) (by omega)) ?_;rintro v12 h12 ⟨ho12,hx12,hx12',hv12⟩;refine⟨fun _=>hx12'.mono (fun b _ q=>.inr (.inl (Option.some.inj q))),?_⟩;have k12:=(k9.ext y10 (show ¬h2.size=c.pb by omega)).ext hx12 (fun q=>by have:=iX (Eq.symm q);omega);obtain⟨va,vm,vc,rfl⟩:=tu ho12;refine bI 6 127 (by kernel_rfl) rfl (fun h' e=>af (off:=2) underlying39 rfl rfl H.fE rfl) ?_;refine fS 7 255 (by kernel_rfl) rfl (aC.bF H.fE rfl rfl k12 (by first|decide|exact of_decide_eq_true rfl|(simp;done)|(simp;omega)) rfl) ?_;rintro _ h13 ⟨rfl,k13,x13,z13⟩;refine⟨fun hk=>(nomatch hk),?_⟩;refine bg (by kernel_rfl) ?_;refine xu [0,1,4,5,7,23] rfl ?_;refine xr func47 rfl ?_;have k13:bq h13 h2.size 39 [.int .i64 7,.string (bs (dX c.e s).1),.slice va vm vc]:=k13;have z12:=hx12.size
   have hr10':eN.R h10 (fun b=>cT (Value.slice (some ⟨h6.size,0,none⟩) 1 1).ownBlock b∨b<h5.size) [.int .i64 mk,.string (bs mt),.slice ma mn mc] t10:=aX hr10 (Ext.refl (fun _=>False) _) (fun b hb q=>⟨fun k=>k,fun q2=>by
    rcases q2 with q2|q2
    · have:=iX (Eq.symm q2);omega
    · omega⟩)
   have ho12x:dD eN (fun b=>b<h5.size) h12 h6.size 39 (.slice va vm vc) [t6,t10]:=dD.fV hc1 hc3 ho12 hx12 hv12 hr10';have q13:=((q9.ext y10 (show ¬h.size=c.pb by omega)).ext hx12 (fun q=>by have:=iX (Eq.symm q);omega)).ext x13 (show ¬h.size=h2.size by omega);have hs13:bU eN h13 (fun b=>b≤h.size) (.slice va vm vc) [t6,t10]:=(ho12x.pG x13 (fun b q q2=>by have:=(ho12.lt q).1;omega) (fun b hb q=>by omega) (fun _ _ q=>q)).read (fun b hb q=>by omega) (fun b hb q=>by omega);have x013:Ext (fun b=>b=c.pb) h h13:=((x09.trans y10).fo hx12 (fun i hi q=>by have:=iX (Eq.symm q);omega)).fo x13 (fun i hi q=>by omega);have hp13:qL c h13 s3:=(hp10.ext hx12 (fun b hb q=>by have:=iX (Eq.symm q);omega)).ext x13 (fun b hb q=>by omega);refine xp rfl (aj.aG H.bN H.aV rfl (k13).row (by first|rfl|(simp;done)|(simp;omega))) ?_;refine RW.bZ rfl rfl rfl (aC.aB H.aV rfl rfl (q13) (by first|rfl|(simp;done)|(simp;omega)) (by first|decide|exact of_decide_eq_true rfl|(simp;done)|(simp;omega)) (eT)) ?_;rintro _ hz ⟨rfl,kz,xz,zz⟩;refine xd [0,1,4,5,7,23] rfl ?_;refine G.cN func47 rfl (.cons (bu.cB H.bN H.aV rfl (kz.row) (by first|rfl|(simp;done)|(simp;omega))) (.nil)) ?_;exact⟨_,rfl,cn hp x013 hp13 (dS.shut hs13) (fun q=>by rw[ht6 (cw hq9 (fh hw q)),ht10 q]) xz⟩
theorem BA (ih:∀m,m≤n→zv m):Ct 91 [] .fn (n+1):=by
 intro c h s t s' hp hm;have hpl:=hp.lt;obtain⟨o1,o2⟩:=hp.old;rw[pM] at hm;refine ai.of func91 rfl rfl ?_;refine xr func91 rfl ?_;refine xo rfl (aC.aR H.eG) ?_;rintro _ h1 ⟨rfl,k1,e1,z1⟩;refine xd [0,2] rfl ?_;refine br func91 1 rfl ?_;refine xo rfl (aq (vs:=[_]) func88 rfl H.JV rfl (ai.bw (rP (hp.ax e1)))) ?_;rintro _ h2 ⟨rfl,hp2,x2⟩;refine xp rfl (aP (H.kL _ _) rfl) ?_;refine xo rfl (aC.aR H.eG) ?_;rintro _ h3 ⟨rfl,k3,e3,z3⟩;refine RW.bZ rfl rfl rfl (aC.aB H.aV rfl rfl k3 (by first|rfl|(simp;done)|(simp;omega)) (by first|decide|exact of_decide_eq_true rfl|(simp;done)|(simp;omega)) (by first|decide|simp[Value.oneCell'])) ?_;rintro _ h4 ⟨rfl,k4,x4,z4⟩;have z2:=x2.size;have hp4:=(hp2.ax e3).ext x4 (fun b hb q=>by omega);have x04:Ext (fun b=>b=c.pb) h h4:=((e1.of.trans x2).trans e3.of).fo x4 (fun i hi q=>by omega);have q4:=((k1.ext x2 (show ¬h.size=c.pb by omega)).ax e3).ext x4 (show ¬h.size=h2.size by omega);refine xd [0,2,3] rfl ?_;refine av rfl ?_;refine br func91 1 rfl ?_;refine xo rfl (aC.aZ (us:=[_]) underlying93 H.nT rfl rfl (by decide) (by simp[Value.oneCell'])) ?_;rintro _ w5 ⟨rfl,hw5⟩;have y5:aF h4 w5:=by rw[hw5];exact Ext.push _ _ _
 have ts5:bU mV w5 (fun _=>False) (.slice (some ⟨Array.size h4,0,none⟩) 1 1) [[44]]:=by rw[hw5];exact cj _ [[44]] _ rfl (by simp[maxLen]) rfl
 refine xo rfl (aq (vs:=[_,_,_]) func26 rfl H.iY rfl (ai.bw (cg ((hp4).ax y5) 6 ts5))) ?_;rintro _ h5 ⟨rfl,hp5,x5⟩;have x5:=y5.of.trans x5
 rcases hq5:dL 6 [[44]] (dX c.e s).2 with ⟨o5,s5⟩
 rw[hq5] at hp5 hm;have z5:=x5.size;have k5:=k4.ext x5 (show ¬h2.size=c.pb by omega);have q5:=q4.ext x5 (show ¬h.size=c.pb by omega);have x05:=x04.trans x5
 rcases o5 with _|v5
 · simp only at hm;obtain⟨v,s1,hv,hm⟩:=aY hm;obtain⟨rfl,rfl⟩:Tr.mk 8 (dX c.e s).1 [v]=t∧s1=s':=by cases hm;exact⟨rfl,rfl⟩
   refine aQ 5 [0,2,3,5] rfl ?_;refine aW func91 1 [0,2,3,5,15] rfl ?_;refine aI rfl rfl (fun hc=>absurd hc (by simp)) (fun _=>?_);refine aE rfl ?_;refine br func91 1 rfl ?_;refine xo rfl (aq (vs:=[_,_,_]) func89 rfl H.D1 rfl (ai.bw (gm hp5 6 [45,62]))) ?_;rintro _ hb ⟨hpb,xb⟩;have zb:=xb.size;refine xd [0,2,3,5,15] rfl ?_;refine br func91 1 rfl ?_;refine xo rfl (aq (vs:=[_]) func48 rfl H.B0 rfl (ai.bw ((ih n (Nat.le_refl _)).expr _ _ _ _ _ hpb hv))) ?_;rintro r6 h6 ⟨y6,hp6,t6,hn6,ht6⟩;have z6:=y6.size;obtain⟨nk,nt,na,nn,nc,rfl,hr6⟩:=hn6.get;refine xo rfl (aC.cx (cs:=[_,_,_]) underlying28 H.gR rfl rfl (by decide)) ?_;rintro _ h7 ⟨rfl,hh7⟩;have e7:aF h6 h7:=by rw[hh7];exact Ext.push _ _ _
   have z7:h7.size=h6.size+1:=by rw[hh7];simp
   have hs7:bU eN h7 (fun b=>b<Array.size hb) (.slice (some ⟨h6.size,0,none⟩) 1 1) [t6]:=by rw[hh7];exact mM hr6 (by omega)
   refine xp rfl (af (off:=2) underlying39 rfl rfl H.fE rfl) ?_;refine RW.bZ rfl rfl rfl (aC.bF H.fE rfl rfl (((k5.ext xb (show ¬h2.size=c.pb by omega)).ext y6 (show ¬h2.size=c.pb by omega)).ax e7) (by first|decide|exact of_decide_eq_true rfl|(simp;done)|(simp;omega)) rfl) ?_;rintro _ h8 ⟨rfl,k8,x8,z8⟩;have k8:bq h8 h2.size 39 [.int .i64 8,.string (bs (dX c.e s).1),.slice (some ⟨h6.size,0,none⟩) 1 1]:=k8;refine xd [0,2,3,5,15] rfl ?_;refine xr func91 rfl ?_;refine xp rfl (aj.aG H.bN H.aV rfl (k8).row (by first|rfl|(simp;done)|(simp;omega))) ?_;refine RW.bZ rfl rfl rfl (aC.aB H.aV rfl rfl ((((q5.ext xb (show ¬h.size=c.pb by omega)).ext y6 (show ¬h.size=c.pb by omega)).ax e7).ext x8 (show ¬h.size=h2.size by omega)) (by first|rfl|(simp;done)|(simp;omega)) (by first|decide|exact of_decide_eq_true rfl|(simp;done)|(simp;omega)) (eT)) ?_;rintro _ hz ⟨rfl,kz,xz,zz⟩;refine xd [0,2,3,5,15] rfl ?_;refine G.cN func91 rfl (.cons (bu.cB H.bN H.aV rfl (kz.row) (by first|rfl|(simp;done)|(simp;omega))) (.nil)) ?_;exact⟨_,rfl,cn hp ((((x05.trans xb).trans y6).trans e7.of).fo x8 (fun i hi q=>by omega)) ((hp6.ax e7).ext x8 (fun b hb q=>by omega)) (dS.shut (hs7.mv (Mv.dc x8 fun b hb q=>⟨fun q2=>q (by omega),fun q2=>q (by omega)⟩))) (fun q=>by rw[ht6 q]) xz⟩
 · simp only at hm;obtain⟨v,s1,hv,hm⟩:=aY hm;obtain⟨rfl,rfl⟩:Tr.mk 8 (dX c.e s).1 [v]=t∧s1=s':=by cases hm;exact⟨rfl,rfl⟩
   refine aQ 5 [0,2,3,5] rfl ?_;refine aW func91 1 [0,2,3,5,15] rfl ?_;refine aI rfl rfl (fun _=>?_) (fun hc=>absurd hc (by simp));refine br func91 1 rfl ?_;refine xo rfl (aq (vs:=[_]) func91 rfl H.JT rfl (ai.bw ((ih n (Nat.le_refl _)).fn _ _ _ _ _ hp5 hv))) ?_;rintro r6 h6 ⟨y6,hp6,t6,hn6,ht6⟩;have z6:=y6.size;obtain⟨nk,nt,na,nn,nc,rfl,hr6⟩:=hn6.get;refine xo rfl (aC.cx (cs:=[_,_,_]) underlying28 H.gR rfl rfl (by decide)) ?_;rintro _ h7 ⟨rfl,hh7⟩;have e7:aF h6 h7:=by rw[hh7];exact Ext.push _ _ _
   have z7:h7.size=h6.size+1:=by rw[hh7];simp
   have hs7:bU eN h7 (fun b=>b<Array.size h5) (.slice (some ⟨h6.size,0,none⟩) 1 1) [t6]:=by rw[hh7];exact mM hr6 (by omega)
   refine xp rfl (af (off:=2) underlying39 rfl rfl H.fE rfl) ?_;refine RW.bZ rfl rfl rfl (aC.bF H.fE rfl rfl ((k5.ext y6 (show ¬h2.size=c.pb by omega)).ax e7) (by first|decide|exact of_decide_eq_true rfl|(simp;done)|(simp;omega)) rfl) ?_;rintro _ h8 ⟨rfl,k8,x8,z8⟩;have k8:bq h8 h2.size 39 [.int .i64 8,.string (bs (dX c.e s).1),.slice (some ⟨h6.size,0,none⟩) 1 1]:=k8;refine xd [0,2,3,5,15] rfl ?_;refine xr func91 rfl ?_;refine xp rfl (aj.aG H.bN H.aV rfl (k8).row (by first|rfl|(simp;done)|(simp;omega))) ?_;refine RW.bZ rfl rfl rfl (aC.aB H.aV rfl rfl (((q5.ext y6 (show ¬h.size=c.pb by omega)).ax e7).ext x8 (show ¬h.size=h2.size by omega)) (by first|rfl|(simp;done)|(simp;omega)) (by first|decide|exact of_decide_eq_true rfl|(simp;done)|(simp;omega)) (eT)) ?_;rintro _ hz ⟨rfl,kz,xz,zz⟩;refine xd [0,2,3,5,15] rfl ?_;refine G.cN func91 rfl (.cons (bu.cB H.bN H.aV rfl (kz.row) (by first|rfl|(simp;done)|(simp;omega))) (.nil)) ?_;exact⟨_,rfl,cn hp (((x05.trans y6).trans e7.of).fo x8 (fun i hi q=>by omega)) ((hp6.ax e7).ext x8 (fun b hb q=>by omega)) (dS.shut (hs7.mv (Mv.dc x8 fun b hb q=>⟨fun q2=>q (by omega),fun q2=>q (by omega)⟩))) (fun q=>by rw[ht6 q]) xz⟩
theorem fR {va vb:Value}{a b:Tr}{O:Nat→Prop}(op:By) (hO:∀b,O b→b<h.size) (ha:dS h O va a) (hb:dS h O vb b) :
 ai Tryz.prog 132 #[.string (bs op),va,vb] h (cL fun r h'=>dS h' O r (.mk 5 op [a,b])∧aF h h'):=by
 obtain⟨k1,t1,a1,n1,c1,rfl,hr1⟩:=ha.get;obtain⟨k2,t2,a2,n2,c2,rfl,hr2⟩:=hb.get;refine ai.of func132 rfl rfl ?_;refine xr func132 rfl ?_;refine xo rfl (aC.fe rfl) ?_;rintro _ h1 ⟨rfl,b1,e1,z1⟩;refine xo rfl (aC.fe rfl) ?_;rintro _ h2 ⟨rfl,b2,e2,z2⟩;refine xo rfl (aC.aR H.eG) ?_;rintro _ h3 ⟨rfl,b3,e3,z3⟩;have b13:bq h3 h.size 39 [.int .i64 k1,.string (bs t1),.slice a1 n1 c1]:=(b1.ax e2).ax e3;have b23:bq h3 h1.size 39 [.int .i64 k2,.string (bs t2),.slice a2 n2 c2]:=b2.ax e3;have e03:=(e1.trans e2).trans e3;refine xd [0,1,2,4,5,6] rfl ?_;refine br func132 1 rfl ?_;refine xp rfl (aj.aG H.bN H.aV rfl b13.row (by first|rfl|(simp;done)|(simp;omega))) ?_;refine xp rfl (aj.aG H.bN H.aV rfl b23.row (by first|rfl|(simp;done)|(simp;omega))) ?_;refine xo rfl (aC.rG underlying28 H.gR ([[.int .i64 k1,.string (bs t1),.slice a1 n1 c1],[.int .i64 k2,.string (bs t2),.slice a2 n2 c2]]) rfl rfl (by decide) (by simp<;>repeat' (first|rfl|constructor))) ?_;rintro _ h4 ⟨rfl,hh4⟩;have e4:aF h3 h4:=by rw[hh4];exact Ext.push _ _ _
 have g1:=e1.size;have g2:=e2.size;have m3:Mv O (fun x=>O x∨h.size≤x) h h3:=⟨e03.size,fun x hx q=>⟨e03.block x hx (fun k=>k),fun q2=>by rcases q2 with q2|q2;exact q q2;omega⟩⟩
 have hs4:dD eN (fun x=>O x∨h.size≤x) h4 h3.size 39 (.slice (some ⟨h3.size,0,none⟩) 2 2) [a,b]:=by
  rw[hh4];exact uu (eN.mv hr1 m3) (eN.mv hr2 m3) (Nat.le_refl _)
 refine xp rfl (aP (H.gU _ _ _ _ _) rfl) ?_;refine RW.bZ rfl rfl rfl (aC.aB H.aV rfl rfl (b3.ax e4) (by first|rfl|(simp;done)|(simp;omega)) (by first|decide|exact of_decide_eq_true rfl|(simp;done)|(simp;omega)) (eT)) ?_;rintro _ h5 ⟨rfl,b5,x5,z5⟩;refine xd [0,1,2,4,5,6] rfl ?_;refine G.cN func132 rfl (.cons (bu.cB H.bN H.aV rfl (b5.row) (by first|rfl|(simp;done)|(simp;omega))) (.nil)) ?_
 have hs4':bU eN h4 (fun x=>O x∨x=h2.size) (.slice (some ⟨h3.size,0,none⟩) 2 2) [a,b]:=hs4.read (fun x hx q=>by
  rcases q with q|q
  · have:=hO x q;omega
  · omega) (fun x hx q=>by
  rcases q with q|q
  · exact .inl q
  · exact .inr (by omega))
 exact⟨_,rfl,dS.shut (hs4'.mv (Mv.dc x5 fun x hx q=>⟨fun q2=>q (.inr q2),fun q2=>q (.inl q2)⟩)),aF.only (e03.trans e4) x5 (by omega)⟩
theorem xQ (ih:∀m,m≤n→zv m):Ct 211 [] (.part 6) (n+1):=by
 intro c h s t s' hp hm;have hpl:=hp.lt;obtain⟨o1,o2⟩:=hp.old;rw[pM,if_neg (by decide),if_neg (by decide),if_pos rfl] at hm;refine ai.of func211 rfl rfl ?_;refine xr func211 rfl ?_;refine xo rfl (aC.aR H.eG) ?_;rintro _ h1 ⟨rfl,k1,e1,z1⟩;refine xd [0,2] rfl ?_;refine av rfl ?_;refine br func211 1 rfl ?_;refine xo rfl (aC.aZ (us:=[_]) underlying93 H.nT rfl rfl (by decide) (by simp[Value.oneCell'])) ?_;rintro _ w2 ⟨rfl,hw2⟩;have y2:aF h1 w2:=by rw[hw2];exact Ext.push _ _ _
 have ts2:bU mV w2 (fun _=>False) (.slice (some ⟨Array.size h1,0,none⟩) 1 1) [oB]:=by rw[hw2];exact cj _ [oB] _ rfl (by simp[maxLen]) rfl
 refine xo rfl (aq (vs:=[_,_,_]) func26 rfl H.iY rfl (ai.bw (cg ((hp.ax e1).ax y2) 6 ts2))) ?_;rintro _ h2 ⟨rfl,hp2,x2⟩;have x2:=y2.of.trans x2
 rcases hq2:dL 6 [oB] s with ⟨o2,s2⟩
 rw[hq2] at hp2 hm;have k2:=k1.ext x2 (show ¬h.size=c.pb by omega);have x02:=e1.of.trans x2
 rcases o2 with _|v2
 · simp only at hm;refine aQ 5 [0,2,4] rfl ?_;refine aW func211 1 [0,2,4,11] rfl ?_;refine aI rfl rfl (fun hc=>absurd hc (by simp)) (fun _=>?_);refine aE rfl ?_;refine br func211 1 rfl ?_;refine xo rfl (aq (vs:=[_]) func213 rfl H.J6 rfl (ai.bw ((ih n (Nat.le_refl _)).p7 _ _ _ _ _ hp2 hm))) ?_;rintro r9 g9 ⟨y9,hp9,t9,hn9,ht9⟩;have k9:=(k2).ext y9 (show ¬h.size=c.pb by omega);obtain⟨nk,nt,na,nn,nc,rfl,_⟩:=hn9.get;refine RW.bZ rfl rfl rfl (aC.aB H.aV rfl rfl k9 (by first|rfl|(simp;done)|(simp;omega)) (by first|decide|exact of_decide_eq_true rfl|(simp;done)|(simp;omega)) (by first|decide|simp[Value.oneCell'])) ?_;rintro _ g10 ⟨rfl,k10,x10,z10⟩;refine xd [0,2,4,11] rfl ?_;refine G.cN func211 rfl (.cons (bu.cB H.bN H.aV rfl (k10.row) (by first|rfl|(simp;done)|(simp;omega))) (.nil)) ?_;exact⟨_,rfl,eB.ret ⟨y9,hp9,t9,hn9,ht9⟩ hp (x02) x10 (Nat.le_refl _) (k2).lt⟩
 · simp only at hm;obtain⟨v,s1,hv,hm⟩:=aY hm;obtain⟨rfl,rfl⟩:Tr.mk 4 oB [v]=t∧s1=s':=by cases hm;exact⟨rfl,rfl⟩
   refine aQ 5 [0,2,4] rfl ?_;refine aW func211 1 [0,2,4,11] rfl ?_;refine aI rfl rfl (fun _=>?_) (fun hc=>absurd hc (by simp));refine br func211 1 rfl ?_;refine xo rfl (aq (vs:=[_]) func211 rfl H.FD rfl (ai.bw ((ih n (Nat.le_refl _)).p6 _ _ _ _ _ hp2 hv))) ?_;rintro r6 h6 ⟨y6,hp6,t6,hn6,ht6⟩;have z6:=y6.size;obtain⟨nk,nt,na,nn,nc,rfl,hr6⟩:=hn6.get;refine xo rfl (aC.cx (cs:=[_,_,_]) underlying28 H.gR rfl rfl (by decide)) ?_;rintro _ h7 ⟨rfl,hh7⟩;have e7:aF h6 h7:=by rw[hh7];exact Ext.push _ _ _
   have z7:h7.size=h6.size+1:=by rw[hh7];simp
   have hs7:bU eN h7 (fun b=>b<Array.size h2) (.slice (some ⟨h6.size,0,none⟩) 1 1) [t6]:=by rw[hh7];exact mM hr6 (by omega)
   have zk:=(k2).lt;refine xp rfl (aP (H.gU _ _ _ _ _) rfl) ?_;refine RW.bZ rfl rfl rfl (aC.aB H.aV rfl rfl (((k2).ext y6 (show ¬h.size=c.pb by omega)).ax e7) (by first|rfl|(simp;done)|(simp;omega)) (by first|decide|exact of_decide_eq_true rfl|(simp;done)|(simp;omega)) (eT)) ?_;rintro _ hz ⟨rfl,kz,xz,zz⟩;refine xd [0,2,4,11] rfl ?_;refine G.cN func211 rfl (.cons (bu.cB H.bN H.aV rfl (kz.row) (by first|rfl|(simp;done)|(simp;omega))) (.nil)) ?_;exact⟨_,rfl,cn hp (((x02).trans y6).trans e7.of) (hp6.ax e7) (dS.shut (hs7.mv (Mv.dc (Ext.refl (fun _=>False) _) fun b hb q=>⟨fun q2=>q2,fun q2=>q (by omega)⟩))) (fun q=>by rw[ht6 q]) xz⟩
theorem Bx (ih:∀m,m≤n→zv m):Ct 154 [] (.part 2) (n+1):=by
 intro c h s t s' hp hm;have hpl:=hp.lt;obtain⟨o1,o2⟩:=hp.old;rw[pM,if_neg (by decide),if_pos rfl] at hm;refine ai.of func154 rfl rfl ?_;refine xr func154 rfl ?_;refine xo rfl (aC.aR H.eG) ?_;rintro _ h1 ⟨rfl,k1,e1,z1⟩;refine xd [0,2] rfl ?_;refine br func154 1 rfl ?_;refine xo rfl (aC.aZ (us:=[_]) underlying93 H.nT rfl rfl (by decide) (by simp[Value.oneCell'])) ?_;rintro _ w2 ⟨rfl,hw2⟩;have y2:aF h1 w2:=by rw[hw2];exact Ext.push _ _ _
 have ts2:bU mV w2 (fun _=>False) (.slice (some ⟨Array.size h1,0,none⟩) 1 1) [sO]:=by rw[hw2];exact cj _ [sO] _ rfl (by simp[maxLen]) rfl
 refine xo rfl (aq (vs:=[_,_,_]) func26 rfl H.iY rfl (ai.bw (cg ((hp.ax e1).ax y2) 4 ts2))) ?_;rintro _ h2 ⟨rfl,hp2,x2⟩;have x2:=y2.of.trans x2
 rcases hq2:dL 4 [sO] s with ⟨o2,s2⟩
 rw[hq2] at hp2 hm;have k2:=k1.ext x2 (show ¬h.size=c.pb by omega);have x02:=e1.of.trans x2
 rcases o2 with _|v2
 · simp only at hm;refine aQ 5 [0,2,4] rfl ?_;refine av rfl ?_;refine aW func154 2 [0,2,4,14] rfl ?_;refine aI rfl rfl (fun _=>?_) (fun hc=>absurd hc (by simp));refine br func154 1 rfl ?_;refine xo rfl (aC.aZ (us:=[_]) underlying93 H.nT rfl rfl (by decide) (by simp[Value.oneCell'])) ?_;rintro _ w3 ⟨rfl,hw3⟩;have y3:aF h2 w3:=by rw[hw3];exact Ext.push _ _ _
   have ts3:bU mV w3 (fun _=>False) (.slice (some ⟨Array.size h2,0,none⟩) 1 1) [zR]:=by rw[hw3];exact cj _ [zR] _ rfl (by simp[maxLen]) rfl
   refine xo rfl (aq (vs:=[_,_,_]) func26 rfl H.iY rfl (ai.bw (cg ((hp2).ax y3) 6 ts3))) ?_;rintro _ h3 ⟨rfl,hp3,x3⟩;have x3:=y3.of.trans x3
   rcases hq3:dL 6 [zR] s2 with ⟨o3,s3⟩
   rw[hq3] at hp3 hm;have k3:=k2.ext x3 (show ¬h.size=c.pb by omega);have x03:=x02.trans x3
   rcases o3 with _|v3
   · simp only at hm;refine aQ 5 [0,2,4,6,14] rfl ?_;refine aW func154 2 [0,2,4,6,14,22] rfl ?_;refine aI rfl rfl (fun _=>?_) (fun hc=>absurd hc (by simp));refine br func154 1 rfl ?_;refine xo rfl (aq (vs:=[_]) func168 rfl H.Kf rfl (ai.bw ((ih n (Nat.le_refl _)).p3 _ _ _ _ _ hp3 hm))) ?_;rintro r9 g9 ⟨y9,hp9,t9,hn9,ht9⟩;have k9:=(k3).ext y9 (show ¬h.size=c.pb by omega);obtain⟨nk,nt,na,nn,nc,rfl,_⟩:=hn9.get;refine RW.bZ rfl rfl rfl (aC.aB H.aV rfl rfl k9 (by first|rfl|(simp;done)|(simp;omega)) (by first|decide|exact of_decide_eq_true rfl|(simp;done)|(simp;omega)) (by first|decide|simp[Value.oneCell'])) ?_;rintro _ g10 ⟨rfl,k10,x10,z10⟩;refine xd [0,2,4,6,14,22] rfl ?_;refine G.cN func154 rfl (.cons (bu.cB H.bN H.aV rfl (k10.row) (by first|rfl|(simp;done)|(simp;omega))) (.nil)) ?_;exact⟨_,rfl,eB.ret ⟨y9,hp9,t9,hn9,ht9⟩ hp (x03) x10 (Nat.le_refl _) (k3).lt⟩
   · simp only at hm;obtain⟨v,s1,hv,hm⟩:=aY hm;obtain⟨rfl,rfl⟩:Tr.mk 4 sO [v]=t∧s1=s':=by cases hm;exact⟨rfl,rfl⟩
     refine aQ 5 [0,2,4,6,14] rfl ?_;refine aW func154 2 [0,2,4,6,14,22] rfl ?_;refine aI rfl rfl (fun hc=>absurd hc (by simp)) (fun _=>?_);refine aE rfl ?_;refine br func154 1 rfl ?_;refine xo rfl (aq (vs:=[_]) func154 rfl H.Ax rfl (ai.bw ((ih n (Nat.le_refl _)).p2 _ _ _ _ _ hp3 hv))) ?_;rintro r6 h6 ⟨y6,hp6,t6,hn6,ht6⟩;have z6:=y6.size;obtain⟨nk,nt,na,nn,nc,rfl,hr6⟩:=hn6.get;refine xo rfl (aC.cx (cs:=[_,_,_]) underlying28 H.gR rfl rfl (by decide)) ?_;rintro _ h7 ⟨rfl,hh7⟩;have e7:aF h6 h7:=by rw[hh7];exact Ext.push _ _ _
     have z7:h7.size=h6.size+1:=by rw[hh7];simp
     have hs7:bU eN h7 (fun b=>b<Array.size h3) (.slice (some ⟨h6.size,0,none⟩) 1 1) [t6]:=by rw[hh7];exact mM hr6 (by omega)
     have zk:=(k3).lt;refine xp rfl (aP (H.gU _ _ _ _ _) rfl) ?_;refine RW.bZ rfl rfl rfl (aC.aB H.aV rfl rfl (((k3).ext y6 (show ¬h.size=c.pb by omega)).ax e7) (by first|rfl|(simp;done)|(simp;omega)) (by first|decide|exact of_decide_eq_true rfl|(simp;done)|(simp;omega)) (eT)) ?_;rintro _ hz ⟨rfl,kz,xz,zz⟩;refine xd [0,2,4,6,14,22] rfl ?_;refine G.cN func154 rfl (.cons (bu.cB H.bN H.aV rfl (kz.row) (by first|rfl|(simp;done)|(simp;omega))) (.nil)) ?_;exact⟨_,rfl,cn hp (((x03).trans y6).trans e7.of) (hp6.ax e7) (dS.shut (hs7.mv (Mv.dc (Ext.refl (fun _=>False) _) fun b hb q=>⟨fun q2=>q2,fun q2=>q (by omega)⟩))) (fun q=>by rw[ht6 q]) xz⟩
 · simp only at hm;obtain⟨v,s1,hv,hm⟩:=aY hm;obtain⟨rfl,rfl⟩:Tr.mk 4 sO [v]=t∧s1=s':=by cases hm;exact⟨rfl,rfl⟩
   refine aQ 5 [0,2,4] rfl ?_;refine av rfl ?_;refine aW func154 2 [0,2,4,14] rfl ?_;refine aI rfl rfl (fun hc=>absurd hc (by simp)) (fun _=>?_);refine aE rfl ?_;refine br func154 1 rfl ?_;refine xo rfl (aq (vs:=[_]) func154 rfl H.Ax rfl (ai.bw ((ih n (Nat.le_refl _)).p2 _ _ _ _ _ hp2 hv))) ?_;rintro r6 h6 ⟨y6,hp6,t6,hn6,ht6⟩;have z6:=y6.size;obtain⟨nk,nt,na,nn,nc,rfl,hr6⟩:=hn6.get;refine xo rfl (aC.cx (cs:=[_,_,_]) underlying28 H.gR rfl rfl (by decide)) ?_;rintro _ h7 ⟨rfl,hh7⟩;have e7:aF h6 h7:=by rw[hh7];exact Ext.push _ _ _
   have z7:h7.size=h6.size+1:=by rw[hh7];simp
   have hs7:bU eN h7 (fun b=>b<Array.size h2) (.slice (some ⟨h6.size,0,none⟩) 1 1) [t6]:=by rw[hh7];exact mM hr6 (by omega)
   have zk:=(k2).lt;refine xp rfl (aP (H.gU _ _ _ _ _) rfl) ?_;refine RW.bZ rfl rfl rfl (aC.aB H.aV rfl rfl (((k2).ext y6 (show ¬h.size=c.pb by omega)).ax e7) (by first|rfl|(simp;done)|(simp;omega)) (by first|decide|exact of_decide_eq_true rfl|(simp;done)|(simp;omega)) (eT)) ?_;rintro _ hz ⟨rfl,kz,xz,zz⟩;refine xd [0,2,4,14] rfl ?_;refine G.cN func154 rfl (.cons (bu.cB H.bN H.aV rfl (kz.row) (by first|rfl|(simp;done)|(simp;omega))) (.nil)) ?_;exact⟨_,rfl,cn hp (((x02).trans y6).trans e7.of) (hp6.ax e7) (dS.shut (hs7.mv (Mv.dc (Ext.refl (fun _=>False) _) fun b hb q=>⟨fun q2=>q2,fun q2=>q (by omega)⟩))) (fun q=>by rw[ht6 q]) xz⟩
structure Bu (c:PC) (h g:aD) (b3:Nat) (t1:Tr) (s1:PS):Prop where
 st:qL c g s1
 ext:Ext (fun b=>b=c.pb) h g
 res:bq g h.size 39 [.int .i64 0,.string (bs []),.slice none 0 0]
 lt:h.size<b3
 nd:∃k x a n cc u,bq g b3 39 [.int .i64 k,.string (bs x),.slice a n cc]∧eN.R g (fun b=>b≤h.size∨b=b3) [.int .i64 k,.string (bs x),.slice a n cc] u∧(s1.dm=false→u=t1)
theorem Bu.mv {c:PC}{g':aD}{t1:Tr}{s2:PS}(k:Bu c h g b3 t1 s1) (hp:c.pb<h.size) (x:Ext (fun b=>b=c.pb) g g') (hs:qL c g' s2) (hg:s2.dm=false→s1.dm=false):Bu c h g' b3 t1 s2:=by
 obtain⟨k1,k2,k3,k4,kk,xx,a,n,cc,u,k5,k6,k7⟩:=k;exact⟨hs,k2.trans x,k3.ext x (by omega),k4,kk,xx,a,n,cc,u,k5.ext x (by omega),aX k6 x (fun b hb q=>⟨fun q2=>q (by omega),q⟩),fun q=>k7 (hg q)⟩
theorem JS (s:PS):DX 0 s=(match dL 4 [Bt] s with|(some _,s)=>(some Bt,s)|(none,s)=>match dL 6 [tL] s with|(some _,s)=>(some Bt,s)|(none,s)=>(none,s)):=rfl
theorem JR (s:PS):DX 1 s=(match dL 4 [nN] s with|(some _,s)=>(some nN,s)|(none,s)=>match dL 6 [tM] s with|(some _,s)=>(some nN,s)|(none,s)=>(none,s)):=rfl
theorem JQ (s:PS):DX 3 s=dL 6 E0 s:=rfl
theorem JP (s:PS):DX 4 s=dL 6 EY s:=rfl
theorem JO (s:PS):DX 5 s=dL 6 zP s:=rfl
theorem Dt (ih:∀m,m≤n→zv m):Ct 92 [] (.part 0) (n+1):=by
 intro c h s t s' hp hm;have hpl:=hp.lt;obtain⟨o1,o2⟩:=hp.old;rw[pM,if_neg (by decide),if_neg (by decide),if_neg (by decide)] at hm;obtain⟨v,s1,hv,hm⟩:=aY hm;refine ai.of func92 rfl rfl ?_;refine xr func92 rfl ?_;refine xo rfl (aC.aR H.eG) ?_;rintro _ h1 ⟨rfl,k1,e1,z1⟩;refine xd [0,2] rfl ?_;refine br func92 1 rfl ?_;refine xo rfl (aq (vs:=[_]) func131 rfl H.FH rfl (ai.bw ((ih n (Nat.le_refl _)).p1 _ _ _ _ _ (hp.ax e1) hv))) ?_;rintro r2 h2 ⟨y2,hp2,t2,hn2,uR⟩;obtain⟨nk,nt,na,nn,nc,rfl,hr2⟩:=hn2.get;refine xo rfl (aC.aR H.eG) ?_;rintro _ h3 ⟨rfl,k3,e3,z3⟩;refine RW.bZ rfl rfl rfl (aC.aB H.aV rfl rfl k3 (by first|rfl|(simp;done)|(simp;omega)) (by first|decide|exact of_decide_eq_true rfl|(simp;done)|(simp;omega)) (eT)) ?_;rintro _ h4 ⟨rfl,k4,x4,z4⟩;have z2:=y2.size;have x24:Ext (fun b=>b=h2.size) h2 h4:=e3.of.trans x4;have hI:Bu c h h4 h2.size v s1:=⟨(hp2.ax e3).ext x4 (fun b hb q=>by omega),((e1.of.trans y2).trans e3.of).fo x4 (fun b hb q=>by omega),((k1.ext y2 (by omega)).ax e3).ext x4 (show ¬h.size=h2.size by omega),by omega,nk,nt,na,nn,nc,t2,k4,aX hr2 x24 (fun b hb q=>⟨fun q2=>by omega,fun q2=>q (by omega)⟩),uR⟩
 refine xd [0,2,3] rfl ?_;refine G.block rfl rfl ?_;refine bE (σ:=Nat×Tr×PS) (fun w=>[(0,ptr c.pb),(2,ptr h.size),(3,ptr h2.size)]) (fun w g=>w.1≤n∧pM c.e w.1 (.opL 0 w.2.1) w.2.2=some (t,s')∧Bu c h g h2.size w.2.1 w.2.2) (fun w=>w.1) ((n,v,s1)) rfl ⟨rfl,rfl,rfl,trivial⟩ ⟨Nat.le_refl _,hm,hI⟩ ?_;rintro⟨m,u,sI⟩ g ⟨hmn,hm,hI⟩ ihL
 try dsimp only
 obtain⟨m,rfl⟩:∃m',m=m'+1:=by cases m with|zero=>cases hm|succ m=>exact⟨m,rfl⟩
 rw[pM,JS] at hm;refine G.block rfl rfl ?_;refine av rfl ?_;refine br func92 1 rfl ?_;refine xo rfl (aC.aZ (us:=[_]) underlying93 H.nT rfl rfl (by decide) (by simp[Value.oneCell'])) ?_;rintro _ w5 ⟨rfl,hw5⟩;have y5:aF g w5:=by rw[hw5];exact Ext.push _ _ _
 have ts5:bU mV w5 (fun _=>False) (.slice (some ⟨Array.size g,0,none⟩) 1 1) [Bt]:=by rw[hw5];exact cj _ [Bt] _ rfl (by simp[maxLen]) rfl
 refine xo rfl (aq (vs:=[_,_,_]) func26 rfl H.iY rfl (ai.bw (cg ((hI.st).ax y5) 4 ts5))) ?_;rintro _ h5 ⟨rfl,hp5,x5⟩;have x5:=y5.of.trans x5
 rcases hq5:dL 4 [Bt] sI with ⟨o5,s5⟩
 rw[hq5] at hp5 hm
 rcases o5 with _|v5
 · simp only at hm;refine aQ 5 [0,2,3,5] rfl ?_;refine aW func92 2 [0,2,3,5,17] rfl ?_;refine aI rfl rfl (fun _=>?_) (fun hc=>absurd hc (by simp));refine br func92 1 rfl ?_;refine xo rfl (aC.aZ (us:=[_]) underlying93 H.nT rfl rfl (by decide) (by simp[Value.oneCell'])) ?_;rintro _ w6 ⟨rfl,hw6⟩;have y6:aF h5 w6:=by rw[hw6];exact Ext.push _ _ _
   have ts6:bU mV w6 (fun _=>False) (.slice (some ⟨Array.size h5,0,none⟩) 1 1) [tL]:=by rw[hw6];exact cj _ [tL] _ rfl (by simp[maxLen]) rfl
   refine xo rfl (aq (vs:=[_,_,_]) func26 rfl H.iY rfl (ai.bw (cg ((hp5).ax y6) 6 ts6))) ?_;rintro _ h6 ⟨rfl,hp6,x6⟩;have x6:=y6.of.trans x6
   rcases hq6:dL 6 [tL] s5 with ⟨o6,s6⟩
   rw[hq6] at hp6 hm;have x56:=x5.trans x6
   rcases o6 with _|v6
   · simp only at hm;obtain⟨rfl,rfl⟩:u=t∧s6=s':=by cases hm;exact⟨rfl,rfl⟩
     refine aQ 5 [0,2,3,5,7,17] rfl ?_;refine aW func92 2 [0,2,3,5,7,17,25] rfl ?_;refine aI rfl rfl (fun _=>?_) (fun hc=>absurd hc (by simp));have hI2:=hI.mv hpl x56 hp6 (fun q=>cw hq5 (cw hq6 q));obtain⟨j1,j2,j3,j4,jk,jx,ja,jn,jc,ju,j5,j6,j7⟩:=hI2;refine xr func92 rfl ?_;refine xp rfl (aj.aG H.bN H.aV rfl (j5).row (by first|rfl|(simp;done)|(simp;omega))) ?_;refine RW.bZ rfl rfl rfl (aC.aB H.aV rfl rfl (j3) (by first|rfl|(simp;done)|(simp;omega)) (by first|decide|exact of_decide_eq_true rfl|(simp;done)|(simp;omega)) (eT)) ?_;rintro _ hz ⟨rfl,kz,xz,zz⟩;refine xd [0,2,3,5,7,17,25] rfl ?_;refine G.cN func92 rfl (.cons (bu.cB H.bN H.aV rfl (kz.row) (by first|rfl|(simp;done)|(simp;omega))) (.nil)) ?_;exact⟨_,rfl,cn hp j2 j1 (dS.of (aX j6 (Ext.refl (fun _=>False) _) (fun b hb q=>⟨fun q2=>q2,fun q2=>q (.inl q2)⟩))) j7 xz⟩
   · simp only at hm;obtain⟨v2,s3,hv2,hm⟩:=aY hm;rw[if_neg (by decide)] at hm;refine aQ 5 [0,2,3,5,7,17] rfl ?_;refine aW func92 2 [0,2,3,5,7,17,25] rfl ?_;refine aI rfl rfl (fun hc=>absurd hc (by simp)) (fun _=>?_);have hI2:=hI.mv hpl x56 hp6 (fun q=>cw hq5 (cw hq6 q));obtain⟨j1,j2,j3,j4,jk,jx,ja,jn,jc,ju,j5,j6,j7⟩:=hI2;have j5l:=j5.lt;have j2z:=j2.size;refine aE rfl ?_;refine bV (fun b=>b=c.pb∨Array.size h6≤b) (fun i=>Nat.blt i 4) (sz:=5) (listed:= #[false,false,false,false,false]) func92 H.mixed rfl rfl rfl ?_;refine bI 0 1 (by kernel_rfl) rfl (fun h' e=>aj.aG H.bN H.aV rfl (e.rowAt (by omega) j5.row) (by first|rfl|(simp;done)|(simp;omega))) ?_;refine b9 1 3 (by kernel_rfl) rfl ?_;refine cU 2 7 (by kernel_rfl) rfl (aq (vs:=[_]) func131 rfl H.FH rfl (ai.bw ((ih m (by omega)).p1 _ _ _ _ _ hp6 hv2))) ?_;rintro r6 h6 ⟨y6,hp6,t6,hn6,ht6⟩;refine⟨fun _=>y6.mono (fun _ _ q=>.inl q),?_⟩;have z6:=y6.size;refine cU 3 15 (by kernel_rfl) rfl (aq (vs:=[_,_,_]) func132 rfl H.um rfl (ai.bw (fR (O:=fun b=>b≤h.size∨b=h2.size) Bt (fun b q=>by omega) (dS.of (aX j6 y6 (fun b hb q=>⟨fun q2=>q (by omega),q⟩))) (hn6.ext (Ext.refl (fun _=>False) _) (fun b hb q=>⟨fun q2=>q2,fun q2=>q (by omega)⟩))))) ?_;rintro r8 h8 ⟨hn8,e8⟩;refine⟨fun _=>e8.of,?_⟩;have z8:=e8.size;obtain⟨mk,mt,ma,mn,mc,rfl,hr8⟩:=hn8.get;refine fS 4 31 (by kernel_rfl) rfl (aC.aB H.aV rfl rfl ((j5.ext y6 (show ¬h2.size=c.pb by omega)).ax e8) (by first|rfl|(simp;done)|(simp;omega)) (by first|decide|exact of_decide_eq_true rfl|(simp;done)|(simp;omega)) (eT)) ?_;rintro _ h9 ⟨rfl,k9,x9,z9⟩;refine⟨fun hk=>(nomatch hk),?_⟩;refine bg (by kernel_rfl) ?_;refine xu [0,2,3,5,7,17,25] rfl ?_;refine G.aN ?_;exact ihL (m,.mk 5 Bt [u,v2],s3) _ _ ⟨rfl,rfl,rfl,trivial⟩ ⟨by omega,hm,⟨(hp6.ax e8).ext x9 (fun b hb q=>by omega),((j2.trans y6).trans e8.of).fo x9 (fun b hb q=>by omega),((j3.ext y6 (show ¬h.size=c.pb by omega)).ax e8).ext x9 (show ¬h.size=h2.size by omega),j4,mk,mt,ma,mn,mc,_,k9,aX hr8 x9 (fun b hb q=>⟨fun q2=>q (.inr q2),q⟩),fun q=>by rw[j7 (fh hv2 q),ht6 q]⟩⟩ (Nat.lt_succ_self _)
 · simp only at hm;obtain⟨v2,s3,hv2,hm⟩:=aY hm;rw[if_neg (by decide)] at hm;refine aQ 5 [0,2,3,5] rfl ?_;refine aW func92 2 [0,2,3,5,17] rfl ?_;refine aI rfl rfl (fun hc=>absurd hc (by simp)) (fun _=>?_);have hI2:=hI.mv hpl x5 hp5 (fun q=>cw hq5 q);obtain⟨j1,j2,j3,j4,jk,jx,ja,jn,jc,ju,j5,j6,j7⟩:=hI2;have j5l:=j5.lt;have j2z:=j2.size;refine aE rfl ?_;refine bV (fun b=>b=c.pb∨Array.size h5≤b) (fun i=>Nat.blt i 4) (sz:=5) (listed:= #[false,false,false,false,false]) func92 H.mixed rfl rfl rfl ?_;refine bI 0 1 (by kernel_rfl) rfl (fun h' e=>aj.aG H.bN H.aV rfl (e.rowAt (by omega) j5.row) (by first|rfl|(simp;done)|(simp;omega))) ?_;refine b9 1 3 (by kernel_rfl) rfl ?_;refine cU 2 7 (by kernel_rfl) rfl (aq (vs:=[_]) func131 rfl H.FH rfl (ai.bw ((ih m (by omega)).p1 _ _ _ _ _ hp5 hv2))) ?_;rintro r6 h6 ⟨y6,hp6,t6,hn6,ht6⟩;refine⟨fun _=>y6.mono (fun _ _ q=>.inl q),?_⟩;have z6:=y6.size;refine cU 3 15 (by kernel_rfl) rfl (aq (vs:=[_,_,_]) func132 rfl H.um rfl (ai.bw (fR (O:=fun b=>b≤h.size∨b=h2.size) Bt (fun b q=>by omega) (dS.of (aX j6 y6 (fun b hb q=>⟨fun q2=>q (by omega),q⟩))) (hn6.ext (Ext.refl (fun _=>False) _) (fun b hb q=>⟨fun q2=>q2,fun q2=>q (by omega)⟩))))) ?_;rintro r8 h8 ⟨hn8,e8⟩;refine⟨fun _=>e8.of,?_⟩;have z8:=e8.size;obtain⟨mk,mt,ma,mn,mc,rfl,hr8⟩:=hn8.get;refine fS 4 31 (by kernel_rfl) rfl (aC.aB H.aV rfl rfl ((j5.ext y6 (show ¬h2.size=c.pb by omega)).ax e8) (by first|rfl|(simp;done)|(simp;omega)) (by first|decide|exact of_decide_eq_true rfl|(simp;done)|(simp;omega)) (eT)) ?_;rintro _ h9 ⟨rfl,k9,x9,z9⟩;refine⟨fun hk=>(nomatch hk),?_⟩;refine bg (by kernel_rfl) ?_;refine xu [0,2,3,5,17] rfl ?_;refine G.aN ?_;exact ihL (m,.mk 5 Bt [u,v2],s3) _ _ ⟨rfl,rfl,rfl,trivial⟩ ⟨by omega,hm,⟨(hp6.ax e8).ext x9 (fun b hb q=>by omega),((j2.trans y6).trans e8.of).fo x9 (fun b hb q=>by omega),((j3.ext y6 (show ¬h.size=c.pb by omega)).ax e8).ext x9 (show ¬h.size=h2.size by omega),j4,mk,mt,ma,mn,mc,_,k9,aX hr8 x9 (fun b hb q=>⟨fun q2=>q (.inr q2),q⟩),fun q=>by rw[j7 (fh hv2 q),ht6 q]⟩⟩ (Nat.lt_succ_self _)
theorem BB (ih:∀m,m≤n→zv m):Ct 131 [] (.part 1) (n+1):=by
 intro c h s t s' hp hm;have hpl:=hp.lt;obtain⟨o1,o2⟩:=hp.old;rw[pM,if_neg (by decide),if_neg (by decide),if_neg (by decide)] at hm;obtain⟨v,s1,hv,hm⟩:=aY hm;refine ai.of func131 rfl rfl ?_;refine xr func131 rfl ?_;refine xo rfl (aC.aR H.eG) ?_;rintro _ h1 ⟨rfl,k1,e1,z1⟩;refine xd [0,2] rfl ?_;refine br func131 1 rfl ?_;refine xo rfl (aq (vs:=[_]) func154 rfl H.Ax rfl (ai.bw ((ih n (Nat.le_refl _)).p2 _ _ _ _ _ (hp.ax e1) hv))) ?_;rintro r2 h2 ⟨y2,hp2,t2,hn2,uR⟩;obtain⟨nk,nt,na,nn,nc,rfl,hr2⟩:=hn2.get;refine xo rfl (aC.aR H.eG) ?_;rintro _ h3 ⟨rfl,k3,e3,z3⟩;refine RW.bZ rfl rfl rfl (aC.aB H.aV rfl rfl k3 (by first|rfl|(simp;done)|(simp;omega)) (by first|decide|exact of_decide_eq_true rfl|(simp;done)|(simp;omega)) (eT)) ?_;rintro _ h4 ⟨rfl,k4,x4,z4⟩;have z2:=y2.size;have x24:Ext (fun b=>b=h2.size) h2 h4:=e3.of.trans x4;have hI:Bu c h h4 h2.size v s1:=⟨(hp2.ax e3).ext x4 (fun b hb q=>by omega),((e1.of.trans y2).trans e3.of).fo x4 (fun b hb q=>by omega),((k1.ext y2 (by omega)).ax e3).ext x4 (show ¬h.size=h2.size by omega),by omega,nk,nt,na,nn,nc,t2,k4,aX hr2 x24 (fun b hb q=>⟨fun q2=>by omega,fun q2=>q (by omega)⟩),uR⟩
 refine xd [0,2,3] rfl ?_;refine G.block rfl rfl ?_;refine bE (σ:=Nat×Tr×PS) (fun w=>[(0,ptr c.pb),(2,ptr h.size),(3,ptr h2.size)]) (fun w g=>w.1≤n∧pM c.e w.1 (.opL 1 w.2.1) w.2.2=some (t,s')∧Bu c h g h2.size w.2.1 w.2.2) (fun w=>w.1) ((n,v,s1)) rfl ⟨rfl,rfl,rfl,trivial⟩ ⟨Nat.le_refl _,hm,hI⟩ ?_;rintro⟨m,u,sI⟩ g ⟨hmn,hm,hI⟩ ihL
 try dsimp only
 obtain⟨m,rfl⟩:∃m',m=m'+1:=by cases m with|zero=>cases hm|succ m=>exact⟨m,rfl⟩
 rw[pM,JR] at hm;refine G.block rfl rfl ?_;refine av rfl ?_;refine br func131 1 rfl ?_;refine xo rfl (aC.aZ (us:=[_]) underlying93 H.nT rfl rfl (by decide) (by simp[Value.oneCell'])) ?_;rintro _ w5 ⟨rfl,hw5⟩;have y5:aF g w5:=by rw[hw5];exact Ext.push _ _ _
 have ts5:bU mV w5 (fun _=>False) (.slice (some ⟨Array.size g,0,none⟩) 1 1) [nN]:=by rw[hw5];exact cj _ [nN] _ rfl (by simp[maxLen]) rfl
 refine xo rfl (aq (vs:=[_,_,_]) func26 rfl H.iY rfl (ai.bw (cg ((hI.st).ax y5) 4 ts5))) ?_;rintro _ h5 ⟨rfl,hp5,x5⟩;have x5:=y5.of.trans x5
 rcases hq5:dL 4 [nN] sI with ⟨o5,s5⟩
 rw[hq5] at hp5 hm
 rcases o5 with _|v5
 · simp only at hm;refine aQ 5 [0,2,3,5] rfl ?_;refine aW func131 2 [0,2,3,5,17] rfl ?_;refine aI rfl rfl (fun _=>?_) (fun hc=>absurd hc (by simp));refine br func131 1 rfl ?_;refine xo rfl (aC.aZ (us:=[_]) underlying93 H.nT rfl rfl (by decide) (by simp[Value.oneCell'])) ?_;rintro _ w6 ⟨rfl,hw6⟩;have y6:aF h5 w6:=by rw[hw6];exact Ext.push _ _ _
   have ts6:bU mV w6 (fun _=>False) (.slice (some ⟨Array.size h5,0,none⟩) 1 1) [tM]:=by rw[hw6];exact cj _ [tM] _ rfl (by simp[maxLen]) rfl
   refine xo rfl (aq (vs:=[_,_,_]) func26 rfl H.iY rfl (ai.bw (cg ((hp5).ax y6) 6 ts6))) ?_;rintro _ h6 ⟨rfl,hp6,x6⟩;have x6:=y6.of.trans x6
   rcases hq6:dL 6 [tM] s5 with ⟨o6,s6⟩
   rw[hq6] at hp6 hm;have x56:=x5.trans x6
   rcases o6 with _|v6
   · simp only at hm;obtain⟨rfl,rfl⟩:u=t∧s6=s':=by cases hm;exact⟨rfl,rfl⟩
     refine aQ 5 [0,2,3,5,7,17] rfl ?_;refine aW func131 2 [0,2,3,5,7,17,25] rfl ?_;refine aI rfl rfl (fun _=>?_) (fun hc=>absurd hc (by simp));have hI2:=hI.mv hpl x56 hp6 (fun q=>cw hq5 (cw hq6 q));obtain⟨j1,j2,j3,j4,jk,jx,ja,jn,jc,ju,j5,j6,j7⟩:=hI2;refine xr func131 rfl ?_;refine xp rfl (aj.aG H.bN H.aV rfl (j5).row (by first|rfl|(simp;done)|(simp;omega))) ?_;refine RW.bZ rfl rfl rfl (aC.aB H.aV rfl rfl (j3) (by first|rfl|(simp;done)|(simp;omega)) (by first|decide|exact of_decide_eq_true rfl|(simp;done)|(simp;omega)) (eT)) ?_;rintro _ hz ⟨rfl,kz,xz,zz⟩;refine xd [0,2,3,5,7,17,25] rfl ?_;refine G.cN func131 rfl (.cons (bu.cB H.bN H.aV rfl (kz.row) (by first|rfl|(simp;done)|(simp;omega))) (.nil)) ?_;exact⟨_,rfl,cn hp j2 j1 (dS.of (aX j6 (Ext.refl (fun _=>False) _) (fun b hb q=>⟨fun q2=>q2,fun q2=>q (.inl q2)⟩))) j7 xz⟩
   · simp only at hm;obtain⟨v2,s3,hv2,hm⟩:=aY hm;rw[if_neg (by decide)] at hm;refine aQ 5 [0,2,3,5,7,17] rfl ?_;refine aW func131 2 [0,2,3,5,7,17,25] rfl ?_;refine aI rfl rfl (fun hc=>absurd hc (by simp)) (fun _=>?_);have hI2:=hI.mv hpl x56 hp6 (fun q=>cw hq5 (cw hq6 q));obtain⟨j1,j2,j3,j4,jk,jx,ja,jn,jc,ju,j5,j6,j7⟩:=hI2;have j5l:=j5.lt;have j2z:=j2.size;refine aE rfl ?_;refine bV (fun b=>b=c.pb∨Array.size h6≤b) (fun i=>Nat.blt i 4) (sz:=5) (listed:= #[false,false,false,false,false]) func131 H.mixed rfl rfl rfl ?_;refine bI 0 1 (by kernel_rfl) rfl (fun h' e=>aj.aG H.bN H.aV rfl (e.rowAt (by omega) j5.row) (by first|rfl|(simp;done)|(simp;omega))) ?_;refine b9 1 3 (by kernel_rfl) rfl ?_;refine cU 2 7 (by kernel_rfl) rfl (aq (vs:=[_]) func154 rfl H.Ax rfl (ai.bw ((ih m (by omega)).p2 _ _ _ _ _ hp6 hv2))) ?_;rintro r6 h6 ⟨y6,hp6,t6,hn6,ht6⟩;refine⟨fun _=>y6.mono (fun _ _ q=>.inl q),?_⟩;have z6:=y6.size;refine cU 3 15 (by kernel_rfl) rfl (aq (vs:=[_,_,_]) func132 rfl H.um rfl (ai.bw (fR (O:=fun b=>b≤h.size∨b=h2.size) nN (fun b q=>by omega) (dS.of (aX j6 y6 (fun b hb q=>⟨fun q2=>q (by omega),q⟩))) (hn6.ext (Ext.refl (fun _=>False) _) (fun b hb q=>⟨fun q2=>q2,fun q2=>q (by omega)⟩))))) ?_;rintro r8 h8 ⟨hn8,e8⟩;refine⟨fun _=>e8.of,?_⟩;have z8:=e8.size;obtain⟨mk,mt,ma,mn,mc,rfl,hr8⟩:=hn8.get;refine fS 4 31 (by kernel_rfl) rfl (aC.aB H.aV rfl rfl ((j5.ext y6 (show ¬h2.size=c.pb by omega)).ax e8) (by first|rfl|(simp;done)|(simp;omega)) (by first|decide|exact of_decide_eq_true rfl|(simp;done)|(simp;omega)) (eT)) ?_;rintro _ h9 ⟨rfl,k9,x9,z9⟩;refine⟨fun hk=>(nomatch hk),?_⟩;refine bg (by kernel_rfl) ?_;refine xu [0,2,3,5,7,17,25] rfl ?_;refine G.aN ?_;exact ihL (m,.mk 5 nN [u,v2],s3) _ _ ⟨rfl,rfl,rfl,trivial⟩ ⟨by omega,hm,⟨(hp6.ax e8).ext x9 (fun b hb q=>by omega),((j2.trans y6).trans e8.of).fo x9 (fun b hb q=>by omega),((j3.ext y6 (show ¬h.size=c.pb by omega)).ax e8).ext x9 (show ¬h.size=h2.size by omega),j4,mk,mt,ma,mn,mc,_,k9,aX hr8 x9 (fun b hb q=>⟨fun q2=>q (.inr q2),q⟩),fun q=>by rw[j7 (fh hv2 q),ht6 q]⟩⟩ (Nat.lt_succ_self _)
 · simp only at hm;obtain⟨v2,s3,hv2,hm⟩:=aY hm;rw[if_neg (by decide)] at hm;refine aQ 5 [0,2,3,5] rfl ?_;refine aW func131 2 [0,2,3,5,17] rfl ?_;refine aI rfl rfl (fun hc=>absurd hc (by simp)) (fun _=>?_);have hI2:=hI.mv hpl x5 hp5 (fun q=>cw hq5 q);obtain⟨j1,j2,j3,j4,jk,jx,ja,jn,jc,ju,j5,j6,j7⟩:=hI2;have j5l:=j5.lt;have j2z:=j2.size;refine aE rfl ?_;refine bV (fun b=>b=c.pb∨Array.size h5≤b) (fun i=>Nat.blt i 4) (sz:=5) (listed:= #[false,false,false,false,false]) func131 H.mixed rfl rfl rfl ?_;refine bI 0 1 (by kernel_rfl) rfl (fun h' e=>aj.aG H.bN H.aV rfl (e.rowAt (by omega) j5.row) (by first|rfl|(simp;done)|(simp;omega))) ?_;refine b9 1 3 (by kernel_rfl) rfl ?_;refine cU 2 7 (by kernel_rfl) rfl (aq (vs:=[_]) func154 rfl H.Ax rfl (ai.bw ((ih m (by omega)).p2 _ _ _ _ _ hp5 hv2))) ?_;rintro r6 h6 ⟨y6,hp6,t6,hn6,ht6⟩;refine⟨fun _=>y6.mono (fun _ _ q=>.inl q),?_⟩;have z6:=y6.size;refine cU 3 15 (by kernel_rfl) rfl (aq (vs:=[_,_,_]) func132 rfl H.um rfl (ai.bw (fR (O:=fun b=>b≤h.size∨b=h2.size) nN (fun b q=>by omega) (dS.of (aX j6 y6 (fun b hb q=>⟨fun q2=>q (by omega),q⟩))) (hn6.ext (Ext.refl (fun _=>False) _) (fun b hb q=>⟨fun q2=>q2,fun q2=>q (by omega)⟩))))) ?_;rintro r8 h8 ⟨hn8,e8⟩;refine⟨fun _=>e8.of,?_⟩;have z8:=e8.size;obtain⟨mk,mt,ma,mn,mc,rfl,hr8⟩:=hn8.get;refine fS 4 31 (by kernel_rfl) rfl (aC.aB H.aV rfl rfl ((j5.ext y6 (show ¬h2.size=c.pb by omega)).ax e8) (by first|rfl|(simp;done)|(simp;omega)) (by first|decide|exact of_decide_eq_true rfl|(simp;done)|(simp;omega)) (eT)) ?_;rintro _ h9 ⟨rfl,k9,x9,z9⟩;refine⟨fun hk=>(nomatch hk),?_⟩;refine bg (by kernel_rfl) ?_;refine xu [0,2,3,5,17] rfl ?_;refine G.aN ?_;exact ihL (m,.mk 5 nN [u,v2],s3) _ _ ⟨rfl,rfl,rfl,trivial⟩ ⟨by omega,hm,⟨(hp6.ax e8).ext x9 (fun b hb q=>by omega),((j2.trans y6).trans e8.of).fo x9 (fun b hb q=>by omega),((j3.ext y6 (show ¬h.size=c.pb by omega)).ax e8).ext x9 (show ¬h.size=h2.size by omega),j4,mk,mt,ma,mn,mc,_,k9,aX hr8 x9 (fun b hb q=>⟨fun q2=>q (.inr q2),q⟩),fun q=>by rw[j7 (fh hv2 q),ht6 q]⟩⟩ (Nat.lt_succ_self _)
theorem Bw (ih:∀m,m≤n→zv m):Ct 188 [] (.part 4) (n+1):=by
 intro c h s t s' hp hm;have hpl:=hp.lt;obtain⟨o1,o2⟩:=hp.old;rw[pM,if_neg (by decide),if_neg (by decide),if_neg (by decide)] at hm;obtain⟨v,s1,hv,hm⟩:=aY hm;refine ai.of func188 rfl rfl ?_;refine xr func188 rfl ?_;refine xo rfl (aC.aR H.eG) ?_;rintro _ h1 ⟨rfl,k1,e1,z1⟩;refine xd [0,2] rfl ?_;refine br func188 1 rfl ?_;refine xo rfl (aq (vs:=[_]) func204 rfl H.Ik rfl (ai.bw ((ih n (Nat.le_refl _)).p5 _ _ _ _ _ (hp.ax e1) hv))) ?_;rintro r2 h2 ⟨y2,hp2,t2,hn2,uR⟩;obtain⟨nk,nt,na,nn,nc,rfl,hr2⟩:=hn2.get;refine xo rfl (aC.aR H.eG) ?_;rintro _ h3 ⟨rfl,k3,e3,z3⟩;refine RW.bZ rfl rfl rfl (aC.aB H.aV rfl rfl k3 (by first|rfl|(simp;done)|(simp;omega)) (by first|decide|exact of_decide_eq_true rfl|(simp;done)|(simp;omega)) (eT)) ?_;rintro _ h4 ⟨rfl,k4,x4,z4⟩;have z2:=y2.size;have x24:Ext (fun b=>b=h2.size) h2 h4:=e3.of.trans x4;have hI:Bu c h h4 h2.size v s1:=⟨(hp2.ax e3).ext x4 (fun b hb q=>by omega),((e1.of.trans y2).trans e3.of).fo x4 (fun b hb q=>by omega),((k1.ext y2 (by omega)).ax e3).ext x4 (show ¬h.size=h2.size by omega),by omega,nk,nt,na,nn,nc,t2,k4,aX hr2 x24 (fun b hb q=>⟨fun q2=>by omega,fun q2=>q (by omega)⟩),uR⟩
 refine xd [0,2,3] rfl ?_;refine G.block rfl rfl ?_;refine bE (σ:=Nat×Tr×PS) (fun w=>[(0,ptr c.pb),(2,ptr h.size),(3,ptr h2.size)]) (fun w g=>w.1≤n∧pM c.e w.1 (.opL 4 w.2.1) w.2.2=some (t,s')∧Bu c h g h2.size w.2.1 w.2.2) (fun w=>w.1) ((n,v,s1)) rfl ⟨rfl,rfl,rfl,trivial⟩ ⟨Nat.le_refl _,hm,hI⟩ ?_;rintro⟨m,u,sI⟩ g ⟨hmn,hm,hI⟩ ihL
 try dsimp only
 obtain⟨m,rfl⟩:∃m',m=m'+1:=by cases m with|zero=>cases hm|succ m=>exact⟨m,rfl⟩
 rw[pM,JP] at hm;refine G.block rfl rfl ?_;refine br func188 1 rfl ?_;refine xo rfl (aC.aZ (us:=[_,_]) underlying93 H.nT rfl rfl (by decide) (by simp[Value.oneCell'])) ?_;rintro _ w5 ⟨rfl,hw5⟩;have y5:aF g w5:=by rw[hw5];exact Ext.push _ _ _
 have ts5:bU mV w5 (fun _=>False) (.slice (some ⟨Array.size g,0,none⟩) 2 2) EY:=by rw[hw5];exact cj _ EY _ rfl (by simp[maxLen]) rfl
 refine xo rfl (aq (vs:=[_,_,_]) func26 rfl H.iY rfl (ai.bw (cg ((hI.st).ax y5) 6 ts5))) ?_;rintro _ h5 ⟨rfl,hp5,x5⟩;have x5:=y5.of.trans x5
 rcases hq5:dL 6 EY sI with ⟨o5,s5⟩
 rw[hq5] at hp5 hm
 rcases o5 with _|v5
 · simp only at hm;obtain⟨rfl,rfl⟩:u=t∧s5=s':=by cases hm;exact⟨rfl,rfl⟩
   refine aQ 5 [0,2,3,4,5] rfl ?_;refine av rfl ?_;refine aW func188 2 [0,2,3,4,5,15] rfl ?_;refine aI rfl rfl (fun _=>?_) (fun hc=>absurd hc (by simp));have hI2:=hI.mv hpl x5 hp5 (fun q=>cw hq5 q);obtain⟨j1,j2,j3,j4,jk,jx,ja,jn,jc,ju,j5,j6,j7⟩:=hI2;refine xr func188 rfl ?_;refine xp rfl (aj.aG H.bN H.aV rfl (j5).row (by first|rfl|(simp;done)|(simp;omega))) ?_;refine RW.bZ rfl rfl rfl (aC.aB H.aV rfl rfl (j3) (by first|rfl|(simp;done)|(simp;omega)) (by first|decide|exact of_decide_eq_true rfl|(simp;done)|(simp;omega)) (eT)) ?_;rintro _ hz ⟨rfl,kz,xz,zz⟩;refine xd [0,2,3,4,5,15] rfl ?_;refine G.cN func188 rfl (.cons (bu.cB H.bN H.aV rfl (kz.row) (by first|rfl|(simp;done)|(simp;omega))) (.nil)) ?_;exact⟨_,rfl,cn hp j2 j1 (dS.of (aX j6 (Ext.refl (fun _=>False) _) (fun b hb q=>⟨fun q2=>q2,fun q2=>q (.inl q2)⟩))) j7 xz⟩
 · simp only at hm;obtain⟨v2,s3,hv2,hm⟩:=aY hm;rw[if_neg (by decide)] at hm;refine aQ 5 [0,2,3,4,5] rfl ?_;refine av rfl ?_;refine aW func188 2 [0,2,3,4,5,15] rfl ?_;refine aI rfl rfl (fun hc=>absurd hc (by simp)) (fun _=>?_);have hI2:=hI.mv hpl x5 hp5 (fun q=>cw hq5 q);obtain⟨j1,j2,j3,j4,jk,jx,ja,jn,jc,ju,j5,j6,j7⟩:=hI2;have j5l:=j5.lt;have j2z:=j2.size;refine aE rfl ?_;refine bV (fun b=>b=c.pb∨Array.size h5≤b) (fun i=>Nat.blt i 5) (sz:=6) (listed:= #[false,false,false,false,false,false]) func188 H.mixed rfl rfl rfl ?_;refine b9 0 1 (by kernel_rfl) rfl ?_;refine bI 1 3 (by kernel_rfl) rfl (fun h' e=>aj.aG H.bN H.aV rfl (e.rowAt (by omega) j5.row) (by first|rfl|(simp;done)|(simp;omega))) ?_;refine b9 2 7 (by kernel_rfl) rfl ?_;refine cU 3 15 (by kernel_rfl) rfl (aq (vs:=[_]) func204 rfl H.Ik rfl (ai.bw ((ih m (by omega)).p5 _ _ _ _ _ hp5 hv2))) ?_;rintro r6 h6 ⟨y6,hp6,t6,hn6,ht6⟩;refine⟨fun _=>y6.mono (fun _ _ q=>.inl q),?_⟩;have z6:=y6.size;refine cU 4 31 (by kernel_rfl) rfl (aq (vs:=[_,_,_]) func132 rfl H.um rfl (ai.bw (fR (O:=fun b=>b≤h.size∨b=h2.size) v5 (fun b q=>by omega) (dS.of (aX j6 y6 (fun b hb q=>⟨fun q2=>q (by omega),q⟩))) (hn6.ext (Ext.refl (fun _=>False) _) (fun b hb q=>⟨fun q2=>q2,fun q2=>q (by omega)⟩))))) ?_;rintro r8 h8 ⟨hn8,e8⟩;refine⟨fun _=>e8.of,?_⟩;have z8:=e8.size;obtain⟨mk,mt,ma,mn,mc,rfl,hr8⟩:=hn8.get;refine fS 5 63 (by kernel_rfl) rfl (aC.aB H.aV rfl rfl ((j5.ext y6 (show ¬h2.size=c.pb by omega)).ax e8) (by first|rfl|(simp;done)|(simp;omega)) (by first|decide|exact of_decide_eq_true rfl|(simp;done)|(simp;omega)) (eT)) ?_;rintro _ h9 ⟨rfl,k9,x9,z9⟩;refine⟨fun hk=>(nomatch hk),?_⟩;refine bg (by kernel_rfl) ?_;refine xu [0,2,3,4,5,15] rfl ?_;refine G.aN ?_;exact ihL (m,.mk 5 v5 [u,v2],s3) _ _ ⟨rfl,rfl,rfl,trivial⟩ ⟨by omega,hm,⟨(hp6.ax e8).ext x9 (fun b hb q=>by omega),((j2.trans y6).trans e8.of).fo x9 (fun b hb q=>by omega),((j3.ext y6 (show ¬h.size=c.pb by omega)).ax e8).ext x9 (show ¬h.size=h2.size by omega),j4,mk,mt,ma,mn,mc,_,k9,aX hr8 x9 (fun b hb q=>⟨fun q2=>q (.inr q2),q⟩),fun q=>by rw[j7 (fh hv2 q),ht6 q]⟩⟩ (Nat.lt_succ_self _)
theorem zy (ih:∀m,m≤n→zv m):Ct 204 [] (.part 5) (n+1):=by
 intro c h s t s' hp hm;have hpl:=hp.lt;obtain⟨o1,o2⟩:=hp.old;rw[pM,if_neg (by decide),if_neg (by decide),if_neg (by decide)] at hm;obtain⟨v,s1,hv,hm⟩:=aY hm;refine ai.of func204 rfl rfl ?_;refine xr func204 rfl ?_;refine xo rfl (aC.aR H.eG) ?_;rintro _ h1 ⟨rfl,k1,e1,z1⟩;refine xd [0,2] rfl ?_;refine br func204 1 rfl ?_;refine xo rfl (aq (vs:=[_]) func211 rfl H.FD rfl (ai.bw ((ih n (Nat.le_refl _)).p6 _ _ _ _ _ (hp.ax e1) hv))) ?_;rintro r2 h2 ⟨y2,hp2,t2,hn2,uR⟩;obtain⟨nk,nt,na,nn,nc,rfl,hr2⟩:=hn2.get;refine xo rfl (aC.aR H.eG) ?_;rintro _ h3 ⟨rfl,k3,e3,z3⟩;refine RW.bZ rfl rfl rfl (aC.aB H.aV rfl rfl k3 (by first|rfl|(simp;done)|(simp;omega)) (by first|decide|exact of_decide_eq_true rfl|(simp;done)|(simp;omega)) (eT)) ?_;rintro _ h4 ⟨rfl,k4,x4,z4⟩;have z2:=y2.size;have x24:Ext (fun b=>b=h2.size) h2 h4:=e3.of.trans x4;have hI:Bu c h h4 h2.size v s1:=⟨(hp2.ax e3).ext x4 (fun b hb q=>by omega),((e1.of.trans y2).trans e3.of).fo x4 (fun b hb q=>by omega),((k1.ext y2 (by omega)).ax e3).ext x4 (show ¬h.size=h2.size by omega),by omega,nk,nt,na,nn,nc,t2,k4,aX hr2 x24 (fun b hb q=>⟨fun q2=>by omega,fun q2=>q (by omega)⟩),uR⟩
 refine xd [0,2,3] rfl ?_;refine G.block rfl rfl ?_;refine bE (σ:=Nat×Tr×PS) (fun w=>[(0,ptr c.pb),(2,ptr h.size),(3,ptr h2.size)]) (fun w g=>w.1≤n∧pM c.e w.1 (.opL 5 w.2.1) w.2.2=some (t,s')∧Bu c h g h2.size w.2.1 w.2.2) (fun w=>w.1) ((n,v,s1)) rfl ⟨rfl,rfl,rfl,trivial⟩ ⟨Nat.le_refl _,hm,hI⟩ ?_;rintro⟨m,u,sI⟩ g ⟨hmn,hm,hI⟩ ihL
 try dsimp only
 obtain⟨m,rfl⟩:∃m',m=m'+1:=by cases m with|zero=>cases hm|succ m=>exact⟨m,rfl⟩
 rw[pM,JO] at hm;refine G.block rfl rfl ?_;refine br func204 1 rfl ?_;refine xo rfl (aC.aZ (us:=[_,_,_]) underlying93 H.nT rfl rfl (by decide) (by simp[Value.oneCell'])) ?_;rintro _ w5 ⟨rfl,hw5⟩;have y5:aF g w5:=by rw[hw5];exact Ext.push _ _ _
 have ts5:bU mV w5 (fun _=>False) (.slice (some ⟨Array.size g,0,none⟩) 3 3) zP:=by rw[hw5];exact cj _ zP _ rfl (by simp[maxLen]) rfl
 refine xo rfl (aq (vs:=[_,_,_]) func26 rfl H.iY rfl (ai.bw (cg ((hI.st).ax y5) 6 ts5))) ?_;rintro _ h5 ⟨rfl,hp5,x5⟩;have x5:=y5.of.trans x5
 rcases hq5:dL 6 zP sI with ⟨o5,s5⟩
 rw[hq5] at hp5 hm
 rcases o5 with _|v5
 · simp only at hm;obtain⟨rfl,rfl⟩:u=t∧s5=s':=by cases hm;exact⟨rfl,rfl⟩
   refine aQ 5 [0,2,3,4,5] rfl ?_;refine av rfl ?_;refine aW func204 2 [0,2,3,4,5,15] rfl ?_;refine aI rfl rfl (fun _=>?_) (fun hc=>absurd hc (by simp));have hI2:=hI.mv hpl x5 hp5 (fun q=>cw hq5 q);obtain⟨j1,j2,j3,j4,jk,jx,ja,jn,jc,ju,j5,j6,j7⟩:=hI2;refine xr func204 rfl ?_;refine xp rfl (aj.aG H.bN H.aV rfl (j5).row (by first|rfl|(simp;done)|(simp;omega))) ?_;refine RW.bZ rfl rfl rfl (aC.aB H.aV rfl rfl (j3) (by first|rfl|(simp;done)|(simp;omega)) (by first|decide|exact of_decide_eq_true rfl|(simp;done)|(simp;omega)) (eT)) ?_;rintro _ hz ⟨rfl,kz,xz,zz⟩;refine xd [0,2,3,4,5,15] rfl ?_;refine G.cN func204 rfl (.cons (bu.cB H.bN H.aV rfl (kz.row) (by first|rfl|(simp;done)|(simp;omega))) (.nil)) ?_;exact⟨_,rfl,cn hp j2 j1 (dS.of (aX j6 (Ext.refl (fun _=>False) _) (fun b hb q=>⟨fun q2=>q2,fun q2=>q (.inl q2)⟩))) j7 xz⟩
 · simp only at hm;obtain⟨v2,s3,hv2,hm⟩:=aY hm;rw[if_neg (by decide)] at hm;refine aQ 5 [0,2,3,4,5] rfl ?_;refine av rfl ?_;refine aW func204 2 [0,2,3,4,5,15] rfl ?_;refine aI rfl rfl (fun hc=>absurd hc (by simp)) (fun _=>?_);have hI2:=hI.mv hpl x5 hp5 (fun q=>cw hq5 q);obtain⟨j1,j2,j3,j4,jk,jx,ja,jn,jc,ju,j5,j6,j7⟩:=hI2;have j5l:=j5.lt;have j2z:=j2.size;refine aE rfl ?_;refine bV (fun b=>b=c.pb∨Array.size h5≤b) (fun i=>Nat.blt i 5) (sz:=6) (listed:= #[false,false,false,false,false,false]) func204 H.mixed rfl rfl rfl ?_;refine b9 0 1 (by kernel_rfl) rfl ?_;refine bI 1 3 (by kernel_rfl) rfl (fun h' e=>aj.aG H.bN H.aV rfl (e.rowAt (by omega) j5.row) (by first|rfl|(simp;done)|(simp;omega))) ?_;refine b9 2 7 (by kernel_rfl) rfl ?_;refine cU 3 15 (by kernel_rfl) rfl (aq (vs:=[_]) func211 rfl H.FD rfl (ai.bw ((ih m (by omega)).p6 _ _ _ _ _ hp5 hv2))) ?_;rintro r6 h6 ⟨y6,hp6,t6,hn6,ht6⟩;refine⟨fun _=>y6.mono (fun _ _ q=>.inl q),?_⟩;have z6:=y6.size;refine cU 4 31 (by kernel_rfl) rfl (aq (vs:=[_,_,_]) func132 rfl H.um rfl (ai.bw (fR (O:=fun b=>b≤h.size∨b=h2.size) v5 (fun b q=>by omega) (dS.of (aX j6 y6 (fun b hb q=>⟨fun q2=>q (by omega),q⟩))) (hn6.ext (Ext.refl (fun _=>False) _) (fun b hb q=>⟨fun q2=>q2,fun q2=>q (by omega)⟩))))) ?_;rintro r8 h8 ⟨hn8,e8⟩;refine⟨fun _=>e8.of,?_⟩;have z8:=e8.size;obtain⟨mk,mt,ma,mn,mc,rfl,hr8⟩:=hn8.get;refine fS 5 63 (by kernel_rfl) rfl (aC.aB H.aV rfl rfl ((j5.ext y6 (show ¬h2.size=c.pb by omega)).ax e8) (by first|rfl|(simp;done)|(simp;omega)) (by first|decide|exact of_decide_eq_true rfl|(simp;done)|(simp;omega)) (eT)) ?_;rintro _ h9 ⟨rfl,k9,x9,z9⟩;refine⟨fun hk=>(nomatch hk),?_⟩;refine bg (by kernel_rfl) ?_;refine xu [0,2,3,4,5,15] rfl ?_;refine G.aN ?_;exact ihL (m,.mk 5 v5 [u,v2],s3) _ _ ⟨rfl,rfl,rfl,trivial⟩ ⟨by omega,hm,⟨(hp6.ax e8).ext x9 (fun b hb q=>by omega),((j2.trans y6).trans e8.of).fo x9 (fun b hb q=>by omega),((j3.ext y6 (show ¬h.size=c.pb by omega)).ax e8).ext x9 (show ¬h.size=h2.size by omega),j4,mk,mt,ma,mn,mc,_,k9,aX hr8 x9 (fun b hb q=>⟨fun q2=>q (.inr q2),q⟩),fun q=>by rw[j7 (fh hv2 q),ht6 q]⟩⟩ (Nat.lt_succ_self _)
theorem tG (ih:∀m,m≤n→zv m):Ct 168 [] (.part 3) (n+1):=by
 intro c h s t s' hp hm;have hpl:=hp.lt;obtain⟨o1,o2⟩:=hp.old;rw[pM,if_neg (by decide),if_neg (by decide),if_neg (by decide)] at hm;obtain⟨v,s1,hv,hm⟩:=aY hm;refine ai.of func168 rfl rfl ?_;refine xr func168 rfl ?_;refine xo rfl (aC.aR H.eG) ?_;rintro _ h1 ⟨rfl,k1,e1,z1⟩;refine xd [0,2] rfl ?_;refine br func168 1 rfl ?_;refine xo rfl (aq (vs:=[_]) func188 rfl H.Io rfl (ai.bw ((ih n (Nat.le_refl _)).p4 _ _ _ _ _ (hp.ax e1) hv))) ?_;rintro r2 h2 ⟨y2,hp2,t2,hn2,uR⟩;obtain⟨nk,nt,na,nn,nc,rfl,hr2⟩:=hn2.get;refine xo rfl (aC.aR H.eG) ?_;rintro _ h3 ⟨rfl,k3,e3,z3⟩;refine RW.bZ rfl rfl rfl (aC.aB H.aV rfl rfl k3 (by first|rfl|(simp;done)|(simp;omega)) (by first|decide|exact of_decide_eq_true rfl|(simp;done)|(simp;omega)) (eT)) ?_;rintro _ h4 ⟨rfl,k4,x4,z4⟩;have z2:=y2.size;have x24:Ext (fun b=>b=h2.size) h2 h4:=e3.of.trans x4;have hI:Bu c h h4 h2.size v s1:=⟨(hp2.ax e3).ext x4 (fun b hb q=>by omega),((e1.of.trans y2).trans e3.of).fo x4 (fun b hb q=>by omega),((k1.ext y2 (by omega)).ax e3).ext x4 (show ¬h.size=h2.size by omega),by omega,nk,nt,na,nn,nc,t2,k4,aX hr2 x24 (fun b hb q=>⟨fun q2=>by omega,fun q2=>q (by omega)⟩),uR⟩
 obtain⟨m,rfl⟩:∃m',n=m'+1:=by cases n with|zero=>cases hm|succ m=>exact⟨m,rfl⟩
 rw[pM,JQ] at hm;refine xd [0,2,3] rfl ?_;refine av rfl ?_;refine br func168 1 rfl ?_;refine xo rfl (aC.aZ (us:=[_,_,_,_,_,_]) underlying93 H.nT rfl rfl (by decide) (by simp[Value.oneCell'])) ?_;rintro _ w5 ⟨rfl,hw5⟩;have y5:aF h4 w5:=by rw[hw5];exact Ext.push _ _ _
 have ts5:bU mV w5 (fun _=>False) (.slice (some ⟨Array.size h4,0,none⟩) 6 6) E0:=by rw[hw5];exact cj _ E0 _ rfl (by simp[maxLen]) rfl
 refine xo rfl (aq (vs:=[_,_,_]) func26 rfl H.iY rfl (ai.bw (cg ((hI.st).ax y5) 6 ts5))) ?_;rintro _ h5 ⟨rfl,hp5,x5⟩;have x5:=y5.of.trans x5
 rcases hq5:dL 6 E0 s1 with ⟨o5,s5⟩
 rw[hq5] at hp5 hm
 rcases o5 with _|v5
 · simp only at hm;obtain⟨rfl,rfl⟩:v=t∧s5=s':=by cases hm;exact⟨rfl,rfl⟩
   refine aQ 5 [0,2,3,4,5] rfl ?_;refine aW func168 1 [0,2,3,4,5,14] rfl ?_;refine aI rfl rfl (fun hc=>absurd hc (by simp)) (fun _=>?_);have hI2:=hI.mv hpl x5 hp5 (fun q=>cw hq5 q);obtain⟨j1,j2,j3,j4,jk,jx,ja,jn,jc,ju,j5,j6,j7⟩:=hI2;refine aE rfl ?_;refine xr func168 rfl ?_;refine xp rfl (aj.aG H.bN H.aV rfl (j5).row (by first|rfl|(simp;done)|(simp;omega))) ?_;refine RW.bZ rfl rfl rfl (aC.aB H.aV rfl rfl (j3) (by first|rfl|(simp;done)|(simp;omega)) (by first|decide|exact of_decide_eq_true rfl|(simp;done)|(simp;omega)) (eT)) ?_;rintro _ hz ⟨rfl,kz,xz,zz⟩;refine xd [0,2,3,4,5,14] rfl ?_;refine G.cN func168 rfl (.cons (bu.cB H.bN H.aV rfl (kz.row) (by first|rfl|(simp;done)|(simp;omega))) (.nil)) ?_;exact⟨_,rfl,cn hp j2 j1 (dS.of (aX j6 (Ext.refl (fun _=>False) _) (fun b hb q=>⟨fun q2=>q2,fun q2=>q (.inl q2)⟩))) j7 xz⟩
 · simp only at hm;obtain⟨v2,s3,hv2,hm⟩:=aY hm;rw[if_pos trivial] at hm;obtain⟨rfl,rfl⟩:Tr.mk 5 v5 [v,v2]=t∧s3=s':=by cases hm;exact⟨rfl,rfl⟩
   refine aQ 5 [0,2,3,4,5] rfl ?_;refine aW func168 1 [0,2,3,4,5,14] rfl ?_;refine aI rfl rfl (fun _=>?_) (fun hc=>absurd hc (by simp));have hI2:=hI.mv hpl x5 hp5 (fun q=>cw hq5 q);obtain⟨j1,j2,j3,j4,jk,jx,ja,jn,jc,ju,j5,j6,j7⟩:=hI2;have j5l:=j5.lt;have j2z:=j2.size;refine av rfl ?_;refine bV (fun b=>b=c.pb∨Array.size h5≤b) (fun i=>Nat.blt i 5) (sz:=6) (listed:= #[false,false,false,false,false,false]) func168 H.mixed rfl rfl rfl ?_;refine b9 0 1 (by kernel_rfl) rfl ?_;refine bI 1 3 (by kernel_rfl) rfl (fun h' e=>aj.aG H.bN H.aV rfl (e.rowAt (by omega) j5.row) (by first|rfl|(simp;done)|(simp;omega))) ?_;refine b9 2 7 (by kernel_rfl) rfl ?_;refine cU 3 15 (by kernel_rfl) rfl (aq (vs:=[_]) func188 rfl H.Io rfl (ai.bw ((ih m (by omega)).p4 _ _ _ _ _ hp5 hv2))) ?_;rintro r6 h6 ⟨y6,hp6,t6,hn6,ht6⟩;refine⟨fun _=>y6.mono (fun _ _ q=>.inl q),?_⟩;have z6:=y6.size;refine cU 4 31 (by kernel_rfl) rfl (aq (vs:=[_,_,_]) func132 rfl H.um rfl (ai.bw (fR (O:=fun b=>b≤h.size∨b=h2.size) v5 (fun b q=>by omega) (dS.of (aX j6 y6 (fun b hb q=>⟨fun q2=>q (by omega),q⟩))) (hn6.ext (Ext.refl (fun _=>False) _) (fun b hb q=>⟨fun q2=>q2,fun q2=>q (by omega)⟩))))) ?_;rintro r8 h8 ⟨hn8,e8⟩;refine⟨fun _=>e8.of,?_⟩;have z8:=e8.size;obtain⟨mk,mt,ma,mn,mc,rfl,hr8⟩:=hn8.get;refine fS 5 63 (by kernel_rfl) rfl (aC.aB H.aV rfl rfl ((j3.ext y6 (show ¬h.size=c.pb by omega)).ax e8) (by first|rfl|(simp;done)|(simp;omega)) (by first|decide|exact of_decide_eq_true rfl|(simp;done)|(simp;omega)) (eT)) ?_;rintro _ h9 ⟨rfl,k9,x9,z9⟩;refine⟨fun hk=>(nomatch hk),?_⟩;refine bg (by kernel_rfl) ?_;refine xu [0,2,3,4,5,14] rfl ?_;refine G.cN func168 rfl (.cons (bu.cB H.bN H.aV rfl (k9.row) (by first|rfl|(simp;done)|(simp;omega))) (.nil)) ?_;exact⟨_,rfl,cn hp ((j2.trans y6).trans e8.of) (hp6.ax e8) (dS.of (aX hr8 (Ext.refl (fun _=>False) _) (fun b hb q=>⟨fun q2=>q2,fun q2=>q (.inl q2)⟩))) (fun q=>by rw[j7 (fh hv2 q),ht6 q]) x9⟩
theorem zC (ih:∀m,m≤n→zv m):Ct 213 [] (.part 7) (n+1):=by
 intro c h s t s' hp hm;have hpl:=hp.lt;obtain⟨o1,o2⟩:=hp.old;rw[pM,if_pos rfl] at hm;obtain⟨v,s1,hv,hm⟩:=aY hm;refine ai.of func213 rfl rfl ?_;refine xr func213 rfl ?_;refine xo rfl (aC.aR H.eG) ?_;rintro _ h1 ⟨rfl,k1,e1,z1⟩;refine xd [0,2] rfl ?_;refine br func213 1 rfl ?_;refine xo rfl (aq (vs:=[_]) func214 rfl H.J5 rfl (ai.bw ((ih n (Nat.le_refl _)).atom _ _ _ _ _ (hp.ax e1) hv))) ?_;rintro r2 h2 ⟨y2,hp2,t2,hn2,uR⟩;obtain⟨nk,nt,na,nn,nc,rfl,hr2⟩:=hn2.get;refine xo rfl (aC.aR H.eG) ?_;rintro _ h3 ⟨rfl,k3,e3,z3⟩;refine RW.bZ rfl rfl rfl (aC.aB H.aV rfl rfl k3 (by first|rfl|(simp;done)|(simp;omega)) (by first|decide|exact of_decide_eq_true rfl|(simp;done)|(simp;omega)) (eT)) ?_;rintro _ h4 ⟨rfl,k4,x4,z4⟩;have z2:=y2.size;have x24:Ext (fun b=>b=h2.size) h2 h4:=e3.of.trans x4;have hI:Bu c h h4 h2.size v s1:=⟨(hp2.ax e3).ext x4 (fun b hb q=>by omega),((e1.of.trans y2).trans e3.of).fo x4 (fun b hb q=>by omega),((k1.ext y2 (by omega)).ax e3).ext x4 (show ¬h.size=h2.size by omega),by omega,nk,nt,na,nn,nc,t2,k4,aX hr2 x24 (fun b hb q=>⟨fun q2=>by omega,fun q2=>q (by omega)⟩),uR⟩
 refine xd [0,2,3] rfl ?_;refine G.block rfl rfl ?_;refine bE (σ:=Nat×Tr×PS) (fun w=>[(0,ptr c.pb),(2,ptr h.size),(3,ptr h2.size)]) (fun w g=>w.1≤n∧pM c.e w.1 (.callL w.2.1) w.2.2=some (t,s')∧Bu c h g h2.size w.2.1 w.2.2) (fun w=>w.1) ((n,v,s1)) rfl ⟨rfl,rfl,rfl,trivial⟩ ⟨Nat.le_refl _,hm,hI⟩ ?_;rintro⟨m,u,sI⟩ g ⟨hmn,hm,hI⟩ ihL
 try dsimp only
 obtain⟨m,rfl⟩:∃m',m=m'+1:=by cases m with|zero=>cases hm|succ m=>exact⟨m,rfl⟩
 rw[pM] at hm;refine G.block rfl rfl ?_;refine av rfl ?_;refine br func213 1 rfl ?_;refine xo rfl (aC.aZ (us:=[_]) underlying93 H.nT rfl rfl (by decide) (by simp[Value.oneCell'])) ?_;rintro _ w5 ⟨rfl,hw5⟩;have y5:aF g w5:=by rw[hw5];exact Ext.push _ _ _
 have ts5:bU mV w5 (fun _=>False) (.slice (some ⟨Array.size g,0,none⟩) 1 1) [[40]]:=by rw[hw5];exact cj _ [[40]] _ rfl (by simp[maxLen]) rfl
 refine xo rfl (aq (vs:=[_,_,_]) func26 rfl H.iY rfl (ai.bw (cg ((hI.st).ax y5) 7 ts5))) ?_;rintro _ h5 ⟨rfl,hp5,x5⟩;have x5:=y5.of.trans x5
 rcases hq5:dL 7 [[40]] sI with ⟨o5,s5⟩
 rw[hq5] at hp5 hm
 rcases o5 with _|v5
 · simp only at hm;obtain⟨rfl,rfl⟩:u=t∧s5=s':=by cases hm;exact⟨rfl,rfl⟩
   refine aQ 5 [0,2,3,5] rfl ?_;refine aW func213 2 [0,2,3,5,17] rfl ?_;refine aI rfl rfl (fun _=>?_) (fun hc=>absurd hc (by simp));have hI2:=hI.mv hpl x5 hp5 (fun q=>cw hq5 q);obtain⟨j1,j2,j3,j4,jk,jx,ja,jn,jc,ju,j5,j6,j7⟩:=hI2;refine xr func213 rfl ?_;refine xp rfl (aj.aG H.bN H.aV rfl (j5).row (by first|rfl|(simp;done)|(simp;omega))) ?_;refine RW.bZ rfl rfl rfl (aC.aB H.aV rfl rfl (j3) (by first|rfl|(simp;done)|(simp;omega)) (by first|decide|exact of_decide_eq_true rfl|(simp;done)|(simp;omega)) (eT)) ?_;rintro _ hz ⟨rfl,kz,xz,zz⟩;refine xd [0,2,3,5,17] rfl ?_;refine G.cN func213 rfl (.cons (bu.cB H.bN H.aV rfl (kz.row) (by first|rfl|(simp;done)|(simp;omega))) (.nil)) ?_;exact⟨_,rfl,cn hp j2 j1 (dS.of (aX j6 (Ext.refl (fun _=>False) _) (fun b hb q=>⟨fun q2=>q2,fun q2=>q (.inl q2)⟩))) j7 xz⟩
 · simp only at hm;refine aQ 5 [0,2,3,5] rfl ?_;refine aW func213 2 [0,2,3,5,17] rfl ?_;refine aI rfl rfl (fun hc=>absurd hc (by simp)) (fun _=>?_);have hI5:=hI.mv hpl x5 hp5 (fun q=>cw hq5 q);refine aE rfl ?_;refine av rfl ?_;refine G.block rfl rfl ?_;refine bE (σ:=Nat×Tr×PS) (fun w=>[(0,ptr c.pb),(2,ptr h.size),(3,ptr h2.size)]) (fun w g=>w.1≤m∧pM c.e w.1 (.argL w.2.1) w.2.2=some (t,s')∧Bu c h g h2.size w.2.1 w.2.2) (fun w=>w.1) ((m,u,s5)) rfl ⟨rfl,rfl,rfl,trivial⟩ ⟨Nat.le_refl _,hm,hI5⟩ ?_;rintro⟨m2,u2,sJ⟩ g2 ⟨hmn2,hm,hJ⟩ ihA
   try dsimp only
   obtain⟨m2,rfl⟩:∃m',m2=m'+1:=by cases m2 with|zero=>cases hm|succ m=>exact⟨m,rfl⟩
   rw[pM] at hm;obtain⟨v2,s3,hv2,hm⟩:=aY hm;obtain⟨j1,j2,j3,j4,jk,jx,ja,jn,jc,ju,j5,j6,j7⟩:=hJ;have j5l:=j5.lt;have j2z:=j2.size;refine G.block rfl rfl ?_;refine av rfl ?_;refine bV (fun b=>b=c.pb∨Array.size g2≤b) (fun i=>Nat.blt i 5) (sz:=6) (listed:= #[false,false,false,false,false,false]) func213 H.mixed rfl rfl rfl ?_;refine bI 0 1 (by kernel_rfl) rfl (fun h' e=>aj.aG H.bN H.aV rfl (e.rowAt (by omega) j5.row) (by first|rfl|(simp;done)|(simp;omega))) ?_;refine b9 1 3 (by kernel_rfl) rfl ?_;refine cU 2 7 (by kernel_rfl) rfl (aq (vs:=[_]) func48 rfl H.B0 rfl (ai.bw ((ih m2 (by omega)).expr _ _ _ _ _ j1 hv2))) ?_;rintro r6 h6 ⟨y6,hp6,t6,hn6,ht6⟩;refine⟨fun _=>y6.mono (fun _ _ q=>.inl q),?_⟩;have z6:=y6.size;obtain⟨mk,mt,ma,mn,mc,rfl,hr6⟩:=hn6.get;refine cU 3 15 (by kernel_rfl) rfl (aC.rG underlying28 H.gR ([[.int .i64 jk,.string (bs jx),.slice ja jn jc],[.int .i64 mk,.string (bs mt),.slice ma mn mc]]) rfl rfl (by decide) (by simp<;>repeat' (first|rfl|constructor))) ?_;rintro _ h8 ⟨rfl,hh8⟩;refine⟨fun _=>(by rw[hh8];exact Ext.push _ _ _),?_⟩;have e8:aF h6 h8:=by rw[hh8];exact Ext.push _ _ _
   have z8:h8.size=h6.size+1:=by rw[hh8];simp
   have hs8:dD eN (fun b=>b≤h.size∨b=h2.size) h8 h6.size 39 (.slice (some ⟨h6.size,0,none⟩) 2 2) [ju,t6]:=by
    rw[hh8];exact uu (aX j6 y6 (fun b hb q=>⟨fun q2=>q (by omega),q⟩)) (aX hr6 (Ext.refl (fun _=>False) _) (fun b hb q=>⟨fun q2=>q2,fun q2=>q (by omega)⟩)) (Nat.le_refl _)
   have hs8':bU eN h8 (fun b=>b≤h.size∨b=h2.size) (.slice (some ⟨h6.size,0,none⟩) 2 2) [ju,t6]:=hs8.read (fun b hb q=>by omega) (fun b hb q=>q);refine bI 4 31 (by kernel_rfl) rfl (fun h' e=>aP (H.Bg _ _ _ _) rfl) ?_;refine fS 5 63 (by kernel_rfl) rfl (aC.aB H.aV rfl rfl ((j5.ext y6 (show ¬h2.size=c.pb by omega)).ax e8) (by first|rfl|(simp;done)|(simp;omega)) (by first|decide|exact of_decide_eq_true rfl|(simp;done)|(simp;omega)) (eT)) ?_;rintro _ h9 ⟨rfl,k9,x9,z9⟩;refine⟨fun hk=>(nomatch hk),?_⟩;have k9:bq h9 h2.size 39 [.int .i64 9,.string (bs []),.slice (some ⟨h6.size,0,none⟩) 2 2]:=k9;have hI9:Bu c h h9 h2.size (.mk 9 [] [u2,v2]) s3:=⟨(hp6.ax e8).ext x9 (fun b hb q=>by omega),((j2.trans y6).trans e8.of).fo x9 (fun b hb q=>by omega),((j3.ext y6 (show ¬h.size=c.pb by omega)).ax e8).ext x9 (show ¬h.size=h2.size by omega),j4,_,_,_,_,_,_,k9,yR (hs8'.mv (Mv.dc x9 fun b hb q=>⟨fun q2=>q (.inr q2),q⟩)),fun q=>by rw[j7 (fh hv2 q),ht6 q]⟩
   refine bg (by kernel_rfl) ?_;refine xu [0,2,3] rfl ?_;refine br func213 1 rfl ?_;refine xo rfl (aC.aZ (us:=[_]) underlying93 H.nT rfl rfl (by decide) (by simp[Value.oneCell'])) ?_;rintro _ w10 ⟨rfl,hw10⟩;have y10:aF h9 w10:=by rw[hw10];exact Ext.push _ _ _
   have ts10:bU mV w10 (fun _=>False) (.slice (some ⟨Array.size h9,0,none⟩) 1 1) [[44]]:=by rw[hw10];exact cj _ [[44]] _ rfl (by simp[maxLen]) rfl
   refine xo rfl (aq (vs:=[_,_,_]) func26 rfl H.iY rfl (ai.bw (cg ((hI9.st).ax y10) 6 ts10))) ?_;rintro _ h10 ⟨rfl,hp10,x10⟩;have x10:=y10.of.trans x10
   rcases hq10:dL 6 [[44]] s3 with ⟨o10,s10⟩
   rw[hq10] at hp10 hm;have hI10:=hI9.mv hpl x10 hp10 (fun q=>cw hq10 q)
   rcases o10 with _|v10
   · simp only at hm;refine aQ 5 [0,2,3,7] rfl ?_;refine aW func213 2 [0,2,3,7,31] rfl ?_;refine aI rfl rfl (fun _=>?_) (fun hc=>absurd hc (by simp));refine bz rfl rfl ?_;refine G.bT func213 rfl ?_;refine aT 1 rfl ?_;refine xo rfl (aq (vs:=[_,_,_]) func89 rfl H.D1 rfl (ai.bw (gm hp10 8 [41]))) ?_;rintro _ h11 ⟨hp11,x11⟩;have hI11:=hI10.mv hpl x11 hp11 (fun q=>oJ q);refine xd [0,2,3,7,31] rfl ?_;refine G.aN ?_;exact ihL (m2,.mk 9 [] [u2,v2],_) _ _ ⟨rfl,rfl,rfl,trivial⟩ ⟨by omega,hm,hI11⟩ (by show m2<m+1;omega)
   · simp only at hm;refine aQ 5 [0,2,3,7] rfl ?_;refine aW func213 2 [0,2,3,7,31] rfl ?_;refine aI rfl rfl (fun hc=>absurd hc (by simp)) (fun _=>?_);refine aE rfl ?_;refine G.aN ?_;exact ihA (m2,.mk 9 [] [u2,v2],_) _ _ ⟨rfl,rfl,rfl,trivial⟩ ⟨by omega,hm,hI10⟩ (by show m2<m2+1;omega)
structure Dp (c:PC) (h g:aD) (b3:Nat) (K:Int) (l:List Tr) (kv:Value) (s1:PS):Prop where
 st:qL c g s1
 ext:Ext (fun b=>b=c.pb) h g
 res:bq g h.size 39 [.int .i64 0,.string (bs []),.slice none 0 0]
 lt:h.size<b3
 nd:bq g b3 39 [.int .i64 K,.string (bs []),kv]
 row:dD eN (fun b=>b≤h.size∨b=b3) g (h.size+1) 39 kv l
 own:∀b,kv.ownBlock=some b→h.size<b∧b≠b3∧b<g.size
 sl:∃a m d,kv= .slice a m d
theorem Dp.mv {c:PC}{g':aD}{K:Int}{l:List Tr}{kv:Value}{s2:PS}(k:Dp c h g b3 K l kv s1) (hp:c.pb<h.size) (x:Ext (fun b=>b=c.pb) g g') (hs:qL c g' s2):Dp c h g' b3 K l kv s2:=by
 obtain⟨k1,k2,k3,k4,k5,k6,k7,k8⟩:=k;have:=x.size;exact⟨hs,k2.trans x,k3.ext x (by omega),k4,k5.ext x (by omega),k6.pG x (fun b q q2=>by have:=k7 b q;omega) (fun b hb q=>by omega) (fun _ _ q=>q),fun b q=>by have:=k7 b q;omega,k8⟩
theorem Dp.tell {c:PC}{K:Int}{l:List Tr}{kv:Value}(k:Dp c h g b3 K l kv s1):dS g (fun b=>b≤h.size) (.agg #[.int .i64 K,.string (bs []),kv]) (.mk K [] l) :=
 dS.shut (k.row.read (fun b hb q=>by omega) (fun b hb q=>.inl q))
theorem xT (ih:∀m,m≤n→zv m):Ct 130 [] .block (n+1):=by
 intro c h s t s' hp hm;have hpl:=hp.lt;obtain⟨o1,o2⟩:=hp.old;rw[pM] at hm;refine ai.of func130 rfl rfl ?_;refine xr func130 rfl ?_;refine xo rfl (aC.aR H.eG) ?_;rintro _ h1 ⟨rfl,k1,e1,z1⟩;refine xd [0,2] rfl ?_;refine br func130 1 rfl ?_;refine xo rfl (aq (vs:=[_,_,_]) func89 rfl H.D1 rfl (ai.bw (gm (hp.ax e1) 7 [123]))) ?_;rintro _ h2 ⟨hp2,x2⟩;have z2:=x2.size;refine xd [0,2] rfl ?_;refine xr func130 rfl ?_;refine xp rfl (aP (H.Ji _) rfl) ?_;refine xo rfl (aC.aR H.eG) ?_;rintro _ h3 ⟨rfl,k3,e3,z3⟩;refine RW.bZ rfl rfl rfl (aC.aB H.aV rfl rfl k3 (by first|rfl|(simp;done)|(simp;omega)) (by first|decide|exact of_decide_eq_true rfl|(simp;done)|(simp;omega)) (by first|decide|simp[Value.oneCell'])) ?_;rintro _ h4 ⟨rfl,k4,x4,z4⟩;have hs4:=hp2.short
 have hsl:(eK c.e 7 [123] s).dm=false→(eK c.e 7 [123] s).len+1≤c.us.length:=fun q=>by
  have:=hp.short;unfold eK at q ⊢
  rcases hq:dL 7 [[123]] s with ⟨o,s1⟩
  rw[hq] at q;cases o with
  |none=>rw[oV] at q;cases q
  |some x=>have:=qo hq;simp only;omega
 have hK4:Dp c h h4 h2.size 10 [] (.slice none 0 0) (eK c.e 7 [123] s):=⟨(hp2.ax e3).ext x4 (fun b hb q=>by omega),((e1.of.trans x2).trans e3.of).fo x4 (fun i hi q=>by omega),((k1.ext x2 (show ¬h.size=c.pb by omega)).ax e3).ext x4 (show ¬h.size=h2.size by omega),by omega,k4,dD.nil _ _ _ _ _,fun b q=>(by cases q),⟨_,_,_,rfl⟩⟩
 refine xd [0,2,3] rfl ?_;refine av rfl ?_;refine G.block rfl rfl ?_;refine bE (σ:=Nat×List Tr×Value×PS) (fun w=>[(0,ptr c.pb),(2,ptr h.size),(3,ptr h2.size)]) (fun w g=>Dp c h g h2.size 10 w.2.1 w.2.2.1 w.2.2.2∧(w.2.2.2.dm=true→w.2.2.2=s')∧(w.2.2.2.dm=false→w.1≤n∧pM c.e w.1 (.blockL w.2.1) w.2.2.2=some (t,s')∧w.2.1.length+w.2.2.2.len+1≤c.us.length)) (fun w=>w.1) ((n,[],.slice none 0 0,eK c.e 7 [123] s)) rfl ⟨rfl,rfl,rfl,trivial⟩ ⟨hK4,fun q=>by obtain⟨k,hk⟩:∃k,eK c.e 7 [123] s= .bad k:=by { cases hq:eK c.e 7 [123] s with|ok r=>rw[hq] at q;cases q|bad k=>exact⟨k,rfl⟩ };rw[hk] at hm ⊢;exact(Ft hm).symm,fun q=>⟨Nat.le_refl _,hm,by have:=hsl q;simp only[List.length_nil];omega⟩⟩ ?_;rintro⟨m,l,kv,sI⟩ g ⟨hI,hbad,hok⟩ ihL
 try dsimp only
 obtain⟨pi,pbb,pm,pk,_,_,ps,_⟩:=id hI.st;refine av rfl ?_;refine br func130 2 rfl ?_;refine xp rfl (af (off:=3) underlying69 rfl rfl H.mg rfl) ?_;refine xp rfl (ah H.vC rfl (pk.cell (i:=3) rfl)) ?_;refine aQ 1 [0,2,3,15] rfl ?_
 rcases sI with r|q
 · obtain⟨rfl,_⟩:=ps;obtain⟨hmn,hm,hlen⟩:=hok rfl;obtain⟨m,rfl⟩:∃m',m=m'+1:=by cases m with|zero=>cases hm|succ m=>exact⟨m,rfl⟩
   rw[pM] at hm;obtain⟨v,s2,hv,hm⟩:=aY hm;have hsh:=hI.st.short;refine aI rfl rfl (fun _=>?_) (fun hc=>absurd hc (by simp));obtain⟨i1,i2,i3,i4,i5,i6,i7,_⟩:=id hI;have i5l:=i5.lt;have i2z:=i2.size
   have hM:¬(h2.size=c.pb∨cT (kv).ownBlock h2.size∨Array.size g≤h2.size):=fun q=>by
    rcases q with q|q|q
    · omega
    · have:=i7 _ q.symm;omega
    · omega
   refine aE rfl ?_;refine G.block rfl rfl ?_;refine av rfl ?_;refine bV (fun b=>b=c.pb∨cT (kv).ownBlock b∨Array.size g≤b) (fun i=>Nat.blt i 7) (sz:=8) (listed:= #[false,false,false,false,false,false,false,false]) func130 H.mixed rfl rfl rfl ?_;refine bI 0 1 (by kernel_rfl) rfl (fun h' e=>af (off:=2) underlying39 rfl rfl H.fE rfl) ?_;refine bI 1 3 (by kernel_rfl) rfl (fun h' e=>ah H.kN rfl (e.cell hM (i5.cell (i:=2) rfl))) ?_;refine b9 2 7 (by kernel_rfl) rfl ?_;refine cU 3 15 (by kernel_rfl) rfl (aq (vs:=[_]) func25 rfl H.J3 rfl (ai.bw ((ih m (by omega)).stmt _ _ _ _ _ i1 hv))) ?_;rintro r6 h6 ⟨y6,hp6,t6,hn6,ht6⟩;refine⟨fun _=>y6.mono (fun _ _ q=>.inl q),?_⟩;have z6:=y6.size;obtain⟨mk,mt,ma,mn,mc,rfl,hr6⟩:=hn6.get;have ho6:=i6.pG y6 (fun b q q2=>by have:=i7 b q;omega) (fun b hb q=>by omega) (fun _ _ q=>q);obtain⟨css,hc1,hc2,hc3⟩:=id ho6;refine cU 4 31 (by kernel_rfl) rfl (aC.cx (cs:=[_,_,_]) underlying28 H.gR rfl rfl (by decide)) ?_;rintro _ _ ⟨rfl,rfl⟩;refine⟨fun _=>by first|exact Ext.push _ _ _|assumption,?_⟩;refine cU 5 63 (by kernel_rfl) rfl (aC.bO underlying28 H.gR rfl rfl (hc2) rfl rfl (by first|decide|simp[Value.oneCell']) (by omega) (by decide) (by omega)) ?_;rintro v7 h7 ⟨ho7,hx7,hx7',hv7⟩;refine⟨fun _=>hx7'.mono (fun b _ q=>.inr (.inl q)),?_⟩;have z7:=hx7.size;obtain⟨va,vm,vc,rfl⟩:=tu ho7;refine bI 6 127 (by kernel_rfl) rfl (fun h' e=>af (off:=2) underlying39 rfl rfl H.fE rfl) ?_;refine fS 7 255 (by kernel_rfl) rfl (aC.bF H.fE rfl rfl ((i5.ext y6 (show ¬h2.size=c.pb by omega)).ext hx7 (fun q=>by have:=i7 _ q.symm;omega)) (by first|decide|exact of_decide_eq_true rfl|(simp;done)|(simp;omega)) rfl) ?_;rintro _ h8 ⟨rfl,k8,x8,z8⟩;refine⟨fun hk=>(nomatch hk),?_⟩
   have hr6':eN.R h6 (fun b=>cT (kv).ownBlock b∨(b≤h.size∨b=h2.size)) [.int .i64 mk,.string (bs mt),.slice ma mn mc] t6:=aX hr6 (Ext.refl (fun _=>False) _) (fun b hb q=>⟨fun k=>k,fun q2=>by
    rcases q2 with q2|q2
    · have:=i7 _ q2.symm;omega
    · omega⟩)
   have ho7x:dD eN (fun b=>b≤h.size∨b=h2.size) h7 (h.size+1) 39 (.slice va vm vc) (l++[t6]):=dD.fV hc1 hc3 ho7 hx7 hv7 hr6'
   have hown7:∀b,(Value.slice va vm vc).ownBlock=some b→h.size<b∧b≠h2.size∧b<h7.size:=fun b q=>by
    have hl:=(ho7.lt q).2
    rcases hv7 b q with q2|q2
    · have:=i7 b q2;omega
    · omega
   have hK:Dp c h h8 h2.size 10 (l++[t6]) (.slice va vm vc) s2:=Dp.mk ((hp6.ext hx7 (fun b hb q=>by have:=i7 _ q.symm;omega)).ext x8 (fun b hb q=>by omega)) (((i2.trans y6).fo hx7 (fun i hi q=>by have:=i7 _ q.symm;omega)).fo x8 (fun i hi q=>by omega)) (((i3.ext y6 (show ¬h.size=c.pb by omega)).ext hx7 (fun q=>by have:=i7 _ q.symm;omega)).ext x8 (show ¬h.size=h2.size by omega)) i4 k8 (ho7x.pG x8 (fun b q q2=>by have:=hown7 b q;omega) (fun b hb q=>.inr q) (fun _ _ q=>q)) (fun b q=>by have:=hown7 b q;omega) ⟨_,_,_,rfl⟩;have hvl:=Fs hv;refine bg (by kernel_rfl) ?_;refine xu [0,2,3,15] rfl ?_;refine br func130 1 rfl ?_;refine xo rfl (aC.aZ (us:=[_]) underlying93 H.nT rfl rfl (by decide) (by simp[Value.oneCell'])) ?_;rintro _ w9 ⟨rfl,hw9⟩;have y9:aF h8 w9:=by rw[hw9];exact Ext.push _ _ _
   have ts9:bU mV w9 (fun _=>False) (.slice (some ⟨Array.size h8,0,none⟩) 1 1) [[59]]:=by rw[hw9];exact cj _ [[59]] _ rfl (by simp[maxLen]) rfl
   refine xo rfl (aq (vs:=[_,_,_]) func26 rfl H.iY rfl (ai.bw (cg ((hK.st).ax y9) 6 ts9))) ?_;rintro _ h9 ⟨rfl,hp9,x9⟩;have x9:=y9.of.trans x9
   rcases hq9:dL 6 [[59]] s2 with ⟨o9,s9⟩
   rw[hq9] at hp9 hm;have hK9:=hK.mv hpl x9 hp9;simp only at hm;refine aQ 5 [0,2,3,5,15] rfl ?_;refine av rfl ?_;refine br func130 1 rfl ?_;refine xo rfl (aC.aZ (us:=[_]) underlying93 H.nT rfl rfl (by decide) (by simp[Value.oneCell'])) ?_;rintro _ w10 ⟨rfl,hw10⟩;have y10:aF h9 w10:=by rw[hw10];exact Ext.push _ _ _
   have ts10:bU mV w10 (fun _=>False) (.slice (some ⟨Array.size h9,0,none⟩) 1 1) [[125]]:=by rw[hw10];exact cj _ [[125]] _ rfl (by simp[maxLen]) rfl
   refine xo rfl (aq (vs:=[_,_,_]) func26 rfl H.iY rfl (ai.bw (cg ((hK9.st).ax y10) 8 ts10))) ?_;rintro _ h10 ⟨rfl,hp10,x10⟩;have x10:=y10.of.trans x10
   rcases hq10:dL 8 [[125]] s9 with ⟨o10,s10⟩
   rw[hq10] at hp10 hm;have hK10:=hK9.mv hpl x10 hp10
   rcases o10 with _|v10
   · simp only at hm;have e10:=eD hq10;refine aQ 5 [0,2,3,5,7,15] rfl ?_;refine aW func130 1 [0,2,3,5,7,15,35] rfl ?_;refine aI rfl rfl (fun hc=>absurd hc (by simp)) (fun _=>?_)
     rcases o9 with _|v9
     · simp only[Option.isSome_none,Bool.false_and,Bool.false_eq_true,if_false] at hm;refine aE rfl ?_;refine aW func130 2 [0,2,3,5,7,15,35,37] rfl ?_;refine aI rfl rfl (fun _=>?_) (fun hc=>absurd hc (by simp));refine G.bT func130 rfl ?_;refine aT 1 rfl ?_;refine xo rfl (aq (vs:=[_]) func27 rfl H.wq rfl (ai.bw (eI hK10.st))) ?_;rintro _ h11 ⟨rfl,hp11,x11⟩;have hK11:=hK10.mv hpl x11 hp11;have hs':dM c.e s10=s':=by cases hm;rfl
       refine xd [0,2,3,5,7,15,35,37] rfl ?_;refine G.aN ?_;exact ihL (m,l++[t6],_,_) _ _ ⟨rfl,rfl,rfl,trivial⟩ ⟨hK11,fun _=>hs',fun q=>by have q:(dM c.e s10).dm=false:=q;rw[oV] at q;cases q⟩ (by show m<m+1;omega)
     · obtain⟨u0,r0,hs2,hs9,_⟩:=uO hq9;subst hs9;subst e10;simp only[Option.isSome_some,PS.dm,Bool.not_false,Bool.and_true,if_true] at hm;refine aE rfl ?_;refine aW func130 2 [0,2,3,5,7,15,35,37] rfl ?_;refine aI rfl rfl (fun hc=>absurd hc (by simp)) (fun _=>?_);refine aE rfl ?_;refine G.aN ?_;exact ihL (m,l++[t6],_,_) _ _ ⟨rfl,rfl,rfl,trivial⟩ ⟨hK10,fun q=>(by cases q),fun _=>⟨by show m≤n;omega,by rw[ht6 (by rw[hs2];rfl)];exact hm,by have:=qo hq9;simp only[List.length_append,List.length_singleton,PS.len] at this hvl hlen ⊢;omega⟩⟩ (by show m<m+1;omega)
   · simp only at hm;obtain⟨rfl,rfl⟩:Tr.mk 10 [] (l++[v])=t∧s10=s':=by cases hm;exact⟨rfl,rfl⟩
     refine aQ 5 [0,2,3,5,7,15] rfl ?_;refine aW func130 1 [0,2,3,5,7,15,35] rfl ?_;refine aI rfl rfl (fun _=>?_) (fun hc=>absurd hc (by simp));refine bz rfl rfl ?_;refine xr func130 rfl ?_;refine xp rfl (aj.aG H.bN H.aV rfl (hK10.nd).row (by first|rfl|(simp;done)|(simp;omega))) ?_;refine RW.bZ rfl rfl rfl (aC.aB H.aV rfl rfl (hK10.res) (by first|rfl|(simp;done)|(simp;omega)) (by first|decide|exact of_decide_eq_true rfl|(simp;done)|(simp;omega)) (eT)) ?_;rintro _ hz ⟨rfl,kz,xz,zz⟩;refine xd [0,2,3,5,7,15,35] rfl ?_;refine G.cN func130 rfl (.cons (bu.cB H.bN H.aV rfl (kz.row) (by first|rfl|(simp;done)|(simp;omega))) (.nil)) ?_;exact⟨_,rfl,cn hp hK10.ext hK10.st hK10.tell (fun q=>by rw[ht6 (cw hq9 (cw hq10 q))]) xz⟩
 · obtain⟨rfl,_⟩:=ps;obtain rfl:=hbad rfl;obtain⟨ka,km,kd,rfl⟩:=hI.sl;refine aI rfl rfl (fun hc=>absurd hc (by simp)) (fun _=>?_);refine bz rfl rfl ?_;refine xr func130 rfl ?_;refine xp rfl (aj.aG H.bN H.aV rfl (hI.nd).row (by first|rfl|(simp;done)|(simp;omega))) ?_;refine RW.bZ rfl rfl rfl (aC.aB H.aV rfl rfl (hI.res) (by first|rfl|(simp;done)|(simp;omega)) (by first|decide|exact of_decide_eq_true rfl|(simp;done)|(simp;omega)) (eT)) ?_;rintro _ hz ⟨rfl,kz,xz,zz⟩;refine xd [0,2,3,15] rfl ?_;refine G.cN func130 rfl (.cons (bu.cB H.bN H.aV rfl (kz.row) (by first|rfl|(simp;done)|(simp;omega))) (.nil)) ?_;exact⟨_,rfl,cn hp hI.ext hI.st hI.tell (fun q=>by cases q) xz⟩
theorem vZ (ih:∀m,m≤n→zv m):Ct 90 [] .choice (n+1):=by
 intro c h s t s' hp hm;have hpl:=hp.lt;obtain⟨o1,o2⟩:=hp.old;rw[pM] at hm;obtain⟨va0,s1,hva,hm⟩:=aY hm;obtain⟨vb0,s2,hvb,hm⟩:=aY hm;refine ai.of func90 rfl rfl ?_;refine xr func90 rfl ?_;refine xo rfl (aC.aR H.eG) ?_;rintro _ h1 ⟨rfl,k1,e1,z1⟩;refine xd [0,2] rfl ?_;refine br func90 1 rfl ?_;refine xo rfl (aq (vs:=[_]) func48 rfl H.B0 rfl (ai.bw ((ih n (Nat.le_refl _)).expr _ _ _ _ _ (hp.ax e1) hva))) ?_;rintro r2 h2 ⟨y2,hp2,t2,hn2,uR⟩;obtain⟨ak,at_,aa,an,ac,rfl,hr2⟩:=hn2.get;have z2:=y2.size;refine aT 1 rfl ?_;refine xo rfl (aq (vs:=[_]) func130 rfl H.FI rfl (ai.bw ((ih n (Nat.le_refl _)).block _ _ _ _ _ hp2 hvb))) ?_;rintro r3 h3 ⟨y3,hp3,t3,hn3,ht3⟩;obtain⟨bk,bt,ba,bn,bc,rfl,hr3⟩:=hn3.get;have z3:=y3.size;refine xo rfl (aC.rG underlying28 H.gR ([[.int .i64 ak,.string (bs at_),.slice aa an ac],[.int .i64 bk,.string (bs bt),.slice ba bn bc]]) rfl rfl (by decide) (by simp<;>repeat' (first|rfl|constructor))) ?_;rintro _ h4 ⟨rfl,hh4⟩;have e4:aF h3 h4:=by rw[hh4];exact Ext.push _ _ _
 have z4:h4.size=h3.size+1:=by rw[hh4];simp
 have hs4:dD eN (fun b=>b≤h.size∨h3.size≤b) h4 (h.size+1) 39 (.slice (some ⟨h3.size,0,none⟩) 2 2) [t2,t3]:=by
  rw[hh4];exact uu (aX hr2 y3 (fun b hb q=>⟨fun q2=>q (by omega),fun q2=>q (by omega)⟩)) (aX hr3 (Ext.refl (fun _=>False) _) (fun b hb q=>⟨fun q2=>q2,fun q2=>q (by omega)⟩)) (by omega)
 refine xp rfl (aP (H.Bg _ _ _ _) rfl) ?_;refine xo rfl (aC.aR H.eG) ?_;rintro _ h5 ⟨rfl,k5,e5,z5⟩;refine RW.bZ rfl rfl rfl (aC.aB H.aV rfl rfl k5 (by first|rfl|(simp;done)|(simp;omega)) (by first|decide|exact of_decide_eq_true rfl|(simp;done)|(simp;omega)) (by first|decide|simp[Value.oneCell'])) ?_;rintro _ h6 ⟨rfl,k6,x6,z6⟩;have x26:Ext (fun b=>b=h4.size) h4 h6:=e5.of.trans x6;have x06:Ext (fun b=>b=c.pb) h h6:=(((e1.of.trans y2).trans y3).trans e4.of).fo x26 (fun i hi q=>by omega);have hK6:Dp c h h6 h4.size 6 [t2,t3] (.slice (some ⟨h3.size,0,none⟩) 2 2) s2:=⟨(hp3.ax e4).ext x26 (fun b hb q=>by omega),x06,(((k1.ext y2 (show ¬h.size=c.pb by omega)).ext y3 (show ¬h.size=c.pb by omega)).ax e4).ext x26 (show ¬h.size=h4.size by omega),by omega,k6,hs4.pG x26 (fun b q q2=>by have:=iX q;omega) (fun b hb q=>by omega) (fun b hb q=>by omega),fun b q=>(by have:=iX q;omega),⟨_,_,_,rfl⟩⟩
 refine xd [0,2,3] rfl ?_;refine br func90 1 rfl ?_;refine xo rfl (aq (vs:=[_,_,_]) func89 rfl H.D1 rfl (ai.bw (gm hK6.st 4 zQ))) ?_;rintro _ h7 ⟨hp7,x7⟩;have hK7:=hK6.mv hpl x7 hp7;refine xd [0,2,3] rfl ?_;refine av rfl ?_;refine br func90 1 rfl ?_;refine xo rfl (aC.aZ (us:=[_]) underlying93 H.nT rfl rfl (by decide) (by simp[Value.oneCell'])) ?_;rintro _ w9 ⟨rfl,hw9⟩;have y9:aF h7 w9:=by rw[hw9];exact Ext.push _ _ _
 have ts9:bU mV w9 (fun _=>False) (.slice (some ⟨Array.size h7,0,none⟩) 1 1) [GV]:=by rw[hw9];exact cj _ [GV] _ rfl (by simp[maxLen]) rfl
 refine xo rfl (aq (vs:=[_,_,_]) func26 rfl H.iY rfl (ai.bw (cg ((hK7.st).ax y9) 4 ts9))) ?_;rintro _ h9 ⟨rfl,hp9,x9⟩;have x9:=y9.of.trans x9
 rcases hq9:dL 4 [GV] (eK c.e 4 zQ s2) with ⟨o9,s9⟩
 rw[hq9] at hp9 hm;have hK9:=hK7.mv hpl x9 hp9
 have hgood:s9.dm=false→t2=va0∧t3=vb0:=fun q=>by
  have q2:=oJ (cw hq9 q);exact⟨uR (fh hvb q2),ht3 q2⟩
 rcases o9 with _|v9
 · simp only at hm;obtain⟨vc0,s3,hvc,hm⟩:=aY hm;obtain⟨rfl,rfl⟩:Tr.mk 6 [] [va0,vb0,vc0]=t∧s3=s':=by cases hm;exact⟨rfl,rfl⟩
   refine aQ 5 [0,2,3,5] rfl ?_;refine aW func90 1 [0,2,3,5,20] rfl ?_;refine aI rfl rfl (fun hc=>absurd hc (by simp)) (fun _=>?_);obtain⟨i1,i2,i3,i4,i5,i6,i7,_⟩:=id hK9;have i5l:=i5.lt;have i2z:=i2.size
   have hM:¬(h4.size=c.pb∨cT ((Value.slice (some ⟨h3.size,0,none⟩) 2 2)).ownBlock h4.size∨Array.size h9≤h4.size):=fun q=>by
    rcases q with q|q|q
    · omega
    · have:=i7 _ q.symm;omega
    · omega
   refine bV (fun b=>b=c.pb∨cT ((Value.slice (some ⟨h3.size,0,none⟩) 2 2)).ownBlock b∨Array.size h9≤b) (fun i=>Nat.blt i 7) (sz:=8) (listed:= #[false,false,false,false,false,false,false,false]) func90 H.mixed rfl rfl rfl ?_;refine bI 0 1 (by kernel_rfl) rfl (fun h' e=>af (off:=2) underlying39 rfl rfl H.fE rfl) ?_;refine bI 1 3 (by kernel_rfl) rfl (fun h' e=>ah H.kN rfl (e.cell hM (i5.cell (i:=2) rfl))) ?_;refine b9 2 7 (by kernel_rfl) rfl ?_;refine cU 3 15 (by kernel_rfl) rfl (aq (vs:=[_]) func130 rfl H.FI rfl (ai.bw ((ih n (Nat.le_refl _)).block _ _ _ _ _ i1 hvc))) ?_;rintro r6 h6 ⟨y6,hp6,t6,hn6,ht6⟩;refine⟨fun _=>y6.mono (fun _ _ q=>.inl q),?_⟩;have z6:=y6.size;obtain⟨mk,mt,ma,mn,mc,rfl,hr6⟩:=hn6.get;have ho6:=i6.pG y6 (fun b q q2=>by have:=i7 b q;omega) (fun b hb q=>by omega) (fun _ _ q=>q);obtain⟨css,hc1,hc2,hc3⟩:=id ho6;refine cU 4 31 (by kernel_rfl) rfl (aC.cx (cs:=[_,_,_]) underlying28 H.gR rfl rfl (by decide)) ?_;rintro _ _ ⟨rfl,rfl⟩;refine⟨fun _=>by first|exact Ext.push _ _ _|assumption,?_⟩;refine cU 5 63 (by kernel_rfl) rfl (aC.bO underlying28 H.gR rfl rfl (hc2) rfl rfl (by first|decide|simp[Value.oneCell']) (by simp) (by decide) (by omega)) ?_;rintro v7 h7 ⟨ho7,hx7,hx7',hv7⟩;refine⟨fun _=>hx7'.mono (fun b _ q=>.inr (.inl q)),?_⟩;have z7:=hx7.size;obtain⟨va,vm,vc,rfl⟩:=tu ho7;refine bI 6 127 (by kernel_rfl) rfl (fun h' e=>af (off:=2) underlying39 rfl rfl H.fE rfl) ?_;refine fS 7 255 (by kernel_rfl) rfl (aC.bF H.fE rfl rfl ((i5.ext y6 (show ¬h4.size=c.pb by omega)).ext hx7 (fun q=>by have:=i7 _ q.symm;omega)) (by first|decide|exact of_decide_eq_true rfl|(simp;done)|(simp;omega)) rfl) ?_;rintro _ h8 ⟨rfl,k8,x8,z8⟩;refine⟨fun hk=>(nomatch hk),?_⟩
   have hr6':eN.R h6 (fun b=>cT ((Value.slice (some ⟨h3.size,0,none⟩) 2 2)).ownBlock b∨(b≤h.size∨b=h4.size)) [.int .i64 mk,.string (bs mt),.slice ma mn mc] t6:=aX hr6 (Ext.refl (fun _=>False) _) (fun b hb q=>⟨fun k=>k,fun q2=>by
    rcases q2 with q2|q2
    · have:=i7 _ q2.symm;omega
    · omega⟩)
   have ho7x:dD eN (fun b=>b≤h.size∨b=h4.size) h7 (h.size+1) 39 (.slice va vm vc) ([t2,t3]++[t6]):=dD.fV hc1 hc3 ho7 hx7 hv7 hr6'
   have hown7:∀b,(Value.slice va vm vc).ownBlock=some b→h.size<b∧b≠h4.size∧b<h7.size:=fun b q=>by
    have hl:=(ho7.lt q).2
    rcases hv7 b q with q2|q2
    · have:=i7 b q2;omega
    · omega
   have hK:Dp c h h8 h4.size 6 ([t2,t3]++[t6]) (.slice va vm vc) s3:=Dp.mk ((hp6.ext hx7 (fun b hb q=>by have:=i7 _ q.symm;omega)).ext x8 (fun b hb q=>by omega)) (((i2.trans y6).fo hx7 (fun i hi q=>by have:=i7 _ q.symm;omega)).fo x8 (fun i hi q=>by omega)) (((i3.ext y6 (show ¬h.size=c.pb by omega)).ext hx7 (fun q=>by have:=i7 _ q.symm;omega)).ext x8 (show ¬h.size=h4.size by omega)) i4 k8 (ho7x.pG x8 (fun b q q2=>by have:=hown7 b q;omega) (fun b hb q=>.inr q) (fun _ _ q=>q)) (fun b q=>by have:=hown7 b q;omega) ⟨_,_,_,rfl⟩;refine bg (by kernel_rfl) ?_;refine xu [0,2,3,5,20] rfl ?_;refine xr func90 rfl ?_;refine xp rfl (aj.aG H.bN H.aV rfl (hK.nd).row (by first|rfl|(simp;done)|(simp;omega))) ?_;refine RW.bZ rfl rfl rfl (aC.aB H.aV rfl rfl (hK.res) (by first|rfl|(simp;done)|(simp;omega)) (by first|decide|exact of_decide_eq_true rfl|(simp;done)|(simp;omega)) (eT)) ?_;rintro _ hz ⟨rfl,kz,xz,zz⟩;refine xd [0,2,3,5,20] rfl ?_;refine G.cN func90 rfl (.cons (bu.cB H.bN H.aV rfl (kz.row) (by first|rfl|(simp;done)|(simp;omega))) (.nil)) ?_;exact⟨_,rfl,cn hp hK.ext hK.st hK.tell (fun q=>by rw[ht6 q,(hgood (fh hvc q)).1,(hgood (fh hvc q)).2];rfl) xz⟩
 · simp only at hm;obtain⟨vc0,s3,hvc,hm⟩:=aY hm;obtain⟨rfl,rfl⟩:Tr.mk 6 [] [va0,vb0,vc0]=t∧s3=s':=by cases hm;exact⟨rfl,rfl⟩
   refine aQ 5 [0,2,3,5] rfl ?_;refine aW func90 1 [0,2,3,5,20] rfl ?_;refine aI rfl rfl (fun _=>?_) (fun hc=>absurd hc (by simp));obtain⟨i1,i2,i3,i4,i5,i6,i7,_⟩:=id hK9;have i5l:=i5.lt;have i2z:=i2.size
   have hM:¬(h4.size=c.pb∨cT ((Value.slice (some ⟨h3.size,0,none⟩) 2 2)).ownBlock h4.size∨Array.size h9≤h4.size):=fun q=>by
    rcases q with q|q|q
    · omega
    · have:=i7 _ q.symm;omega
    · omega
   refine bV (fun b=>b=c.pb∨cT ((Value.slice (some ⟨h3.size,0,none⟩) 2 2)).ownBlock b∨Array.size h9≤b) (fun i=>Nat.blt i 7) (sz:=8) (listed:= #[false,false,false,false,false,false,false,false]) func90 H.mixed rfl rfl rfl ?_;refine bI 0 1 (by kernel_rfl) rfl (fun h' e=>af (off:=2) underlying39 rfl rfl H.fE rfl) ?_;refine bI 1 3 (by kernel_rfl) rfl (fun h' e=>ah H.kN rfl (e.cell hM (i5.cell (i:=2) rfl))) ?_;refine b9 2 7 (by kernel_rfl) rfl ?_;refine cU 3 15 (by kernel_rfl) rfl (aq (vs:=[_]) func90 rfl H.JU rfl (ai.bw ((ih n (Nat.le_refl _)).choice _ _ _ _ _ i1 hvc))) ?_;rintro r6 h6 ⟨y6,hp6,t6,hn6,ht6⟩;refine⟨fun _=>y6.mono (fun _ _ q=>.inl q),?_⟩;have z6:=y6.size;obtain⟨mk,mt,ma,mn,mc,rfl,hr6⟩:=hn6.get;have ho6:=i6.pG y6 (fun b q q2=>by have:=i7 b q;omega) (fun b hb q=>by omega) (fun _ _ q=>q);obtain⟨css,hc1,hc2,hc3⟩:=id ho6;refine cU 4 31 (by kernel_rfl) rfl (aC.cx (cs:=[_,_,_]) underlying28 H.gR rfl rfl (by decide)) ?_;rintro _ _ ⟨rfl,rfl⟩;refine⟨fun _=>by first|exact Ext.push _ _ _|assumption,?_⟩;refine cU 5 63 (by kernel_rfl) rfl (aC.bO underlying28 H.gR rfl rfl (hc2) rfl rfl (by first|decide|simp[Value.oneCell']) (by simp) (by decide) (by omega)) ?_;rintro v7 h7 ⟨ho7,hx7,hx7',hv7⟩;refine⟨fun _=>hx7'.mono (fun b _ q=>.inr (.inl q)),?_⟩;have z7:=hx7.size;obtain⟨va,vm,vc,rfl⟩:=tu ho7;refine bI 6 127 (by kernel_rfl) rfl (fun h' e=>af (off:=2) underlying39 rfl rfl H.fE rfl) ?_;refine fS 7 255 (by kernel_rfl) rfl (aC.bF H.fE rfl rfl ((i5.ext y6 (show ¬h4.size=c.pb by omega)).ext hx7 (fun q=>by have:=i7 _ q.symm;omega)) (by first|decide|exact of_decide_eq_true rfl|(simp;done)|(simp;omega)) rfl) ?_;rintro _ h8 ⟨rfl,k8,x8,z8⟩;refine⟨fun hk=>(nomatch hk),?_⟩
   have hr6':eN.R h6 (fun b=>cT ((Value.slice (some ⟨h3.size,0,none⟩) 2 2)).ownBlock b∨(b≤h.size∨b=h4.size)) [.int .i64 mk,.string (bs mt),.slice ma mn mc] t6:=aX hr6 (Ext.refl (fun _=>False) _) (fun b hb q=>⟨fun k=>k,fun q2=>by
    rcases q2 with q2|q2
    · have:=i7 _ q2.symm;omega
    · omega⟩)
   have ho7x:dD eN (fun b=>b≤h.size∨b=h4.size) h7 (h.size+1) 39 (.slice va vm vc) ([t2,t3]++[t6]):=dD.fV hc1 hc3 ho7 hx7 hv7 hr6'
   have hown7:∀b,(Value.slice va vm vc).ownBlock=some b→h.size<b∧b≠h4.size∧b<h7.size:=fun b q=>by
    have hl:=(ho7.lt q).2
    rcases hv7 b q with q2|q2
    · have:=i7 b q2;omega
    · omega
   have hK:Dp c h h8 h4.size 6 ([t2,t3]++[t6]) (.slice va vm vc) s3:=Dp.mk ((hp6.ext hx7 (fun b hb q=>by have:=i7 _ q.symm;omega)).ext x8 (fun b hb q=>by omega)) (((i2.trans y6).fo hx7 (fun i hi q=>by have:=i7 _ q.symm;omega)).fo x8 (fun i hi q=>by omega)) (((i3.ext y6 (show ¬h.size=c.pb by omega)).ext hx7 (fun q=>by have:=i7 _ q.symm;omega)).ext x8 (show ¬h.size=h4.size by omega)) i4 k8 (ho7x.pG x8 (fun b q q2=>by have:=hown7 b q;omega) (fun b hb q=>.inr q) (fun _ _ q=>q)) (fun b q=>by have:=hown7 b q;omega) ⟨_,_,_,rfl⟩;refine bg (by kernel_rfl) ?_;refine xu [0,2,3,5,20] rfl ?_;refine xr func90 rfl ?_;refine xp rfl (aj.aG H.bN H.aV rfl (hK.nd).row (by first|rfl|(simp;done)|(simp;omega))) ?_;refine RW.bZ rfl rfl rfl (aC.aB H.aV rfl rfl (hK.res) (by first|rfl|(simp;done)|(simp;omega)) (by first|decide|exact of_decide_eq_true rfl|(simp;done)|(simp;omega)) (eT)) ?_;rintro _ hz ⟨rfl,kz,xz,zz⟩;refine xd [0,2,3,5,20] rfl ?_;refine G.cN func90 rfl (.cons (bu.cB H.bN H.aV rfl (kz.row) (by first|rfl|(simp;done)|(simp;omega))) (.nil)) ?_;exact⟨_,rfl,cn hp hK.ext hK.st hK.tell (fun q=>by rw[ht6 q,(hgood (fh hvc q)).1,(hgood (fh hvc q)).2];rfl) xz⟩
theorem mN (h:aD) (O:Nat→Prop):dS h O Mh wI:=dS.shut (bU.nil _ _ _)
theorem HG (h:u.1=5):nj u=some (.mk 0 u.2.1 []):=by unfold nj;rw[if_pos h]
theorem HF (h:u.1=9):nj u=some (.mk 1 u.2.1 []):=by unfold nj;rw[if_neg (by omega),if_pos h]
theorem HI (h:u.1=3):nj u=some (.mk 3 u.2.1 []):=by unfold nj;rw[if_neg (by omega),if_neg (by omega),if_pos h]
theorem HH (h:u.1=4) (h2:u.2.1=iS∨u.2.1=kZ):nj u=some (.mk 2 u.2.1 []):=by unfold nj;rw[if_neg (by omega),if_neg (by omega),if_neg (by omega),if_pos ⟨h,h2⟩]
theorem GB (h5:¬u.1=5) (h9:¬u.1=9) (h3:¬u.1=3) (h4:¬(u.1=4∧(u.2.1=iS∨u.2.1=kZ))):nj u=none:=by unfold nj;rw[if_neg h5,if_neg h9,if_neg h3,if_neg h4]
theorem zD (ih:∀m,m≤n→zv m):Ct 214 [] .atom (n+1):=by
 intro c h s t s' hp hm;have hpl:=hp.lt;obtain⟨pb,lv,n0,us,e⟩:=c;obtain⟨i,b,m,hk,hl,hi,hs,hpn,hn0⟩:=id hp;dsimp only at hk hl hi hs hpn hn0 hpl hm ⊢;obtain⟨la,ln,lc,rfl,hls⟩:=hl.open;have hln:us.length=ln:=hls.len;subst hln;have hlm:=hls.cap;have hlc:=hls.le;simp only[maxLen] at hlm;cases s with
 |bad q =>
  obtain⟨rfl,rfl⟩:=hs;have hm:some (wI,PS.bad m)=some (t,s'):=hm;refine ai.of func214 rfl rfl ?_;refine xr func214 rfl ?_;refine xo rfl (aC.aR H.eG) ?_;rintro _ h1 ⟨rfl,k1,e1,z1⟩;have hf:=eI (hp.ax e1);dsimp only at hf;refine xd [0,2] rfl ?_;refine av rfl ?_;refine av rfl ?_;refine G.dB func214 H.mixed rfl (by kernel_rfl) ?_;refine RQ.au rfl rfl rfl rfl (aK rfl) ?_;refine RQ.au rfl rfl rfl rfl (aO rfl) ?_;refine RQ.au rfl rfl rfl rfl (af (off:=3) underlying69 rfl rfl H.mg rfl) ?_;refine RQ.au rfl rfl rfl rfl (ah H.vC rfl ((hk.ax e1).cell (i:=3) rfl)) ?_;refine RQ.au rfl rfl rfl rfl (aK rfl) ?_;refine RQ.cW (d:=9) (b':=true) rfl (rfl) ?_;refine RQ.aU rfl rfl rfl rfl ?_;refine RQ.aU rfl rfl rfl rfl ?_;refine RQ.aU rfl rfl rfl rfl ?_;refine RQ.aU rfl rfl rfl rfl ?_;refine RQ.aU rfl rfl rfl rfl ?_;refine RQ.aU rfl rfl rfl rfl ?_;refine RQ.aU rfl rfl rfl rfl ?_;refine RQ.aU rfl rfl rfl rfl ?_;refine RQ.aU rfl rfl rfl rfl ?_;refine RQ.aU rfl rfl rfl rfl ?_;refine RQ.au rfl rfl rfl rfl (aj.mI rfl rfl) ?_;refine b8 rfl ?_;refine xu [0,2,20] rfl ?_;refine aI rfl rfl (fun _=>?_) (fun hc=>absurd hc (by simp));refine br func214 1 rfl ?_;refine xo rfl (aq (vs:=[_]) func27 rfl H.wq rfl (ai.bw (hf))) ?_;rintro _ h2 ⟨rfl,hp2,x2⟩;refine RW.bZ rfl rfl rfl (aC.aB H.aV rfl rfl (k1.ext x2 (show ¬h.size=pb by omega)) (by first|rfl|(simp;done)|(simp;omega)) (by first|decide|exact of_decide_eq_true rfl|(simp;done)|(simp;omega)) (by first|decide|simp[Value.oneCell'])) ?_;rintro _ h3 ⟨rfl,k3,x3,z3⟩;refine xd [0,2,20] rfl ?_;refine G.cN func214 rfl (.cons (bu.cB H.bN H.aV rfl (k3.row) (by first|rfl|(simp;done)|(simp;omega))) (.nil)) ?_;obtain⟨rfl,rfl⟩:wI=t∧PS.bad m=s':=by cases hm;exact⟨rfl,rfl⟩
  exact⟨_,rfl,cn hp (e1.of.trans x2) hp2 (mN _ _) (fun _=>rfl) x3⟩
  |ok r =>
  obtain⟨rfl,hr⟩:=hs;cases r with
  |nil =>
   have hie:=BG hr hi;have hm:some (wI,dM e (.ok []))=some (t,s'):=hm;refine ai.of func214 rfl rfl ?_;refine xr func214 rfl ?_;refine xo rfl (aC.aR H.eG) ?_;rintro _ h1 ⟨rfl,k1,e1,z1⟩;have hf:=eI (hp.ax e1);dsimp only at hf;have hk1:=hk.ax e1;refine xd [0,2] rfl ?_;refine av rfl ?_;refine av rfl ?_;refine G.dB func214 H.mixed rfl (by kernel_rfl) ?_;refine RQ.au rfl rfl rfl rfl (aK rfl) ?_;refine RQ.au rfl rfl rfl rfl (aO rfl) ?_;refine RQ.au rfl rfl rfl rfl (af (off:=3) underlying69 rfl rfl H.mg rfl) ?_;refine RQ.au rfl rfl rfl rfl (ah H.vC rfl (hk1.cell (i:=3) rfl)) ?_;refine RQ.au rfl rfl rfl rfl (aK rfl) ?_;refine RQ.cW (d:=9) (b':=false) rfl (rfl) ?_;refine RQ.au rfl rfl rfl rfl (aK rfl) ?_;refine RQ.au rfl rfl rfl rfl (aO rfl) ?_;refine RQ.au rfl rfl rfl rfl (af (off:=1) underlying69 rfl rfl H.bY rfl) ?_;refine RQ.au rfl rfl rfl rfl (ah H.cG rfl (hk1.cell (i:=1) rfl)) ?_;refine RQ.au rfl rfl rfl rfl (aK rfl) ?_;refine RQ.au rfl rfl rfl rfl (aO rfl) ?_;refine RQ.au rfl rfl rfl rfl (af (off:=0) underlying69 rfl rfl H.nP rfl) ?_;refine RQ.au rfl rfl rfl rfl (ah H.nU rfl (hk1.cell (i:=0) rfl)) ?_;refine RQ.au rfl rfl rfl rfl (aj.aJ underlying64 rfl) ?_;refine RQ.au rfl rfl rfl rfl (lS rfl rfl) ?_;refine RQ.au rfl rfl rfl rfl (aj.n5 rfl rfl) ?_;refine b8 rfl ?_;refine xu [0,2,20] rfl ?_;refine aI rfl rfl (fun _=>?_) (fun hc=>absurd hc (by simp;omega));refine br func214 1 rfl ?_;refine xo rfl (aq (vs:=[_]) func27 rfl H.wq rfl (ai.bw (hf))) ?_;rintro _ h2 ⟨rfl,hp2,x2⟩;refine RW.bZ rfl rfl rfl (aC.aB H.aV rfl rfl (k1.ext x2 (show ¬h.size=pb by omega)) (by first|rfl|(simp;done)|(simp;omega)) (by first|decide|exact of_decide_eq_true rfl|(simp;done)|(simp;omega)) (by first|decide|simp[Value.oneCell'])) ?_;rintro _ h3 ⟨rfl,k3,x3,z3⟩;refine xd [0,2,20] rfl ?_;refine G.cN func214 rfl (.cons (bu.cB H.bN H.aV rfl (k3.row) (by first|rfl|(simp;done)|(simp;omega))) (.nil)) ?_;obtain⟨rfl,rfl⟩:wI=t∧dM e (.ok [])=s':=by cases hm;exact⟨rfl,rfl⟩
   exact⟨_,rfl,cn hp (e1.of.trans x2) hp2 (mN _ _) (fun _=>rfl) x3⟩
   |cons u r =>
   obtain⟨hu,hil,hr'⟩:=ET hls hr;rw[pM] at hm;refine ai.of func214 rfl rfl ?_;refine xr func214 rfl ?_;refine xo rfl (aC.aR H.eG) ?_;rintro _ h1 ⟨rfl,k1,e1,z1⟩;have hk1:=hk.ax e1;have hls1:=hls.mv (Mv.ax e1);obtain⟨b1,o1,u',hua,hub,hu',hrow⟩:=hls1.wo hil;rw[hu] at hu';cases hu';refine xd [0,2] rfl ?_;refine av rfl ?_;refine av rfl ?_;refine G.dB func214 H.mixed rfl (by kernel_rfl) ?_;refine RQ.au rfl rfl rfl rfl (aK rfl) ?_;refine RQ.au rfl rfl rfl rfl (aO rfl) ?_;refine RQ.au rfl rfl rfl rfl (af (off:=3) underlying69 rfl rfl H.mg rfl) ?_;refine RQ.au rfl rfl rfl rfl (ah H.vC rfl (hk1.cell (i:=3) rfl)) ?_;refine RQ.au rfl rfl rfl rfl (aK rfl) ?_;refine RQ.cW (d:=9) (b':=false) rfl (rfl) ?_;refine RQ.au rfl rfl rfl rfl (aK rfl) ?_;refine RQ.au rfl rfl rfl rfl (aO rfl) ?_;refine RQ.au rfl rfl rfl rfl (af (off:=1) underlying69 rfl rfl H.bY rfl) ?_;refine RQ.au rfl rfl rfl rfl (ah H.cG rfl (hk1.cell (i:=1) rfl)) ?_;refine RQ.au rfl rfl rfl rfl (aK rfl) ?_;refine RQ.au rfl rfl rfl rfl (aO rfl) ?_;refine RQ.au rfl rfl rfl rfl (af (off:=0) underlying69 rfl rfl H.nP rfl) ?_;refine RQ.au rfl rfl rfl rfl (ah H.nU rfl (hk1.cell (i:=0) rfl)) ?_;refine RQ.au rfl rfl rfl rfl (aj.aJ underlying64 rfl) ?_;refine RQ.au rfl rfl rfl rfl (lS rfl rfl) ?_;refine RQ.au rfl rfl rfl rfl (aj.n5 rfl rfl) ?_;refine b8 rfl ?_;refine xu [0,2,20] rfl ?_;refine aI rfl rfl (fun hc=>absurd hc (by simp;omega)) (fun _=>?_);refine aE rfl ?_;refine av rfl ?_;refine bV (fun b=>Array.size h1≤b) (fun i=>Nat.blt i 11) (sz:=12) (listed:= #[false,false,false,false,false,false,false,false,false,false,false,false]) func214 H.mixed rfl rfl rfl ?_;refine b9 0 1 (by kernel_rfl) rfl ?_;refine b9 1 3 (by kernel_rfl) rfl ?_;refine bI 2 7 (by kernel_rfl) rfl (fun h' e=>af (off:=0) underlying69 rfl rfl H.nP rfl) ?_;refine bI 3 15 (by kernel_rfl) rfl (fun h' e=>ah H.nU rfl (e.old (hk1.cell (i:=0) rfl))) ?_;refine b9 4 31 (by kernel_rfl) rfl ?_;refine b9 5 63 (by kernel_rfl) rfl ?_;refine bI 6 127 (by kernel_rfl) rfl (fun h' e=>af (off:=1) underlying69 rfl rfl H.bY rfl) ?_;refine bI 7 255 (by kernel_rfl) rfl (fun h' e=>ah H.cG rfl (e.old (hk1.cell (i:=1) rfl))) ?_;refine bI 8 511 (by kernel_rfl) rfl (fun h' e=>aj.ay underlying64 H.kf rfl rfl i rfl hua (by omega)) ?_;refine bI 9 1023 (by kernel_rfl) rfl (fun h' e=>aj.aG H.K1 H.kf rfl (e.qX hrow) (by first|rfl|(simp;done)|(simp;omega))) ?_;refine cU 10 2047 (by kernel_rfl) rfl (aC.aR H.JB) ?_;rintro _ h2 ⟨rfl,k2,e2,z2⟩;refine⟨fun _=>e2.of,?_⟩;refine fS 11 4095 (by kernel_rfl) rfl (aC.aB H.kf rfl rfl k2 (by first|rfl|(simp;done)|(simp;omega)) (by first|decide|exact of_decide_eq_true rfl|(simp;done)|(simp;omega)) (by simpa using xW u)) ?_;rintro _ h4 ⟨rfl,hku,x4,z4⟩;refine⟨fun hk=>(nomatch hk),?_⟩;have x14:Ext (fun b=>b=h1.size) h1 h4:=e2.of.trans x4;have x04:Ext (fun b=>b=pb) h h4:=e1.of.fo x14 (fun i hi q=>by omega);have hku:bq h4 h1.size 106 (rD u):=hku;have hk4:=hk1.ext x14 (show ¬pb=h1.size by omega);have hkr:=k1.ext x14 (show ¬h.size=h1.size by omega);have hls4:=hls1.mv (Mv.dc x14 fun b hb ho=>⟨fun q=>ho (by omega),ho⟩);have hp4:qL ⟨pb,_,n0,us,e⟩ h4 (.ok (u::r)):=⟨i,false,m,hk4,hls4.shut,hi,⟨rfl,hr⟩,hpn,by have:=x04.size;dsimp only;omega⟩
   refine bg (by kernel_rfl) ?_;refine xu [0,2,3,20] rfl ?_;refine av rfl ?_;refine G.block rfl rfl ?_;refine xr func214 rfl ?_;refine xp rfl (af (off:=0) underlying106 rfl rfl H.bY rfl) ?_;refine xp rfl (ah H.cG rfl (hku.cell (i:=0) rfl)) ?_;refine aQ 2 [0,2,3,20,33] rfl ?_;refine aL rfl rfl (fun c5=>?_) (fun c5=>?_)
   · refine br func214 2 rfl ?_;refine xp rfl (af (off:=1) underlying69 rfl rfl H.bY rfl) ?_;refine xp rfl (ah H.cG rfl (hk4.cell (i:=1) rfl)) ?_;refine xp rfl (aj.bA rfl rfl ⟨by omega,by omega⟩) ?_;refine bP 1 rfl rfl (af (off:=1) underlying69 rfl rfl H.bY rfl) ?_;refine RW.bZ rfl rfl rfl (aC.bF H.bY rfl rfl hk4 (by first|decide|exact of_decide_eq_true rfl|(simp;done)|(simp;omega)) rfl) ?_;rintro _ h5 ⟨rfl,k5,x5,z5⟩;have hu5:=hku.ext x5 (show ¬h1.size=pb by omega);refine xd [0,2,3,20,33] rfl ?_;refine xr func214 rfl ?_;refine xp rfl (af (off:=1) underlying106 rfl rfl H.dA rfl) ?_;refine xp rfl (ah H.dO rfl (hu5.cell (i:=1) rfl)) ?_;refine xp rfl (aP (H.kL _ _) rfl) ?_;refine RW.bZ rfl rfl rfl (aC.aB H.aV rfl rfl (hkr.ext x5 (show ¬h.size=pb by omega)) (by first|rfl|(simp;done)|(simp;omega)) (by first|decide|exact of_decide_eq_true rfl|(simp;done)|(simp;omega)) (eT)) ?_;rintro _ h6 ⟨rfl,k6,x6,z6⟩;refine xd [0,2,3,20,33] rfl ?_;refine G.cN func214 rfl (.cons (bu.cB H.bN H.aV rfl (k6.row) (by first|rfl|(simp;done)|(simp;omega))) (.nil)) ?_;rw[HG c5] at hm;obtain⟨rfl,rfl⟩:Tr.mk 0 u.2.1 []=t∧PS.ok r=s':=by cases hm;exact⟨rfl,rfl⟩
     have hp5:qL ⟨pb,_,n0,us,e⟩ h5 (.ok r):=⟨i+1,false,m,k5,(hls4.mv (Mv.dc x5 fun b _ ho=>⟨fun q=>ho (.inl q),ho⟩)).shut,hil,⟨rfl,hr'⟩,hpn,by have:=x5.size;dsimp only;omega⟩
     exact⟨_,rfl,cn hp (x04.trans x5) hp5 (dS.shut (bU.nil _ _ _)) (fun _=>rfl) x6⟩
   · refine xr func214 rfl ?_;refine xp rfl (af (off:=0) underlying106 rfl rfl H.bY rfl) ?_;refine xp rfl (ah H.cG rfl (hku.cell (i:=0) rfl)) ?_;refine aQ 2 [0,2,3,20,33,47] rfl ?_;refine aL rfl rfl (fun c9=>?_) (fun c9=>?_)
     · refine br func214 2 rfl ?_;refine xp rfl (af (off:=1) underlying69 rfl rfl H.bY rfl) ?_;refine xp rfl (ah H.cG rfl (hk4.cell (i:=1) rfl)) ?_;refine xp rfl (aj.bA rfl rfl ⟨by omega,by omega⟩) ?_;refine bP 1 rfl rfl (af (off:=1) underlying69 rfl rfl H.bY rfl) ?_;refine RW.bZ rfl rfl rfl (aC.bF H.bY rfl rfl hk4 (by first|decide|exact of_decide_eq_true rfl|(simp;done)|(simp;omega)) rfl) ?_;rintro _ h5 ⟨rfl,k5,x5,z5⟩;have hu5:=hku.ext x5 (show ¬h1.size=pb by omega);refine xd [0,2,3,20,33,47] rfl ?_;refine xr func214 rfl ?_;refine xp rfl (af (off:=1) underlying106 rfl rfl H.dA rfl) ?_;refine xp rfl (ah H.dO rfl (hu5.cell (i:=1) rfl)) ?_;refine xp rfl (aP (H.kL _ _) rfl) ?_;refine RW.bZ rfl rfl rfl (aC.aB H.aV rfl rfl (hkr.ext x5 (show ¬h.size=pb by omega)) (by first|rfl|(simp;done)|(simp;omega)) (by first|decide|exact of_decide_eq_true rfl|(simp;done)|(simp;omega)) (eT)) ?_;rintro _ h6 ⟨rfl,k6,x6,z6⟩;refine xd [0,2,3,20,33,47] rfl ?_;refine G.cN func214 rfl (.cons (bu.cB H.bN H.aV rfl (k6.row) (by first|rfl|(simp;done)|(simp;omega))) (.nil)) ?_;rw[HF c9] at hm;obtain⟨rfl,rfl⟩:Tr.mk 1 u.2.1 []=t∧PS.ok r=s':=by cases hm;exact⟨rfl,rfl⟩
       have hp5:qL ⟨pb,_,n0,us,e⟩ h5 (.ok r):=⟨i+1,false,m,k5,(hls4.mv (Mv.dc x5 fun b _ ho=>⟨fun q=>ho (.inl q),ho⟩)).shut,hil,⟨rfl,hr'⟩,hpn,by have:=x5.size;dsimp only;omega⟩
       exact⟨_,rfl,cn hp (x04.trans x5) hp5 (dS.shut (bU.nil _ _ _)) (fun _=>rfl) x6⟩
     · refine xr func214 rfl ?_;refine xp rfl (af (off:=0) underlying106 rfl rfl H.bY rfl) ?_;refine xp rfl (ah H.cG rfl (hku.cell (i:=0) rfl)) ?_;refine aQ 2 [0,2,3,20,33,47,61] rfl ?_;refine aL rfl rfl (fun c3=>?_) (fun c3=>?_)
       · refine br func214 2 rfl ?_;refine xp rfl (af (off:=1) underlying69 rfl rfl H.bY rfl) ?_;refine xp rfl (ah H.cG rfl (hk4.cell (i:=1) rfl)) ?_;refine xp rfl (aj.bA rfl rfl ⟨by omega,by omega⟩) ?_;refine bP 1 rfl rfl (af (off:=1) underlying69 rfl rfl H.bY rfl) ?_;refine RW.bZ rfl rfl rfl (aC.bF H.bY rfl rfl hk4 (by first|decide|exact of_decide_eq_true rfl|(simp;done)|(simp;omega)) rfl) ?_;rintro _ h5 ⟨rfl,k5,x5,z5⟩;have hu5:=hku.ext x5 (show ¬h1.size=pb by omega);refine xd [0,2,3,20,33,47,61] rfl ?_;refine xr func214 rfl ?_;refine xp rfl (af (off:=1) underlying106 rfl rfl H.dA rfl) ?_;refine xp rfl (ah H.dO rfl (hu5.cell (i:=1) rfl)) ?_;refine xp rfl (aP (H.kL _ _) rfl) ?_;refine RW.bZ rfl rfl rfl (aC.aB H.aV rfl rfl (hkr.ext x5 (show ¬h.size=pb by omega)) (by first|rfl|(simp;done)|(simp;omega)) (by first|decide|exact of_decide_eq_true rfl|(simp;done)|(simp;omega)) (eT)) ?_;rintro _ h6 ⟨rfl,k6,x6,z6⟩;refine xd [0,2,3,20,33,47,61] rfl ?_;refine G.cN func214 rfl (.cons (bu.cB H.bN H.aV rfl (k6.row) (by first|rfl|(simp;done)|(simp;omega))) (.nil)) ?_;rw[HI c3] at hm;obtain⟨rfl,rfl⟩:Tr.mk 3 u.2.1 []=t∧PS.ok r=s':=by cases hm;exact⟨rfl,rfl⟩
         have hp5:qL ⟨pb,_,n0,us,e⟩ h5 (.ok r):=⟨i+1,false,m,k5,(hls4.mv (Mv.dc x5 fun b _ ho=>⟨fun q=>ho (.inl q),ho⟩)).shut,hil,⟨rfl,hr'⟩,hpn,by have:=x5.size;dsimp only;omega⟩
         exact⟨_,rfl,cn hp (x04.trans x5) hp5 (dS.shut (bU.nil _ _ _)) (fun _=>rfl) x6⟩
       · refine av rfl ?_;refine G.bD [(75,.bool (decide (u.1=4∧(u.2.1=iS∨u.2.1=kZ))))] [(0,_),(2,_),(3,_),(20,_),(33,_),(47,_),(61,_)] ⟨rfl,rfl,rfl,rfl,rfl,rfl,rfl,trivial⟩ func214 rfl ?_ ?_
         · refine xp rfl (af (off:=0) underlying106 rfl rfl H.bY rfl) ?_;refine xp rfl (ah H.cG rfl (hku.cell (i:=0) rfl)) ?_;refine aT 2 rfl ?_;refine aH (d:=79) rfl (fun g4=>?_) (fun g4=>?_)
           · have g4:=of_decide_eq_true g4;refine xp rfl (af (off:=1) underlying106 rfl rfl H.dA rfl) ?_;refine xp rfl (ah H.dO rfl (hku.cell (i:=1) rfl)) ?_;refine xp rfl (aj.cI rfl rfl) ?_;refine aT 1 rfl ?_;refine aH (d:=83) rfl (fun gt=>?_) (fun gt=>?_)
             · have gt:u.2.1=iS:=dx (of_decide_eq_true gt);refine aT 6 rfl ?_;refine az rfl ?_;exact⟨rfl,aA rfl (by rw[decide_eq_true ⟨g4,.inl gt⟩]),rfl,rfl,rfl,rfl,rfl,rfl,rfl,trivial⟩
             · have gt:¬u.2.1=iS:=fun q=>of_decide_eq_false gt (congrArg bs q)
               refine xp rfl (af (off:=1) underlying106 rfl rfl H.dA rfl) ?_;refine xp rfl (ah H.dO rfl (hku.cell (i:=1) rfl)) ?_;refine xp rfl (aj.cI rfl rfl) ?_;refine aT 3 rfl ?_;refine az rfl ?_;exact⟨rfl,aA rfl (by rw[Bool.eq_iff_iff,decide_eq_true_iff,decide_eq_true_iff];exact⟨fun q=>⟨g4,.inr (dx q)⟩,fun q=>congrArg bs (q.2.resolve_left gt)⟩),rfl,rfl,rfl,rfl,rfl,rfl,rfl,trivial⟩
           · have g4:=of_decide_eq_false g4;refine aT 10 rfl ?_;refine az rfl ?_;exact⟨rfl,aA rfl (by rw[decide_eq_false (fun q=>g4 q.1)]),rfl,rfl,rfl,rfl,rfl,rfl,rfl,trivial⟩
         · refine aL rfl rfl (fun c4=>?_) (fun c4=>?_)
           · refine br func214 2 rfl ?_;refine xp rfl (af (off:=1) underlying69 rfl rfl H.bY rfl) ?_;refine xp rfl (ah H.cG rfl (hk4.cell (i:=1) rfl)) ?_;refine xp rfl (aj.bA rfl rfl ⟨by omega,by omega⟩) ?_;refine bP 1 rfl rfl (af (off:=1) underlying69 rfl rfl H.bY rfl) ?_;refine RW.bZ rfl rfl rfl (aC.bF H.bY rfl rfl hk4 (by first|decide|exact of_decide_eq_true rfl|(simp;done)|(simp;omega)) rfl) ?_;rintro _ h5 ⟨rfl,k5,x5,z5⟩;have hu5:=hku.ext x5 (show ¬h1.size=pb by omega);refine xd [0,2,3,20,33,47,61,75] rfl ?_;refine xr func214 rfl ?_;refine xp rfl (af (off:=1) underlying106 rfl rfl H.dA rfl) ?_;refine xp rfl (ah H.dO rfl (hu5.cell (i:=1) rfl)) ?_;refine xp rfl (aP (H.kL _ _) rfl) ?_;refine RW.bZ rfl rfl rfl (aC.aB H.aV rfl rfl (hkr.ext x5 (show ¬h.size=pb by omega)) (by first|rfl|(simp;done)|(simp;omega)) (by first|decide|exact of_decide_eq_true rfl|(simp;done)|(simp;omega)) (eT)) ?_;rintro _ h6 ⟨rfl,k6,x6,z6⟩;refine xd [0,2,3,20,33,47,61,75] rfl ?_;refine G.cN func214 rfl (.cons (bu.cB H.bN H.aV rfl (k6.row) (by first|rfl|(simp;done)|(simp;omega))) (.nil)) ?_;rw[HH c4.1 c4.2] at hm;obtain⟨rfl,rfl⟩:Tr.mk 2 u.2.1 []=t∧PS.ok r=s':=by cases hm;exact⟨rfl,rfl⟩
             have hp5:qL ⟨pb,_,n0,us,e⟩ h5 (.ok r):=⟨i+1,false,m,k5,(hls4.mv (Mv.dc x5 fun b _ ho=>⟨fun q=>ho (.inl q),ho⟩)).shut,hil,⟨rfl,hr'⟩,hpn,by have:=x5.size;dsimp only;omega⟩
             exact⟨_,rfl,cn hp (x04.trans x5) hp5 (dS.shut (bU.nil _ _ _)) (fun _=>rfl) x6⟩
           · have hno:=GB c5 c9 c3 c4;rw[hno] at hm;simp only at hm;refine av rfl ?_;refine G.bD [(99,.bool (decide (u.1=7∧u.2.1=[123])))] [(0,_),(2,_),(3,_),(20,_),(33,_),(47,_),(61,_),(75,_)] ⟨rfl,rfl,rfl,rfl,rfl,rfl,rfl,rfl,trivial⟩ func214 rfl ?_ ?_
             · refine xp rfl (af (off:=0) underlying106 rfl rfl H.bY rfl) ?_;refine xp rfl (ah H.cG rfl (hku.cell (i:=0) rfl)) ?_;refine aT 2 rfl ?_;refine aH (d:=103) rfl (fun g4=>?_) (fun g4=>?_)
               · have g4:=of_decide_eq_true g4;refine xp rfl (af (off:=1) underlying106 rfl rfl H.dA rfl) ?_;refine xp rfl (ah H.dO rfl (hku.cell (i:=1) rfl)) ?_;refine xp rfl (aj.cI rfl rfl) ?_;refine aT 2 rfl ?_;refine az rfl ?_;exact⟨rfl,aA rfl (by rw[Bool.eq_iff_iff,decide_eq_true_iff,decide_eq_true_iff];exact⟨fun q=>⟨g4,dx q⟩,fun q=>congrArg bs q.2⟩),rfl,rfl,rfl,rfl,rfl,rfl,rfl,rfl,trivial⟩
               · have g4:=of_decide_eq_false g4;refine aT 5 rfl ?_;refine az rfl ?_;exact⟨rfl,aA rfl (by rw[decide_eq_false (fun q=>g4 q.1)]),rfl,rfl,rfl,rfl,rfl,rfl,rfl,rfl,trivial⟩
             · refine aL rfl rfl (fun cb=>?_) (fun cb=>?_)
               · rw[if_pos cb] at hm;have hcall:=(ih n (Nat.le_refl _)).block ⟨pb,_,n0,us,e⟩ _ _ _ _ hp4 hm;refine br func214 1 rfl ?_;refine xo rfl (aq (vs:=[_]) func130 rfl H.FI rfl (ai.bw (hcall))) ?_;rintro r9 g9 ⟨y9,hp9,t9,hn9,ht9⟩;have k9:=hkr.ext y9 (show ¬h.size=pb by omega);obtain⟨nk,nt,na,nn,nc,rfl,_⟩:=hn9.get;refine RW.bZ rfl rfl rfl (aC.aB H.aV rfl rfl k9 (by first|rfl|(simp;done)|(simp;omega)) (by first|decide|exact of_decide_eq_true rfl|(simp;done)|(simp;omega)) (by first|decide|simp[Value.oneCell'])) ?_;rintro _ g10 ⟨rfl,k10,x10,z10⟩;refine xd [0,2,3,20,33,47,61,75,99] rfl ?_;refine G.cN func214 rfl (.cons (bu.cB H.bN H.aV rfl (k10.row) (by first|rfl|(simp;done)|(simp;omega))) (.nil)) ?_;exact⟨_,rfl,eB.ret ⟨y9,hp9,t9,hn9,ht9⟩ hp x04 x10 (Nat.le_refl _) hkr.lt⟩
               · rw[if_neg cb] at hm;refine av rfl ?_;refine G.bD [(110,.bool (decide (u.1=7∧u.2.1=[40])))] [(0,_),(2,_),(3,_),(20,_),(33,_),(47,_),(61,_),(75,_),(99,_)] ⟨rfl,rfl,rfl,rfl,rfl,rfl,rfl,rfl,rfl,trivial⟩ func214 rfl ?_ ?_
                 · refine xp rfl (af (off:=0) underlying106 rfl rfl H.bY rfl) ?_;refine xp rfl (ah H.cG rfl (hku.cell (i:=0) rfl)) ?_;refine aT 2 rfl ?_;refine aH (d:=114) rfl (fun g4=>?_) (fun g4=>?_)
                   · have g4:=of_decide_eq_true g4;refine xp rfl (af (off:=1) underlying106 rfl rfl H.dA rfl) ?_;refine xp rfl (ah H.dO rfl (hku.cell (i:=1) rfl)) ?_;refine xp rfl (aj.cI rfl rfl) ?_;refine aT 2 rfl ?_;refine az rfl ?_;exact⟨rfl,aA rfl (by rw[Bool.eq_iff_iff,decide_eq_true_iff,decide_eq_true_iff];exact⟨fun q=>⟨g4,dx q⟩,fun q=>congrArg bs q.2⟩),rfl,rfl,rfl,rfl,rfl,rfl,rfl,rfl,rfl,trivial⟩
                   · have g4:=of_decide_eq_false g4;refine aT 5 rfl ?_;refine az rfl ?_;exact⟨rfl,aA rfl (by rw[decide_eq_false (fun q=>g4 q.1)]),rfl,rfl,rfl,rfl,rfl,rfl,rfl,rfl,rfl,trivial⟩
                 · refine aL rfl rfl (fun cp=>?_) (fun cp=>?_)
                   · rw[if_pos cp] at hm;obtain⟨v,s1,hv,hm⟩:=aY hm;obtain⟨rfl,rfl⟩:v=t∧eK e 8 [41] s1=s':=by cases hm;exact⟨rfl,rfl⟩
                     refine br func214 2 rfl ?_;refine xp rfl (af (off:=1) underlying69 rfl rfl H.bY rfl) ?_;refine xp rfl (ah H.cG rfl (hk4.cell (i:=1) rfl)) ?_;refine xp rfl (aj.bA rfl rfl ⟨by omega,by omega⟩) ?_;refine bP 1 rfl rfl (af (off:=1) underlying69 rfl rfl H.bY rfl) ?_;refine RW.bZ rfl rfl rfl (aC.bF H.bY rfl rfl hk4 (by first|decide|exact of_decide_eq_true rfl|(simp;done)|(simp;omega)) rfl) ?_;rintro _ h5 ⟨rfl,k5,x5,z5⟩;have hp5:qL ⟨pb,_,n0,us,e⟩ h5 (.ok r):=⟨i+1,false,m,k5,(hls4.mv (Mv.dc x5 fun b _ ho=>⟨fun q=>ho (.inl q),ho⟩)).shut,hil,⟨rfl,hr'⟩,hpn,by have:=x5.size;dsimp only;omega⟩
                     have hcall:=(ih n (Nat.le_refl _)).expr ⟨pb,_,n0,us,e⟩ _ _ _ _ hp5 hv;refine xd [0,2,3,20,33,47,61,75,99,110] rfl ?_;refine br func214 1 rfl ?_;refine xo rfl (aq (vs:=[_]) func48 rfl H.B0 rfl (ai.bw (hcall))) ?_;rintro r6 h6 ⟨y6,hp6,t6,hn6,ht6⟩;obtain⟨nk,nt,na,nn,nc,rfl,hr6⟩:=hn6.get;have z6:=y6.size;have z4':=x04.size;refine xo rfl (aC.aR H.eG) ?_;rintro _ h7 ⟨rfl,k7,e7,z7⟩;refine RW.bZ rfl rfl rfl (aC.aB H.aV rfl rfl k7 (by first|rfl|(simp;done)|(simp;omega)) (by first|decide|exact of_decide_eq_true rfl|(simp;done)|(simp;omega)) (eT)) ?_;rintro _ h8 ⟨rfl,k8,x8,z8⟩;have x68:Ext (fun b=>b=h6.size) h6 h8:=e7.of.trans x8;have hp8:=hp6.ext x68 (fun b (hb:b<n0) q=>by omega);have hmust:=gm hp8 8 [41];dsimp only at hmust;refine xd [0,2,3,4,20,33,47,61,75,99,110] rfl ?_;refine br func214 1 rfl ?_;refine xo rfl (aq (vs:=[_,_,_]) func89 rfl H.D1 rfl (ai.bw (hmust))) ?_;rintro _ h9 ⟨hp9,x9⟩;have y6':Ext (fun b=>b=pb) h5 h6:=y6;refine xd [0,2,3,4,20,33,47,61,75,99,110] rfl ?_;refine xr func214 rfl ?_;refine xp rfl (aj.aG H.bN H.aV rfl (k8.ext x9 (show ¬h6.size=pb by omega)).row (by first|rfl|(simp;done)|(simp;omega))) ?_;refine RW.bZ rfl rfl rfl (aC.aB H.aV rfl rfl ((((hkr.ext x5 (show ¬h.size=pb by omega)).ext y6' (show ¬h.size=pb by omega)).ext x68 (show ¬h.size=h6.size by omega)).ext x9 (show ¬h.size=pb by omega)) (by first|rfl|(simp;done)|(simp;omega)) (by first|decide|exact of_decide_eq_true rfl|(simp;done)|(simp;omega)) (eT)) ?_;rintro _ hz ⟨rfl,kz,xz,zz⟩;refine xd [0,2,3,4,20,33,47,61,75,99,110] rfl ?_;refine G.cN func214 rfl (.cons (bu.cB H.bN H.aV rfl (kz.row) (by first|rfl|(simp;done)|(simp;omega))) (.nil)) ?_;have x09:Ext (fun b=>b=pb) h h9:=(((x04.trans x5).trans y6').fo x68 (fun i hi q=>by omega)).trans x9;exact⟨_,rfl,cn hp x09 hp9 (dS.of (aX (aX (O':=fun b=>b≤h.size) hr6 x68 (fun b hb q=>⟨fun q2=>by omega,fun q2=>q (by omega)⟩)) x9 (fun b hb q=>⟨fun q2=>q (by omega),q⟩))) (fun q=>by rw[ht6 (oJ q)]) xz⟩
                   · rw[if_neg cp] at hm;obtain⟨rfl,rfl⟩:wI=t∧dM e (.ok (u::r))=s':=by cases hm;exact⟨rfl,rfl⟩
                     have hf:=eI hp4;dsimp only at hf;refine aE rfl ?_;refine G.aN ?_;refine br func214 1 rfl ?_;refine xo rfl (aq (vs:=[_]) func27 rfl H.wq rfl (ai.bw (hf))) ?_;rintro _ h5 ⟨rfl,hp5,x5⟩;refine RW.bZ rfl rfl rfl (aC.aB H.aV rfl rfl (hkr.ext x5 (show ¬h.size=pb by omega)) (by first|rfl|(simp;done)|(simp;omega)) (by first|decide|exact of_decide_eq_true rfl|(simp;done)|(simp;omega)) (by first|decide|simp[Value.oneCell'])) ?_;rintro _ h6 ⟨rfl,k6,x6,z6⟩;refine xd [0,2,3,20,33,47,61,75,99,110] rfl ?_;refine G.cN func214 rfl (.cons (bu.cB H.bN H.aV rfl (k6.row) (by first|rfl|(simp;done)|(simp;omega))) (.nil)) ?_;exact⟨_,rfl,cn hp (x04.trans x5) hp5 (mN _ _) (fun _=>rfl) x6⟩
theorem Fq:zv 0:=by
 have z:∀f ex j,Ct f ex j 0:=fun f ex j c h s t s' hp hm=>by cases hm
 exact⟨z _ _ _,z _ _ _,fun _=>z _ _ _,z _ _ _,z _ _ _,z _ _ _,z _ _ _,z _ _ _,z _ _ _,z _ _ _,z _ _ _,z _ _ _,z _ _ _,z _ _ _,z _ _ _⟩
theorem G5:∀n,zv n:=by
 intro n
 induction n using Nat.strongRecOn with
 |_ n ih =>
  cases n with
  |zero=>exact Fq
  |succ n =>
   have ih:∀m,m≤n→zv m:=fun m hm=>ih m (Nat.lt_succ_of_le hm)
   exact⟨zA ih,zB ih,Bz ih,vZ ih,BA ih,xT ih,Dt ih,BB ih,Bx ih,tG ih,Bw ih,zy ih,xQ ih,zC ih,zD ih⟩
def nS (m:Int):ct:=match lI (gN m) with|.inr d=>d|.inl _=>⟨[],[]⟩
theorem uD (m:Nat) (hm:m<3):∃ss st,fj (gN m)= .inr (ss,st)∧lI (gN m)= .inr (nS m)∧gj ss st= .inr (nS m)∧(∀l,gO m l=dR ss st l)∧∀l,(bC (nS m) l 0 0 (0,-1)).2.2≤(gO m l).1+2:=by
 have key:∀{ss:List b6}{st:Nat},fj (gN m)= .inr (ss,st)→(∀l,gO m l=dR ss st l)→(∃d,gj ss st= .inr d∧(∀l,(bC d l 0 0 (0,-1)).2.2≤(dR ss st l).1+2)∧∀l x:By,(dR ss st l).1+2<l.length→dR ss st (l++x)=dR ss st l)→∃ss st,fj (gN m)= .inr (ss,st)∧lI (gN m)= .inr (nS m)∧gj ss st= .inr (nS m)∧(∀l,gO m l=dR ss st l)∧∀l,(bC (nS m) l 0 0 (0,-1)).2.2≤(gO m l).1+2:=by
  intro ss st h1 h2 ⟨d,h3,h4,_⟩;have h5:lI (gN m)= .inr d:=by unfold lI;rw[h1];exact h3
  have h6:nS m=d:=by unfold nS;rw[h5]
  rw[h6];exact⟨ss,st,h1,h5,h3,h2,fun l=>by rw[h2];exact h4 l⟩
 match m,hm with
 | 0,_=>exact key L7 (fun l=>rfl) (qY L7 KP KS KM yN.1)
 | 1,_=>exact key Hi (fun l=>rfl) (qY Hi KO KR KL yN.2.1)
 | 2,_=>exact key L6 (fun l=>rfl) (qY L6 KN KQ KK yN.2.2)
def Le:gG ct:=⟨1,by decide,fun h O cs d=>∃db,cs=[.pointer (some ⟨db,0,none⟩)]∧nu h O db d,fun h=>by obtain⟨db,rfl,_⟩:=h;rfl,fun h=>by
 obtain⟨db,rfl,_⟩:=h;intro u hu;simp at hu;subst hu;rfl,fun h m=>by
 obtain⟨db,hc,hv⟩:=h;exact⟨db,hc,hv.mv m⟩⟩
def uE (k:Nat):List ct:=([0,1,2].take k).map fun m:Int=>lB (nS m)
theorem B7 (k:Nat) (hk:k<3):uE (k+1)=uE k++[lB (nS k)]∧(uE k).length=k:=by
 match k,hk with
 | 0,_=>exact⟨rfl,rfl⟩
 | 1,_=>exact⟨rfl,rfl⟩
 | 2,_=>exact⟨rfl,rfl⟩
def qM (h:aD) (p:Value):Prop:=∃lb vm,p= .pointer (some ⟨lb,0,none⟩)∧bq h lb 89 [vm]∧bU Le h (fun _=>False) vm (uE 3)
theorem qM.ax {h h':aD}{p:Value}(k:qM h p) (e:aF h h'):qM h' p:=by
 obtain⟨lb,vm,h1,h2,h3⟩:=k;exact⟨lb,vm,h1,h2.ax e,h3.mv (Mv.ax e)⟩
theorem D3 {lim:Nat}(hg:Sg h lim) (hlim:lim≤h.size) (htens:th h) (hR:lR h) :
 ai Tryz.prog 20 #[] h (cL fun r h'=>qM h' r∧aF h h'):=by
 refine ai.of func20 rfl rfl ?_;refine aW func20 1 [0] rfl ?_;refine xr func20 rfl ?_;refine xp rfl (aP (H.KU ) rfl) ?_;refine xo rfl (aC.fe rfl) ?_;rintro _ h1 ⟨rfl,k1,e1,z1⟩;have k1:bq h1 h.size 89 [.slice none 0 0]:=k1;refine aQ 1 [0,1] rfl ?_;refine av rfl ?_;refine aW func20 1 [0,1,2] rfl ?_;refine G.block rfl rfl ?_;refine bE (σ:=Nat×Value) (fun q=>[(1,.pointer (some ⟨h.size,0,none⟩)),(2,.int .i64 (q.1:Nat))]) (fun q h'=>q.1≤3∧aF h h'∧bq h' h.size 89 [q.2]∧dD Le (fun b=>b=h.size) h' h1.size 95 q.2 (uE q.1)∧h1.size≤h'.size) (fun q=>3-q.1) ((0,.slice none 0 0)) rfl ⟨rfl,rfl,trivial⟩ ⟨by decide,e1,k1,dD.nil _ _ _ _ _,Nat.le_refl _⟩ ?_;rintro⟨m,vm⟩ g ⟨hm,eg,kb,hx,hz⟩ ih
 try dsimp only
 dsimp only at hm kb hx;refine av rfl ?_;refine aW func20 2 [1,2,10] rfl ?_;refine aL rfl rfl (fun hlt=>?_) (fun hlt=>?_)
 · have hm3:m<3:=by omega
   obtain⟨ss,st,hmk,hdm,hdk,_⟩:=uD m hm3;obtain⟨hnext,hlen⟩:=B7 m hm3;have hok:=nK hdm;have hM:=fY hmk;have hb:=AM hM
   have hrl:∀s∈gN m,s.length≤1000000:=by
    have:m=0∨m=1∨m=2:=by omega
    rcases this with rfl|rfl|rfl
    · exact of_decide_eq_true rfl
    · exact of_decide_eq_true rfl
    · exact of_decide_eq_true rfl
   refine aE rfl ?_;refine av rfl ?_;refine G.block rfl rfl ?_;refine br func20 1 rfl ?_;refine xo rfl (aq (vs:=[_]) func39 rfl H.LY rfl (ai.bw (DR (hR.ax eg) m hm3))) ?_;rintro _ g1 ⟨hr1,f1⟩;have eg1:=eg.trans f1;refine xo rfl (aq (vs:=[_]) func38 rfl H.LZ rfl (ai.bw (D7 (hg.ext eg1 (fun _ k=>k.elim)) (by have:=eg1.size;omega) hr1 hrl))) ?_;rintro _ g2 ⟨⟨p,rfl,hp⟩,f2⟩
   have hp:∃(O:Nat→Prop) (nb:Nat) (v:Value),p= .pointer (some ⟨nb,0,none⟩)∧cy g2 O nb v ss st:=by
    rcases hp with ⟨e,he,_⟩|⟨O,nb,v,ss',st',hp,hn,hm'⟩
    · rw[hmk] at he;cases he
    · rw[hmk] at hm';cases hm';exact⟨O,nb,v,hp,hn⟩
   obtain⟨O,nb,v,rfl,hn⟩:=hp;have eg2:=eg1.trans f2;refine aQ 5 [1,2,3,10] rfl ?_;refine br func20 1 rfl ?_;refine xo rfl (aq (vs:=[_]) func40 rfl H.LX rfl (ai.bw (A7 (htens.ax eg2) hn hM.good hM.len hM.stl hb.2.1 hb.2.2))) ?_;rintro r3 g3 ⟨hr3,f3⟩;unfold zm at hr3;rw[hdk] at hr3;obtain⟨db,rfl,hk⟩:=hr3;have eg3:=eg2.trans f3;have f03:=(f1.trans f2).trans f3;have zz:=f03.size;have kb3:=kb.ax f03;have hx3:=hx.ax f03;obtain⟨css3,_,hw3,_⟩:=id hx3;have vge:∀b,vm.ownBlock=some b→h1.size≤b∧b<g3.size:=fun b hb=>hw3.lt hb
   have hkM:¬(cT vm.ownBlock h.size∨Array.size g3≤h.size):=by
    rintro(k|k)
    · have:=(vge _ k.symm).1;omega
    · omega
   refine aQ 5 [1,2,3,5,10] rfl ?_;refine bV (fun b=>cT vm.ownBlock b∨Array.size g3≤b) (fun i=>Nat.blt i 11) (sz:=12) (listed:= #[false,false,false,false,false,false,false,false,false,false,false,false]) func20 H.mixed rfl rfl rfl ?_;refine b9 0 1 (by kernel_rfl) rfl ?_;refine b9 1 3 (by kernel_rfl) rfl ?_;refine b9 2 7 (by kernel_rfl) rfl ?_;refine bI 3 15 (by kernel_rfl) rfl (fun h' e=>af (off:=0) underlying89 rfl rfl H.DA rfl) ?_;refine bI 4 31 (by kernel_rfl) rfl (fun h' e=>ah H.HK rfl (e.cell hkM (kb3.cell (i:=0) rfl))) ?_;refine b9 5 63 (by kernel_rfl) rfl ?_;refine cU 6 127 (by kernel_rfl) rfl (aq (vs:=[_]) func41 rfl H.LW rfl (ai.bw (Gm (htens.ax eg3) hk hok.1 hok.2))) ?_;rintro r4 g4 ⟨⟨b4,rfl,hk4⟩,f4⟩;refine⟨fun _=>f4.mono (fun _ _ k=>k.elim),?_⟩;have hx4:=hx3.ax f4;have kb4:=kb3.ax f4;have z4:=f4.size;obtain⟨css,hc1,hc2,hc3⟩:=id hx4;rw[hlen] at hc2;refine cU 7 255 (by kernel_rfl) rfl (aC.aZ (us:=[_]) underlying87 H.KG rfl rfl (by decide) (by simp[Value.oneCell'])) ?_;rintro _ _ ⟨rfl,rfl⟩;refine⟨fun _=>by first|exact Ext.push _ _ _|assumption,?_⟩;refine cU 8 511 (by kernel_rfl) rfl (aC.bO underlying87 H.KG rfl rfl (hc2) rfl rfl (by first|decide|simp[Value.oneCell']) (by omega) (by decide) (by omega)) ?_;rintro v5 g5 ⟨ho5,hx5,hx5',hv5⟩;refine⟨fun _=>hx5'.mono (fun _ _ k=>.inl k),?_⟩
   have hnew:nu g4 (fun b=>cT vm.ownBlock b∨b=h.size) b4 (lB (nS m)):=hk4.mv ⟨Nat.le_refl _,fun b _ hn=>⟨rfl,fun k=>hn (by
    rcases k with k|k
    · exact(vge _ k.symm).2
    · omega)⟩⟩
   have hx5w:=dD.fV (e:=Le) (h:=g4) (v:=vm) (css:=css) (cs:=[.pointer (some ⟨b4,0,none⟩)]) (y:=lB (nS m)) (O:=fun b=>b=h.size) hc1 hc3 (by rw[hlen];exact ho5) hx5 hv5 ⟨b4,rfl,hnew⟩;obtain⟨va5,vc5,rfl,_⟩:=ho5.open;have z5:=hx5.size;have kb5:=kb4.ext hx5 (fun k=>by have:=(vge _ k.symm).1;omega);have v5ge:∀b,(Value.slice va5 (m+1) vc5).ownBlock=some b→h1.size≤b:=fun b hb=>(ho5.lt hb).1
   refine cU 9 1023 (by kernel_rfl) rfl (aj.bw (aO rfl)) ?_;rintro _ hq_ ⟨rfl,hqe_⟩;replace hqe_:=hqe_.symm;subst hqe_;refine⟨fun _=>Ext.refl _ _,?_⟩;refine bI 10 2047 (by kernel_rfl) rfl (fun h' e=>af (off:=0) underlying89 rfl rfl H.DA rfl) ?_;refine fS 11 4095 (by kernel_rfl) rfl (aC.bF H.DA rfl rfl kb5 (by first|decide|exact of_decide_eq_true rfl|(simp;done)|(simp;omega)) rfl) ?_;rintro _ g6 ⟨rfl,kb6,x6,z6⟩;refine⟨fun hk=>(nomatch hk),?_⟩;have kb6:bq g6 h.size 89 [.slice va5 (m+1) vc5]:=by simpa using kb6
   have hx6:=hx5w.pG (O':=fun b=>b=h.size) x6 (fun b hb k=>by have:=v5ge b hb;omega) (fun b _ k=>k) (fun b _ k=>k)
   have eg6:aF h g6:=⟨by have:=x6.size;omega,fun b hb _=>by
    rw[x6.block b (by omega) (by omega),hx5.block b (by omega) (fun k=>by have:=(vge _ k.symm).1;omega),f4.block b (by omega) (fun k=>k)];exact eg3.block b hb (fun k=>k)⟩
   refine bg (by kernel_rfl) ?_;refine xu [1,2,3,5,10] rfl ?_;refine G.aN ?_;refine G.bT func20 rfl ?_;refine bP 1 rfl rfl (aj.bA rfl rfl ⟨by omega,by omega⟩) ?_;refine aQ 1 [1,2,3,5,10] rfl ?_;exact ih (m+1,_) _ _ ⟨rfl,rfl,trivial⟩ ⟨by show m+1≤3;omega,eg6,kb6,by show dD Le _ g6 h1.size _ _ (uE (m+1));rw[hnext];exact hx6,by have:=x6.size;omega⟩ (by show 3-(m+1)<3-m;omega)
 · obtain rfl:m=3:=by omega
   refine bz rfl rfl ?_;refine aW func20 2 [0,1,2,10] rfl ?_;refine G.ret func20 rfl rfl ?_;exact⟨_,rfl,⟨h.size,vm,rfl,kb,hx.CY (fun b hb k=>k) (fun b _ k=>k.elim)⟩,eg⟩
end
end Go.Proofs.YtedocgkapmeceaaGreatDoor
