/- What the proof of the statement leans on (part 18). -/
import Derived.LoopNIn
import Derived.OrdersIn
import Derived.Test.YtdihgdeciopfpaaGreatDoorQq

namespace Go.Lw
open Go.RowKit
section
variable {ops:Array Oper}{listed:Array Bool}{fuel i n d:Nat}{N:Env->au->Prop}{o:Oper}{Φ:Value->au->Prop}{P:Program}{r:Loop}{args:Array Value}{h:au}{ρ:Env}{ca cb:Code}
structure BI (P:Program) (ro:Option Nat) (n:Nat) (c:Code) (ρ:Env) (h:au) (Q:Exit->Env->au->Prop):Prop where
 go:∀m B a w,Fits n ρ a->At B h w->c.wpIn (FW ro) m P (fun e a' w'=>∃ρ' h',Fits n ρ' a'/\At B h' w'/\Q e ρ' h') a w
@[reducible] def Ky (N:Env->au->Prop) (Q:Exit->Env->au->Prop):Exit->Env->au->Prop
 |.normal,ρ,h=>N ρ h
 |e,ρ,h=>Q e ρ h
@[reducible] def OT (id:Nat) (Q:Exit->Env->au->Prop):Exit->Env->au->Prop
 |.exit i,ρ,h=>match Nat.beq i id with|true=>Q .normal ρ h|false=>Q (.exit i) ρ h
 |e,ρ,h=>Q e ρ h
section
variable {P:Program}{ro:Option Nat}{n:Nat}{ρ:Env}{h:au}{Q:Exit->Env->au->Prop}
theorem BI.skip (k:Q .normal ρ h):BI P ro n .skip ρ h Q:=⟨fun _ _ _ _ hf ha=>wpIn_skip ⟨ρ,h,hf,ha,k⟩⟩
theorem BI.exit {id:Nat}(k:Q (.exit id) ρ h):BI P ro n (.exit id) ρ h Q:=⟨fun _ _ _ _ hf ha=>wpIn_exit ⟨ρ,h,hf,ha,k⟩⟩
theorem BI.ret (k:Q .ret ρ h):BI P ro n .ret ρ h Q:=⟨fun _ _ _ _ hf ha=>wpIn_ret ⟨ρ,h,hf,ha,k⟩⟩
theorem BI.bB {id:Nat}(k:bh P ro n ops 0 ρ h (fun ρ' h'=>Q .normal ρ' h') (fun _ _=>False)):BI P ro n (.region id ops false) ρ h Q:=by
 refine⟨fun m B a w hf ha=>wpIn_region ?_⟩;have:=k m B a w hf ha (fun e a' w'=>∃ρ' h',Fits n ρ' a'/\At B h' w'/\Q e ρ' h') (fun ρ' h' a' w' f' a'' hn=>⟨ρ',h',f',a'',hn⟩) (fun _ _ _ _ _ _ q=>q.elim)
 rwa [List.drop_zero] at this
theorem BI.seq {x y:Code}(k:BI P ro n x ρ h (Ky (fun ρ' h'=>BI P ro n y ρ' h' Q) Q)):BI P ro n (.seq x y) ρ h Q:=by
 refine⟨fun m B a w hf ha=>wpIn_seq (wpIn_mono (k.go m B a w hf ha) ?_)⟩;rintro e a' w' ⟨ρ',h',f',a'',hq⟩;cases e with
 |normal=>exact hq.go m B a' w' f' a''
 |_=>exact⟨ρ',h',f',a'',hq⟩
theorem BI.cond {x y:Code}{c:Operand}{t:Bool}(hc:bE ρ c=some (.bool t)) (h1:t=true->BI P ro n x ρ h Q) (h2:t=false->BI P ro n y ρ h Q):BI P ro n (.cond c x y) ρ h Q :=
 ⟨fun m B a w hf ha=>wpIn_cond_split (hf.eval hc) (fun q=>(h1 q).go m B a w hf ha) (fun q=>(h2 q).go m B a w hf ha)⟩
theorem BI.block {id:Nat}{c:Code}(k:BI P ro n c ρ h (OT id Q)):BI P ro n (.block id c) ρ h Q:=by
 refine⟨fun m B a w hf ha=>wpIn_block (wpIn_mono (k.go m B a w hf ha) ?_)⟩;rintro e a' w' ⟨ρ',h',f',a'',hq⟩;cases e with
 |exit i =>
  show (if i=id then _ else _:Prop)
  have hq:(match Nat.beq i id with|true=>Q .normal ρ' h'|false=>Q (.exit i) ρ' h'):=hq
  by_cases e:i=id
  · subst e;rw[if_pos rfl];rw[Nat.beq_refl] at hq;exact⟨ρ',h',f',a'',hq⟩
  · rw[if_neg e]
    have hb:Nat.beq i id=false:=by
     cases q:Nat.beq i id with
     |true=>exact absurd (Nat.eq_of_beq_eq_true q) e
     |false=>rfl
    rw[hb] at hq;exact⟨ρ',h',f',a'',hq⟩
 |_=>exact⟨ρ',h',f',a'',hq⟩
theorem BI.loop {σ:Type}{c:Code}(env:σ->Env) (inv:σ->au->Prop) (meas:σ->Nat) (s0:σ) (hs:Sub (env s0) ρ) (hi:inv s0 h)
 (step:∀s g,inv s g->BI P ro n c (env s) g (Ky (fun ρ' g'=>∃s',Sub (env s') ρ'/\inv s' g'/\meas s'<meas s) Q)):BI P ro n (.loop c) ρ h Q:=by
 refine⟨fun m B a w hf ha=>?_⟩
 have key:∀k s g a w,meas s<k->Fits n (env s) a->At B g w->inv s g->Code.roundsIn (FW ro) m P c (fun e a' w'=>∃ρ' h',Fits n ρ' a'/\At B h' w'/\Q e ρ' h') k a w:=by
  intro k
  induction k with
  |zero=>intro s g a w hk;omega
  |succ k ih =>
   intro s g a w hk hf ha hv;refine wpIn_mono ((step s g hv).go m B a w hf ha) ?_;rintro e a' w' ⟨ρ',h',f',a'',hq⟩;cases e with
   |normal =>
    obtain⟨s',h1,h2,h3⟩:=hq;exact ih s' h' a' w' (by omega) (f'.sub h1) a'' h2
   |_=>exact⟨ρ',h',f',a'',hq⟩
 exact wpIn_loop_rounds (meas s0+1) (key _ s0 h a w (Nat.lt_succ_self _) (hf.sub hs) ha hi)
theorem BI.sub {c:Code}{ρ':Env}(hs:Sub ρ' ρ) (k:BI P ro n c ρ' h Q):BI P ro n c ρ h Q:=⟨fun m B a w hf ha=>k.go m B a w (hf.sub hs) ha⟩
def dh (P:Program) (ro:Option Nat) (n:Nat) (ops:Array Oper) (fuel:Nat) (listed:Array Bool) (ρ:Env) (h:au) (N:Env->au->Prop):Prop :=
 ∀m B a w,Fits n ρ a->At B h w->wpAnyIn (FW ro) m P .any ops (fun e a' w'=>e= .normal/\∃ρ' h',Fits n ρ' a'/\At B h' w'/\N ρ' h') fuel listed a w
theorem IZ {id sz:Nat}(hm:P.follows .mixedOrders=true) (hsz:ops.size=sz) (hl:Array.replicate sz false=listed) (k:dh P ro n ops sz listed ρ h (fun ρ' h'=>Q .normal ρ' h')):BI P ro n (.region id ops true) ρ h Q:=by
 subst hl;subst hsz;refine⟨fun m B a w hf ha=>?_⟩;refine wpIn_mono (wpIn_region_any hm (k m B a { w with drawn:=w.drawn+1 } hf ha.drew)) ?_;rintro e a' w' ⟨rfl,ρ',h',f',a'',hq⟩;exact⟨ρ',h',f',a'',hq⟩
theorem dh.done (hr:Region.ready .any ops listed=[]) (k:N ρ h):dh P ro n ops fuel listed ρ h N:=by
 intro m B a w hf ha;cases fuel with
 |zero=>exact⟨hr,rfl,ρ,h,hf,ha,k⟩
 |succ f=>exact⟨fun _=>⟨rfl,ρ,h,hf,ha,k⟩,fun i hi=>by rw[hr] at hi;cases hi⟩
def bZ (P:Program) (ro:Option Nat) (n:Nat) (ops:Array Oper) (fuel:Nat) (listed:Array Bool) (ρ:Env) (h:au) (N:Env->au->Prop) (i:Nat):Prop :=
 ∃(o:Oper) (Φ:Value->au->Prop) (listed':Array Bool),nth ops.toList i=some o/\o.guard=none/\fU o=true/\ir n o.dst=true/\ax P o ρ h Φ (fun _ _=>False)/\listed.setIfInBounds i true=listed' /\
  ∀v h',Φ v h'->dh P ro n ops fuel listed' (ρ.put o.dst v) h' N
theorem bZ.mk {listed':Array Bool}{od:Option Nat}(ho:nth ops.toList i=some o) (hg:o.guard=none) (hnd:fU o=true) (hod:o.dst=od) (hd:ir n od=true) (hl:listed.setIfInBounds i true=listed') (k:ax P o ρ h Φ (fun _ _=>False))
 (next:∀v h',Φ v h'->dh P ro n ops fuel listed' (ρ.put od v) h' N):bZ P ro n ops fuel listed ρ h N i:=by
 subst hod;exact⟨o,Φ,listed',ho,hg,hnd,hd,k,hl,next⟩
theorem bZ.go (k:bZ P ro n ops fuel listed ρ h N i){m:Nat}{B:World}{a:Act}{w:World}(hf:Fits n ρ a) (ha:At B h w) :
 wpOpIn (FW ro) m P ops (fun e a' w'=>e= .normal/\∃ρ' h',Fits n ρ' a'/\At B h' w'/\N ρ' h') i (wpAnyIn (FW ro) m P .any ops (fun e a' w'=>e= .normal/\∃ρ' h',Fits n ρ' a'/\At B h' w'/\N ρ' h') fuel (listed.setIfInBounds i true)) a w:=by
 obtain⟨o,Φ,listed',ho',hg,hnd,hd,k,hl,next⟩:=k;subst hl;have ho:=dN ho';unfold wpOpIn;simp only[ho];have hw:Region.wanted o (yielded ops a.tmps)=true:=by unfold Region.wanted;rw[hg]
 rw[hw,if_pos rfl];exact k.OD (jC hnd) hf ha (fun v h' w' ha' hv=>next v h' hv m B _ w' (hf.put hd v) ha') (fun _ _ _ _ q=>q.elim)
theorem dh.one (i:Nat) (hr:Region.ready .any ops listed=[i]) (k:bZ P ro n ops fuel listed ρ h N i):dh P ro n ops (fuel+1) listed ρ h N :=
 fun _ _ _ _ hf ha=>⟨fun q=>(by rw[hr] at q;cases q),fun j hj=>by
  rw[hr] at hj;obtain rfl:j=i:=by simpa using hj
  exact k.go hf ha⟩
theorem fX (i j:Nat) (hr:Region.ready .any ops listed=[i,j]) (k1:bZ P ro n ops fuel listed ρ h N i) (k2:bZ P ro n ops fuel listed ρ h N j):dh P ro n ops (fuel+1) listed ρ h N :=
 fun _ _ _ _ hf ha=>⟨fun q=>(by rw[hr] at q;cases q),fun l hl=>by
  rw[hr] at hl
  rcases (show l=i\/l=j by simpa using hl) with rfl|rfl
  · exact k1.go hf ha
  · exact k2.go hf ha⟩
end
section
variable {P:Program}{ro:Option Nat}{n:Nat}{c0:Code}{p:List Nat}{ρ:Env}{h:au}{S:Exit->Env->au->Prop}
theorem GI.sub {c:Code}{ρ':Env}(hs:Sub ρ' ρ) (k:BI P ro n c ρ' h S):BI P ro n c ρ h S:=BI.sub hs k
theorem GI.skip (hk:kind (Lw.sub c0 p)=0) (k:S .normal ρ h):BI P ro n (Lw.sub c0 p) ρ h S:=by
 cases hc:Lw.sub c0 p<;>simp[hc,kind] at hk
 · exact BI.skip k
 · rename_i d;cases d<;>simp at hk
theorem GI.ret (hk:kind (Lw.sub c0 p)=4) (k:S .ret ρ h):BI P ro n (Lw.sub c0 p) ρ h S:=by
 cases hc:Lw.sub c0 p<;>simp[hc,kind] at hk
 · rename_i d;cases d<;>simp at hk
 · exact BI.ret k
theorem GI.exit {id:Nat}(hk:kind (Lw.sub c0 p)=8) (hid:Dh (Lw.sub c0 p)=id) (k:S (.exit id) ρ h):BI P ro n (Lw.sub c0 p) ρ h S:=by
 subst hid;cases hc:Lw.sub c0 p<;>simp[hc,kind] at hk
 · rename_i d;cases d<;>simp at hk
 · rw[hc] at k;exact BI.exit k
theorem GI.seq (hk:kind (Lw.sub c0 p)=1) (k:BI P ro n (Lw.sub c0 (0::p)) ρ h (Ky (fun ρ' h'=>BI P ro n (Lw.sub c0 (1::p)) ρ' h' S) S)):BI P ro n (Lw.sub c0 p) ρ h S:=by
 simp only[Lw.sub] at k;cases hc:Lw.sub c0 p<;>simp[hc,kind] at hk
 · rename_i d;cases d<;>simp at hk
 · rw[hc] at k;exact BI.seq k
theorem GI.block {id:Nat}(hk:kind (Lw.sub c0 p)=2) (hid:Dh (Lw.sub c0 p)=id) (k:BI P ro n (Lw.sub c0 (0::p)) ρ h (OT id S)):BI P ro n (Lw.sub c0 p) ρ h S:=by
 subst hid;simp only[Lw.sub] at k;cases hc:Lw.sub c0 p<;>simp[hc,kind] at hk
 · rename_i d;cases d<;>simp at hk
 · rw[hc] at k;exact BI.block k
theorem GI.cond {t:Bool}(hk:kind (Lw.sub c0 p)=7) (hc:bE ρ (oA (Lw.sub c0 p))=some (.bool t)) (ht:t=true->BI P ro n (Lw.sub c0 (0::p)) ρ h S) (hn:t=false->BI P ro n (Lw.sub c0 (1::p)) ρ h S):BI P ro n (Lw.sub c0 p) ρ h S:=by
 simp only[Lw.sub] at ht hn;cases hcc:Lw.sub c0 p<;>simp[hcc,kind] at hk
 · rename_i d;cases d<;>simp at hk
 · rw[hcc] at hc ht hn;exact BI.cond hc ht hn
theorem Hj {φ:Prop}[Decidable φ] (hk:kind (Lw.sub c0 p)=7) (hc:bE ρ (oA (Lw.sub c0 p))=some (.bool (decide φ))) (ht:φ->BI P ro n (Lw.sub c0 (0::p)) ρ h S) (hn:¬φ->BI P ro n (Lw.sub c0 (1::p)) ρ h S):BI P ro n (Lw.sub c0 p) ρ h S :=
 GI.cond hk hc (fun e=>ht (of_decide_eq_true e)) (fun e=>hn (of_decide_eq_false e))
theorem GI.bB {φ:Prop}(_:φ) (hk:kind (Lw.sub c0 p)=5) (k:bh P ro n (opsOf (Lw.sub c0 p)) 0 ρ h (fun ρ' h'=>S .normal ρ' h') (fun _ _=>False)):BI P ro n (Lw.sub c0 p) ρ h S:=by
 cases hc:Lw.sub c0 p<;>simp[hc,kind] at hk;rename_i id ops d;cases d<;>simp at hk;rw[hc] at k;exact BI.bB k
theorem nW {sz:Nat}{listed:Array Bool}(hm:P.follows .mixedOrders=true) (hk:kind (Lw.sub c0 p)=6) (hsz:(opsOf (Lw.sub c0 p)).size=sz) (hl:Array.replicate sz false=listed) (k:dh P ro n (opsOf (Lw.sub c0 p)) sz listed ρ h (fun ρ' h'=>S .normal ρ' h')):BI P ro n (Lw.sub c0 p) ρ h S:=by
 cases hc:Lw.sub c0 p<;>simp[hc,kind] at hk;rename_i id ops d;cases d with
 |false=>simp at hk
 |true=>rw[hc] at k hsz;exact IZ hm hsz hl k
theorem GI.loop {σ:Type}(E:σ->Env) (I:σ->au->Prop) (μ:σ->Nat) (s0:σ) (hk:kind (Lw.sub c0 p)=3) (hs:Sub (E s0) ρ) (h0:I s0 h)
 (round:∀s h,I s h->∀K:Env->au->Prop,(∀s' h' ρ',Sub (E s') ρ'->I s' h'->μ s' < μ s->K ρ' h')->BI P ro n (Lw.sub c0 (0::p)) (E s) h (Ky K S)):BI P ro n (Lw.sub c0 p) ρ h S:=by
 simp only[Lw.sub] at round;cases hc:Lw.sub c0 p<;>simp[hc,kind] at hk
 · rename_i d;cases d<;>simp at hk
 · rw[hc] at round;exact BI.loop E I μ s0 hs h0 fun s g hv=>round s g hv _ fun s' h' ρ' q1 q2 q3=>⟨s',q1,q2,q3⟩
end
theorem dn.NZ {l:Nat}(hl:cy h l r) (hst:r.state= .ready) (hsz:args.size=r.params.size)
 (ht:Fits n ρ { tmps:=(r.params.zip args).foldl (fun tmps (t,a)=>tmps.setIfInBounds t a) r.tmps,defers:=[] }) (ha:r.assign=ca) (hb:r.body=cb)
 (walk:BI P (some l) n (Lw.sub ca []) ρ h (Ky (fun ρ1 h1=>cy h1 l r/\BI P (some l) n (Lw.sub cb []) ρ1 (bW h1 l (.loop { r with state:=.busy }))
  (fun e ρ2 h2=>∃r2,cy h2 l r2/\match e with|.normal=>Φ (.bool true) (bW h2 l (.loop { r2 with state:=.ready,pending:=none }))|.ret=>Φ (.bool false) (bW h2 l (.loop { r2 with state:=.done,pending:=some .ret }))|_=>False)) (fun _ _ _=>False))) :
 dn P l args h (bC Φ):=by
 subst ha;subst hb;intro m B w ha;have hlw:w.heap[l]? =some (.loop r):=by rw[ha.heap];exact hl
 refine⟨_,_,_,_,run_yield hlw hsz,roundIn_of_wpIn trivial ?_⟩;refine wpIn_mono (walk.go m B _ w ht ha) ?_;rintro e a1 w1 ⟨ρ1,h1,hf1,hw1,hq⟩;cases e with
 |normal =>
  obtain⟨hl1,walk2⟩:=hq;have hlw1:w1.heap[l]? =some (.loop r):=by rw[hw1.heap];exact hl1
  refine⟨_,run_beginRound hlw1 hst,?_⟩;refine wpIn_mono (walk2.go m B a1 _ hf1 (hw1.bW l _)) ?_;rintro e a2 w2 ⟨ρ2,h2,hf2,hw2,r2,hl2,hq⟩;have hlw2:w2.heap[l]? =some (.loop r2):=by rw[hw2.heap];exact hl2
  cases e with
  |normal=>exact⟨_,_,run_endRound none hlw2,_,hw2.bW l _,_,rfl,hq⟩
  |ret=>exact⟨_,_,run_endRound (some .ret) hlw2,_,hw2.bW l _,_,rfl,hq⟩
  |_=>exact hq.elim
 |_=>exact hq.elim
theorem BI.mono {ro:Option Nat}{c:Code}{Q Q':Exit->Env->au->Prop}(k:BI P ro n c ρ h Q) (hq:∀e ρ' h',Q e ρ' h'->Q' e ρ' h'):BI P ro n c ρ h Q' :=
 ⟨fun m B a w hf ha=>wpIn_mono (k.go m B a w hf ha) fun _ _ _ ⟨ρ',h',f',a'',q⟩=>⟨ρ',h',f',a'',hq _ _ _ q⟩⟩
structure yd (L:Nat) (r:Loop) (J:au->Prop) (g:au):Prop where
 lp:cy g (L+1) r
 df:g[L]? =some (.deferred (some []))
 j:J g
abbrev qR (r:Loop):Loop:= { r with state:=.done,pending:=some .ret }
theorem yd.yield {L:Nat}{g:au}{J J' S:au->Prop}(k:yd L r J g) (hst:r.state= .ready) (hpn:r.pending=none) (hsz:args.size=r.params.size)
 (ht:Fits n ρ { tmps:=(r.params.zip args).foldl (fun tmps (t,a)=>tmps.setIfInBounds t a) r.tmps,defers:=[] }) (ha:r.assign=ca) (hb:r.body=cb)
 (hJ:∀g1 g2,J' g1->Ext (fun b=>b=L+1) g1 g2->J' g2) (hS:∀g1 g2,S g1->Ext (fun b=>b=L+1) g1 g2->S g2)
 (walk:BI P (some (L+1)) n (Lw.sub ca []) ρ g (Ky (fun ρ1 g1=>av g g1/\∀g3,Ext (fun b=>b=L+1) g1 g3->BI P (some (L+1)) n (Lw.sub cb []) ρ1 g3 (fun e _ g4=>(g4[L]? =g3[L]? /\g4[L+1]? =g3[L+1]?)/\(e= .normal/\J' g4\/e= .ret/\S g4))) (fun _ _ _=>False))) :
 dn P (L+1) args g (bC fun v h'=>∃go,v= .bool go/\(go=true->yd L r J' h')/\(go=false->yd L (qR r) S h')):=by
 refine dn.NZ k.lp hst hsz ht ha hb (walk.mono ?_);rintro e ρ1 g1 hq;cases e with
 |normal =>
  obtain⟨e1,w2⟩:=hq;have hlt:=k.lp.lt;have hz:=e1.size;have hx:Ext (fun b=>b=L+1) g1 (bW g1 (L+1) (.loop { r with state:=.busy })):=Ext.bW _ _ _ rfl;refine⟨k.lp.ext e1 (fun q=>q),(w2 _ hx).mono ?_⟩;rintro e ρ2 g4 ⟨⟨h4,h5⟩,hq⟩;have hl4:cy g4 (L+1) { r with state:=.busy }:=by rw[cy,h5];exact fI (by omega)
  have hd4:g4[L]? =some (.deferred (some [])):=by
   rw[h4,hx.block L (by omega) (by omega),e1.block L (by omega) (fun q=>q)];exact k.df
  refine⟨_,hl4,?_⟩;have hl4':=hl4.lt
  rcases hq with ⟨rfl,hj⟩|⟨rfl,hs⟩
  · have hr2:({ ({ r with state:=.busy }:Loop) with state:=.ready,pending:=none }:Loop)=r:=by cases r;simp at hst hpn;simp[hst,hpn]
    rw[hr2];have hy:Ext (fun b=>b=L+1) g4 (bW g4 (L+1) (.loop r)):=Ext.bW _ _ _ rfl;exact⟨true,rfl,fun _=>⟨fI hl4',(hy.block L (by omega) (by omega)).trans hd4,hJ _ _ hj hy⟩,fun q=>by cases q⟩
  · have hy:Ext (fun b=>b=L+1) g4 (bW g4 (L+1) (.loop { ({ r with state:=.busy }:Loop) with state:=.done,pending:=some .ret })):=Ext.bW _ _ _ rfl;exact⟨false,rfl,(fun q=>by cases q),fun _=>⟨fI hl4',(hy.block L (by omega) (by omega)).trans hd4,hS _ _ hs hy⟩⟩
 |_=>exact hq.elim
section
variable {P:Program}{f:FuncId}{fn:Func}{k:List It}{ρ:Env}{h:au}{R:Ending->au->Prop}{p:List Nat}
theorem G.Fv {g:Operand}{ps:Array Tmp}{assign body:Code}{f':FuncId}{fn':Func}{caps:Array Value}(J:au->Prop) (hk:Lw.sub (aG fn) p= .rangeFunc g ps assign body) (hg:bE ρ g=some (.func (.func f') #[] caps))
 (hfn':P.funcs[f']? =some fn') (hb':fn'.body.isSome=true) (hnm':(fn'.name == "runtime.NumGoroutine")=false)
 (hcall:∀fid tmps hL,Fits fn.ntmps ρ { tmps:=tmps,defers:=[] }->av h hL->yd h.size (ct fid tmps ps assign body h.size) (fun _=>True) hL->af P f' (#[.func (.yield (h.size+1)) #[] #[]]++caps) hL (bC fun _ h'=>yd h.size (ct fid tmps ps assign body h.size) J h'))
 (hend:∀g g1,J g->g[h.size]? =some (.deferred (some []))->h.size+1<g.size->Ext (fun b=>b=h.size+1) g g1->GD P (dD h.size) f fn k ρ g1 R):G P f fn (.code p::k) ρ h R:=by
 refine G.rangeFunc hk hg hfn' hb' hnm' fun fid tmps hf=>?_
 have e1:av h ((h.push (.deferred (some []))).push (.loop (ct fid tmps ps assign body h.size))):=(Ext.push _ _ _).trans (Ext.push _ _ _);have hz:(h.push (.deferred (some []))).size=h.size+1:=by simp
 refine(hcall fid tmps _ hf e1 ⟨by rw[cy,<-hz];exact Array.getElem?_push_size,?_,trivial⟩).ret ?_
 · rw[(Ext.push (fun _=>False) (h.push (.deferred (some []))) _).block h.size (by simp) (fun k=>k)];exact Array.getElem?_push_size
 · rintro _ h' ⟨hl,hd,hj⟩;exact⟨_,hl,by simp[ct],rfl,hend h' _ hj hd hl.lt (Ext.bW _ _ _ rfl)⟩
end
theorem dn.ret {l:Nat}{Φ':Value->au->Prop}(k:dn P l args h (bC Φ)) (hq:∀v h',Φ v h'->Φ' v h'):dn P l args h (bC Φ'):=by
 intro m B w ha;obtain⟨fn,tmps,assign,body,hy,hR⟩:=k m B w ha;exact⟨fn,tmps,assign,body,hy,hR.mono fun e w' ⟨h',ha',v,he,hp⟩=>⟨h',ha',v,he,hq _ _ hp⟩⟩
theorem yd.EZ {L:Nat}{g:au}{J J':au->Prop}(k:yd L r J g) (hst:r.state= .ready) (hpn:r.pending=none) (hsz:args.size=r.params.size)
 (ht:Fits n ρ { tmps:=(r.params.zip args).foldl (fun tmps (t,a)=>tmps.setIfInBounds t a) r.tmps,defers:=[] }) (ha:r.assign=ca) (hb:r.body=cb) (hJ:∀g1 g2,J' g1->Ext (fun b=>b=L+1) g1 g2->J' g2)
 (walk:BI P (some (L+1)) n (Lw.sub ca []) ρ g (Ky (fun ρ1 g1=>av g g1/\∀g3,Ext (fun b=>b=L+1) g1 g3->BI P (some (L+1)) n (Lw.sub cb []) ρ1 g3 (fun e _ g4=>e= .normal/\(g4[L]? =g3[L]? /\g4[L+1]? =g3[L+1]?)/\J' g4)) (fun _ _ _=>False))) :
 dn P (L+1) args g (bC fun v h'=>v= .bool true/\yd L r J' h'):=by
 refine(k.yield (S:=fun _=>False) hst hpn hsz ht ha hb hJ (fun _ _ q _=>q) (walk.mono fun e ρ1 g1 q=>?_)).ret fun v h' ⟨go,hv,h1,h2⟩=>?_
 · cases e with
   |normal=>exact⟨q.1,fun g3 x=>(q.2 g3 x).mono fun e ρ2 g4 q=>⟨q.2.1,.inl ⟨q.1,q.2.2⟩⟩⟩
   |_=>exact q.elim
 · cases go with
   |true=>exact⟨hv,h1 rfl⟩
   |false=>exact(h2 rfl).j.elim
theorem sH {tmps:Array Value}{p1:Nat}{v1:Value}(hf:Fits n ρ { tmps:=tmps,defers:=[] }) (h1:Nat.blt p1 n=true) :
 Fits n ((p1,v1)::ρ) { tmps:=((#[p1]:Array Nat).zip #[v1]).foldl (fun tmps (t,a)=>tmps.setIfInBounds t a) tmps,defers:=[] }:=by
 have:=hf.put (dst:=some p1) h1 v1;simpa [Act.put,Env.put] using this
section
variable {P:Program}{ro:Option Nat}{n:Nat}{ops:Array Oper}{i:Nat}{ρ:Env}{h:au}{N:Env->au->Prop}{X:List PanicEntry->au->Prop}
theorem bh.O0 (ho':nth ops.toList i=some o) (hw:bL ops ρ o=some true) (hnd:fU o=true) (hod:o.dst=some d) (hd:Nat.blt d n=true) (k:ax P o ρ h Φ X)
 (next:∀v h',Φ v h'->bh P ro n ops (i+1) ((d,v)::ρ) h' N X):bh P ro n ops i ρ h N X:=by
 have ho:=dN ho';intro m B a w hf ha Q hN hX;rw[eP (fK ho)];simp only[wpOpsIn,ho];rw[cN hf hw,if_pos rfl];refine k.OD (jC hnd) hf ha (fun v h' w' ha' hv=>?_) (fun ch h' w' ha' hx=>hX ch h' a w' hf.nd ha' hx);rw[hod];exact next v h' hv m B _ w' (hf.put (dst:=some d) hd v) ha' Q hN hX
theorem bh.o6 {v:Value}(ho:nth ops.toList i=some o) (hw:bL ops ρ o=some true) (hnd:fU o=true) (hod:o.dst=some d) (hd:Nat.blt d n=true) (k:ai P o ρ h v)
 (next:bh P ro n ops (i+1) ((d,v)::ρ) h N X):bh P ro n ops i ρ h N X:=bh.O0 ho hw hnd hod hd k.aX (fun _ _ ⟨hv,hh⟩=>by subst hv;subst hh;exact next)
theorem bh.bD (ho':nth ops.toList i=some o) (hw:bL ops ρ o=some false) (hod:o.dst=some d) (hd:Nat.blt d n=true)
 (next:bh P ro n ops (i+1) ((d,undef)::ρ) h N X):bh P ro n ops i ρ h N X:=by
 have ho:=dN ho';intro m B a w hf ha Q hN hX;rw[eP (fK ho)];simp only[wpOpsIn,ho];rw[cN hf hw,if_neg (by simp)];rw[hod];exact⟨fun _ _=>trivial,next m B _ w (hf.put (dst:=some d) hd _) ha Q hN hX⟩
theorem bh.b7 {b b':Bool}(hb:ρ.at d=some (.bool b)) (e:b=b') (next:bh P ro n ops i ((d,.bool b')::ρ) h N X):bh P ro n ops i ρ h N X:=by
 subst e;refine fun m B a w hf ha=>next m B a w ⟨hf.size,fun j v hv=>?_,hf.nd⟩ ha
 rw[Env.iK] at hv;split at hv
 · rename_i e;subst e;cases hv;exact hf.ok d _ hb
 · exact hf.ok j v hv
end
section
variable {P:Program}{f:FuncId}{fn:Func}{k:List It}{ρ:Env}{h:au}{R:Ending->au->Prop}{p:List Nat}
theorem G.Kv {g:Operand}{ps:Array Tmp}{assign body:Code}{f':FuncId}{fn':Func}{caps:Array Value}(J S:au->Prop) (hfn:P.funcs[f]? =some fn) (hk:Lw.sub (aG fn) p= .rangeFunc g ps assign body) (hg:bE ρ g=some (.func (.func f') #[] caps))
 (hfn':P.funcs[f']? =some fn') (hb':fn'.body.isSome=true) (hnm':(fn'.name == "runtime.NumGoroutine")=false)
 (hcall:∀fid tmps hL,Fits fn.ntmps ρ { tmps:=tmps,defers:=[] }->av h hL->yd h.size (ct fid tmps ps assign body h.size) (fun _=>True) hL->af P f' (#[.func (.yield (h.size+1)) #[] #[]]++caps) hL (bC fun _ h'=>yd h.size (ct fid tmps ps assign body h.size) J h'\/yd h.size (qR (ct fid tmps ps assign body h.size)) S h'))
 (hend:∀g g1,J g->g[h.size]? =some (.deferred (some []))->h.size+1<g.size->Ext (fun b=>b=h.size+1) g g1->GD P (dD h.size) f fn k ρ g1 R)
 (hret:∀g g1,S g->h.size+1<g.size->Ext (fun b=>b=h.size\/b=h.size+1) g g1->∃vs,iZ P ρ g1 fn.results.toList vs/\R (.returned (packed vs)) g1):G P f fn (.code p::k) ρ h R:=by
 refine G.DR hfn hk hg hfn' hb' hnm' fun fid tmps hf=>?_
 have e1:av h ((h.push (.deferred (some []))).push (.loop (ct fid tmps ps assign body h.size))):=(Ext.push _ _ _).trans (Ext.push _ _ _);have hz:(h.push (.deferred (some []))).size=h.size+1:=by simp
 refine(hcall fid tmps _ hf e1 ⟨by rw[cy,<-hz];exact Array.getElem?_push_size,?_,trivial⟩).ret ?_
 · rw[(Ext.push (fun _=>False) (h.push (.deferred (some []))) _).block h.size (by simp) (fun k=>k)];exact Array.getElem?_push_size
 · rintro _ h' (⟨hl,hd,hj⟩|⟨hl,hd,hs⟩)
   · exact⟨_,hl,by simp[ct],.inl ⟨rfl,hend h' _ hj hd hl.lt (Ext.bW _ _ _ rfl)⟩⟩
   · exact⟨_,hl,by simp[ct],.inr ⟨rfl,hd,hret h' _ hs hl.lt ((Ext.bW _ _ _ (.inr rfl)).trans (Ext.bW _ _ _ (.inl rfl)))⟩⟩
end
theorem vG {ro:Option Nat}{X:List PanicEntry->au->Prop}{b:Bool}(hb:ρ.at d=some (.bool b)) (ht:b=true->bh P ro n ops i ((d,.bool true)::ρ) h N X) (hn:b=false->bh P ro n ops i ((d,.bool false)::ρ) h N X):bh P ro n ops i ρ h N X:=by
 cases b with
 |true=>exact bh.b7 hb rfl (ht rfl)
 |false=>exact bh.b7 hb rfl (hn rfl)
end
end Go.Lw
namespace Go.Proofs.YtdihgdeciopfpaaGreatDoor
section
variable {k i n to st:Nat}{fin:Nat->Prop}{todo:List Nat}
abbrev By:=List UInt8
inductive Nd where
 |mk (kind:Nat) (set:Nat) (kids:List Nd)
def Nd.kind:Nd->Nat|.mk k _ _=>k
def Nd.set:Nd->Nat|.mk _ s _=>s
def Nd.kids:Nd->List Nd|.mk _ _ l=>l
def G2:Nat:=2 ^ 256-1
def uN (s a:Nat):Nat->Nat
 | 0=>s
 |n+1=>uN (s |||(1 <<< a)) (a+1) n
def lZ (s:Nat) (a b:UInt8):Nat:=uN s a.toNat (b.toNat+1-a.toNat)
def kR (s:Nat):Nat:=G2 ^^^ s
def xL (b:UInt8):Nd:=.mk 1 (lZ 0 b b) []
def JU:Nd:=.mk 1 (lZ (lZ 0 0 9) 11 255) []
def lM:Nd:=.mk 0 0 []
def eD:By:=[40,41,91,93,124,42,43,63,46,92,45,94]
def jG (b:UInt8):Option Nat :=
 if 48<=b.toNat/\b.toNat<=57 then some (b.toNat-48) else if 97<=b.toNat/\b.toNat<=102 then some (b.toNat-87) else if 65<=b.toNat/\b.toNat<=70 then some (b.toNat-55) else none
def nL:By->Option (UInt8×By)
 | []=>none
 |b::r =>
  if b=110 then some (10,r) else if b=116 then some (9,r) else if b=114 then some (13,r)
  else if b=120 then
   match r with
   |x::y::r=>match jG x,jG y with
    |some m,some n=>some (UInt8.ofNat (m*16+n),r)
    |_,_=>none
   |_=>none
  else if b∈eD then some (b,r) else none
def mE:By->Option (UInt8×By)
 | []=>none
 |b::r=>if b=92 then nL r else if b∈eD then none else some (b,r)
def dO (s:By):Option ((UInt8×UInt8)×By) :=
 match mE s with
 |none=>none
 |some (a,r)=>match r with
  | 45::r'=>match mE r' with
   |none=>none
   |some (b,r'')=>if b.toNat<a.toNat then none else some ((a,b),r'')
  |_=>some ((a,a),r)
def jV:Nat->Nat->By->Option (Nat×By)
 | 0,_,_=>none
 |n+1,acc,s=>match dO s with
  |none=>none
  |some ((a,b),r)=>match r with
   | 93::r'=>some (lZ acc a b,r')
   |_=>jV n (lZ acc a b) r
def gm (s:By):Option (Nd×By) :=
 match s with
 | 94::r=>(jV (r.length+1) 0 r).map fun p=>(.mk 1 (kR p.1) [],p.2)
 |_=>(jV (s.length+1) 0 s).map fun p=>(.mk 1 p.1 [],p.2)
def ei (rows:By->Option (Nd×By)):By->Option (Nd×By)
 | []=>none
 |c::r =>
  if c=40 then
   match rows r with
   |none=>none
   |some (n,r')=>match r' with
    | 41::r''=>some (n,r'')
    |_=>none
  else if c=91 then gm r
  else if c=46 then some (JU,r)
  else if c=92 then (nL r).map fun p=>(xL p.1,p.2)
  else if c∈[(41:UInt8),93,124,42,43,63] then none
  else some (xL c,r)
def cP (c:UInt8):Nat:=if c=42 then 4 else if c=43 then 5 else if c=63 then 6 else 0
def dL (n:Nd):By->Nd×By
 | []=>(n,[])
 |c::r=>if cP c=0 then (n,c::r) else dL (.mk (cP c) 0 [n]) r
def eS (rows:By->Option (Nd×By)) (s:By):Option (Nd×By) :=
 (ei rows s).map fun p=>dL p.1 p.2
def b9 (kind:Nat):List Nd->Nd
 | []=>lM
 | [n]=>n
 |l=>.mk kind 0 l
def iQ:By->Bool
 | []=>true
 |c::_=>c ==124 ||c ==41
def kP (rows:By->Option (Nd×By)):Nat->By->Option (List Nd×By)
 | 0,_=>none
 |n+1,s=>if iQ s then some ([],s) else
  match eS rows s with
  |none=>none
  |some (x,r)=>(kP rows n r).map fun p=>(x::p.1,p.2)
def gE (rows:By->Option (Nd×By)):Nat->List Nd->List Nd->By->Option (Nd×By)
 | 0,_,_,_=>none
 |n+1,all,row,s=>if iQ s then
  if s.head? =some 124 then gE rows n (all++[b9 2 row]) [] s.tail
  else some (b9 3 (all++[b9 2 row]),s)
  else match eS rows s with
   |none=>none
   |some (x,r)=>gE rows n all (row++[x]) r
def dc:Nat->By->Option (Nd×By)
 | 0,_=>none
 |d+1,s=>gE (dc d) (s.length+1) [] [] s
def iS (s:By):Option Nd :=
 match dc (s.length+1) s with
 |some (n,[])=>some n
 |_=>none
theorem sQ {s:By}{b:UInt8}{r:By}(h:nL s=some (b,r)):r.length<s.length:=by
 unfold nL at h;split at h
 · cases h
 · rename_i c t;split at h
   · cases h;simp
   · split at h
     · cases h;simp
     · split at h
       · cases h;simp
       · split at h
         · split at h
           · split at h
             · cases h;simp only[List.length_cons];omega
             · cases h
           · cases h
         · split at h
           · cases h;simp
           · cases h
theorem nD {s:By}{b:UInt8}{r:By}(h:mE s=some (b,r)):r.length<s.length:=by
 unfold mE at h;split at h
 · cases h
 · split at h
   · have:=sQ h;simp only[List.length_cons];omega
   · split at h
     · cases h
     · cases h;simp
theorem kW {s:By}{p:UInt8×UInt8}{r:By}(h:dO s=some (p,r)):r.length<s.length:=by
 unfold dO at h;split at h
 · cases h
 · rename_i a t ha;have h1:=nD ha;split at h
   · rename_i t';split at h
     · cases h
     · rename_i b t'' hb;have h2:=nD hb;split at h
       · cases h
       · cases h;simp only[List.length_cons] at h1;omega
   · cases h;exact h1
theorem oe:∀(n acc:Nat){s:By}{m:Nat}{r:By},jV n acc s=some (m,r)->r.length<s.length
 | 0,_,s,m,r,h=>by cases h
 |n+1,acc,s,m,r,h=>by
  rw[jV] at h;split at h
  · cases h
  · rename_i a b t ht;have h1:=kW ht;split at h
    · cases h;simp only[List.length_cons] at h1;omega
    · have:=oe n _ h;omega
theorem nQ {s:By}{x:Nd}{r:By}(h:gm s=some (x,r)):r.length<s.length:=by
 unfold gm at h;split at h
 · rename_i t;simp only[Option.map_eq_some_iff] at h;obtain⟨⟨m,r'⟩,h1,h2⟩:=h;cases h2;have:=oe _ _ h1;simp only[List.length_cons];omega
 · simp only[Option.map_eq_some_iff] at h;obtain⟨⟨m,r'⟩,h1,h2⟩:=h;cases h2;exact oe _ _ h1
theorem vz {rows:By->Option (Nd×By)}(hr:∀{s x r},rows s=some (x,r)->r.length<=s.length){s:By}{x:Nd}{r:By}(h:ei rows s=some (x,r)):r.length<s.length:=by
 unfold ei at h;split at h
 · cases h
 · rename_i c t;simp only[List.length_cons];split at h
   · split at h
     · cases h
     · rename_i n t' ht;have:=hr ht;split at h
       · rename_i t'' _;cases h;simp only[List.length_cons] at this;omega
       · cases h
   · split at h
     · have:=nQ h;omega
     · split at h
       · cases h;omega
       · split at h
         · simp only[Option.map_eq_some_iff] at h;obtain⟨⟨b,r'⟩,h1,h2⟩:=h;cases h2;have:=sQ h1;dsimp only;omega
         · split at h
           · cases h
           · cases h;omega
theorem qY:∀(s:By) (n:Nd),(dL n s).2.length<=s.length
 | [],n=>by simp[dL]
 |c::r,n=>by
  rw[dL];split
  · simp
  · have:=qY r (.mk (cP c) 0 [n]);simp only[List.length_cons];omega
theorem eR {rows:By->Option (Nd×By)}(hr:∀{s x r},rows s=some (x,r)->r.length<=s.length){s:By}{x:Nd}{r:By}(h:eS rows s=some (x,r)):r.length<s.length:=by
 unfold eS at h;simp only[Option.map_eq_some_iff] at h;obtain⟨⟨n,t⟩,h1,h2⟩:=h;have h3:=vz hr h1;have h4:=qY t n;rw[h2] at h4;simp only at h4;omega
theorem oo {rows:By->Option (Nd×By)}(hr:∀{s x r},rows s=some (x,r)->r.length<=s.length):∀(n:Nat) (all row:List Nd){s:By}{x:Nd}{r:By},gE rows n all row s=some (x,r)->r.length<=s.length/\(r=[]\/r.head? =some 41)
 | 0,_,_,s,x,r,h=>by cases h
 |n+1,all,row,s,x,r,h=>by
  rw[gE] at h;split at h
  · rename_i he;split at h
    · have:=oo hr n _ _ h;exact⟨by have h2:=this.1;simp only[List.length_tail] at h2;omega,this.2⟩
    · rename_i hn;cases h;refine⟨Nat.le_refl _,?_⟩;cases s with
      |nil=>exact .inl rfl
      |cons c t =>
       right
       unfold iQ at he;have h1:c≠124:=fun e=>hn (by rw[e];rfl)
       simp[h1] at he;simp[he]
  · split at h
    · cases h
    · rename_i y t ht;have h1:=eR hr ht;have h2:=oo hr n _ _ h;exact⟨by omega,h2.2⟩
theorem jj:∀(d:Nat){s:By}{x:Nd}{r:By},dc d s=some (x,r)->r.length<=s.length
 | 0,s,x,r,h=>by cases h
 |d+1,s,x,r,h=>(oo (fun h=>jj d h) _ _ _ h).1
theorem yQ {rows:By->Option (Nd×By)}(hr:∀{s x r},rows s=some (x,r)->r.length<=s.length):∀(n:Nat){s:By}{l:List Nd}{r:By},kP rows n s=some (l,r)->r.length<=s.length/\iQ r=true/\l.length<=s.length
 | 0,s,l,r,h=>by cases h
 |n+1,s,l,r,h=>by
  rw[kP] at h;split at h
  · rename_i he;cases h;exact⟨Nat.le_refl _,he,Nat.zero_le _⟩
  · split at h
    · cases h
    · rename_i y t ht;have h1:=eR hr ht;simp only[Option.map_eq_some_iff] at h;obtain⟨⟨m,r'⟩,h2,h3⟩:=h;cases h3;have h4:=yQ hr n h2;have h5:=h4.1;have h6:=h4.2.2;exact⟨by first|omega|(dsimp only;omega),h4.2.1,by simp only[List.length_cons];first|omega|(dsimp only at h6;omega)⟩
theorem rz {rows:By->Option (Nd×By)}(hr:∀{s x r},rows s=some (x,r)->r.length<=s.length):∀(k:Nat) (n m:Nat) (all row:List Nd) (s:By),s.length<=k->s.length<n->s.length<m->gE rows n all row s=gE rows m all row s:=by
 intro k
 induction k with
 |zero =>
  intro n m all row s hk hn hm;cases n with
  |zero=>omega
  |succ n =>
   cases m with
   |zero=>omega
   |succ m =>
    have:s=[]:=List.eq_nil_of_length_eq_zero (by omega);subst this;rfl
 |succ k ih =>
  intro n m all row s hk hn hm;cases n with
  |zero=>omega
  |succ n =>
   cases m with
   |zero=>omega
   |succ m =>
    rw[gE,gE];split
    · split
      · rename_i h1;have h2:s.tail.length+1=s.length:=by cases s with|nil=>cases h1|cons a b=>simp
        exact ih _ _ _ _ _ (by omega) (by omega) (by omega)
      · rfl
    · cases hp:eS rows s with
      |none=>rfl
      |some p =>
       obtain⟨y,t⟩:=p;have:=eR hr hp;exact ih _ _ _ _ _ (by omega) (by omega) (by omega)
theorem uU {rows:By->Option (Nd×By)}(hr:∀{s x r},rows s=some (x,r)->r.length<=s.length):∀(n m:Nat) (s:By),s.length<n->s.length<m->kP rows n s=kP rows m s
 | 0,_,_,h,_=>by omega
 |_,0,_,_,h=>by omega
 |n+1,m+1,s,hn,hm=>by
  rw[kP,kP];split
  · rfl
  · cases hp:eS rows s with
    |none=>rfl
    |some p =>
     obtain⟨y,t⟩:=p;have:=eR hr hp;simp only;rw[uU hr n m t (by omega) (by omega)]
def wo (rows:By->Option (Nd×By)) (s:By):Option (Nd×By):=(kP rows (s.length+1) s).map fun p=>(b9 2 p.1,p.2)
def pS (rows:By->Option (Nd×By)) (all:List Nd) (m:By):Option (Nd×By) :=
 if m.head? =some 124 then gE rows (m.tail.length+1) all [] m.tail else some (b9 3 all,m)
theorem DM {rows:By->Option (Nd×By)}(hr:∀{s x r},rows s=some (x,r)->r.length<=s.length):∀(n m:Nat) (all row:List Nd) (s:By),s.length<n->s.length<m ->
 gE rows n all row s=match kP rows m s with
  |none=>none
  |some (l,r)=>if r.head? =some 124 then gE rows (r.length+1) (all++[b9 2 (row++l)]) [] r.tail else some (b9 3 (all++[b9 2 (row++l)]),r):=by
 have fuel:=fun k=>@rz rows hr k
 intro n
 induction n with
 |zero=>intro m all row s h;omega
 |succ n ih =>
  intro m all row s hn hm;cases m with
  |zero=>omega
  |succ m =>
   rw[gE,kP]
   by_cases he:iQ s=true
   · rw[if_pos he,if_pos he];simp only[List.append_nil];split
     · rename_i h1;have h2:s.tail.length+1=s.length:=by cases s with|nil=>cases h1|cons a b=>simp
       exact fuel _ _ _ _ _ _ (Nat.le_refl _) (by omega) (by omega)
     · rfl
   · rw[if_neg he,if_neg he];cases hp:eS rows s with
     |none=>rfl
     |some p =>
      obtain⟨y,t⟩:=p;have hlt:=eR hr hp;simp only;rw[ih m all (row++[y]) t (by omega) (by omega)];cases hl:kP rows m t with
      |none=>rfl
      |some q =>
       obtain⟨l,r⟩:=q;simp only[Option.map_some,List.append_assoc,List.singleton_append]
theorem rA {rows:By->Option (Nd×By)}(hr:∀{s x r},rows s=some (x,r)->r.length<=s.length) (all:List Nd) (s:By) :
 gE rows (s.length+1) all [] s=match wo rows s with|none=>none|some (x,r)=>pS rows (all++[x]) r:=by
 rw[DM hr _ (s.length+1) _ _ _ (Nat.lt_succ_self _) (Nat.lt_succ_self _)];unfold wo;cases hl:kP rows (s.length+1) s with
 |none=>rfl
 |some q =>
  obtain⟨l,r⟩:=q;simp only[Option.map_some,List.nil_append,pS];split
  · exact rz hr r.length _ _ _ _ _ (by simp) (by simp;omega) (by omega)
  · rfl
theorem yP {rows:By->Option (Nd×By)}(hr:∀{s x r},rows s=some (x,r)->r.length<=s.length){s:By}{x:Nd}{r:By}(h:wo rows s=some (x,r)):r.length<=s.length:=by
 unfold wo at h;simp only[Option.map_eq_some_iff] at h;obtain⟨⟨l,r'⟩,h1,h2⟩:=h;cases h2;exact(yQ hr _ h1).1
def bR (s:By):Nd×Int:=if 200<s.length then (lM,3) else match iS s with|some x=>(x,0)|none=>(lM,10)
structure bM where
 kind:Nat
 set:Nat
 to:List Nat
 rule:Nat
end
mutual
def lay:Nd->List bM->Nat->List bM×Nat
 |.mk k s kids,ss,to =>
  if k=1 then (ss++[⟨1,s,[to],0⟩],ss.length)
  else if k=2 then bJ kids ss to
  else if k=3 then ((bq kids ss to).1++[⟨0,0,(bq kids ss to).2,0⟩],(bq kids ss to).1.length)
  else if k=6 then ((b8 kids ss to).1++[⟨0,0,[(b8 kids ss to).2,to],0⟩],(b8 kids ss to).1.length)
  else if k=4\/k=5 then
   ((b8 kids (ss++[⟨0,0,[],0⟩]) ss.length).1.set ss.length ⟨0,0,[(b8 kids (ss++[⟨0,0,[],0⟩]) ss.length).2,to],0⟩,
    if k=5 then (b8 kids (ss++[⟨0,0,[],0⟩]) ss.length).2 else ss.length)
  else (ss,to)
def bJ:List Nd->List bM->Nat->List bM×Nat
 | [],ss,to=>(ss,to)
 |x::r,ss,to=>lay x (bJ r ss to).1 (bJ r ss to).2
def bq:List Nd->List bM->Nat->List bM×List Nat
 | [],ss,_=>(ss,[])
 |x::r,ss,to=>((bq r (lay x ss to).1 to).1,(lay x ss to).2::(bq r (lay x ss to).1 to).2)
def b8:List Nd->List bM->Nat->List bM×Nat
 | [],ss,to=>(ss,to)
 |x::_,ss,to=>lay x ss to
end
mutual
def lP:Nd->Nat
 |.mk _ _ kids=>fm kids+1
def fm:List Nd->Nat
 | []=>0
 |x::r=>lP x+fm r
end
mutual
def qB:Nd->Bool
 |.mk k _ kids=>(!(k ==4 ||k ==5 ||k ==6) ||kids.length ==1) && qC kids
def qC:List Nd->Bool
 | []=>true
 |x::r=>qB x && qC r
end
section
variable {k i n to st:Nat}{fin:Nat->Prop}{todo:List Nat}
theorem CJ (x:Nd):0<lP x:=by cases x;simp[lP]
theorem fG:∀(l m:List Nd),fm (l++m)=fm l+fm m
 | [],m=>by simp[fm]
 |x::l,m=>by simp only[List.cons_append,fm];rw[fG l m];omega
theorem jw:∀(l m:List Nd),qC (l++m)=(qC l && qC m)
 | [],m=>by simp[qC]
 |x::l,m=>by simp only[List.cons_append,qC];rw[jw l m,Bool.and_assoc]
theorem vK:∀{l:List Nd}{i:Nat}{x:Nd},qC l=true->l[i]? =some x->qB x=true
 | [],i,x,_,h=>by simp at h
 |y::l,0,x,hw,h=>by simp at h;subst h;simp only[qC,Bool.and_eq_true] at hw;exact hw.1
 |y::l,i+1,x,hw,h=>by simp only[qC,Bool.and_eq_true] at hw;exact vK hw.2 (by simpa using h)
end
mutual
theorem eG:∀(x:Nd) (ss:List bM) (to:Nat),ss.length<=(lay x ss to).1.length/\(lay x ss to).1.length<=ss.length+lP x
 |.mk k s kids,ss,to=>by
  rw[lay];simp only[lP];split
  · simp
  · split
    · have:=ig kids ss to;omega
    · split
      · have:=dX kids ss to;simp only[List.length_append,List.length_singleton];omega
      · split
        · have:=eU kids ss to;simp only[List.length_append,List.length_singleton];omega
        · split
          · have:=eU kids (ss++[⟨0,0,[],0⟩]) ss.length;simp only[List.length_append,List.length_singleton] at this;simp only[List.length_set];omega
          · simp
theorem ig:∀(l:List Nd) (ss:List bM) (to:Nat),ss.length<=(bJ l ss to).1.length/\(bJ l ss to).1.length<=ss.length+fm l
 | [],ss,to=>by simp[bJ,fm]
 |x::r,ss,to=>by
  rw[bJ];have h1:=ig r ss to;have h2:=eG x (bJ r ss to).1 (bJ r ss to).2;simp only[fm];omega
theorem dX:∀(l:List Nd) (ss:List bM) (to:Nat),ss.length<=(bq l ss to).1.length/\(bq l ss to).1.length<=ss.length+fm l
 | [],ss,to=>by simp[bq,fm]
 |x::r,ss,to=>by
  rw[bq];have h1:=eG x ss to;have h2:=dX r (lay x ss to).1 to;simp only[fm];omega
theorem eU:∀(l:List Nd) (ss:List bM) (to:Nat),ss.length<=(b8 l ss to).1.length/\(b8 l ss to).1.length<=ss.length+fm l
 | [],ss,to=>by simp[b8,fm]
 |x::r,ss,to=>by
  rw[b8];have h1:=eG x ss to;simp only[fm];omega
end
section
variable {k i n to st:Nat}{fin:Nat->Prop}{todo:List Nat}
def Small (s:By) (p:Option (Nd×By)):Prop:=∀x r,p=some (x,r)->lP x+2*r.length<=2*s.length+1/\qB x=true
theorem vV (k:Nat) (l:List Nd):lP (b9 k l)<=fm l+1:=by
 unfold b9;split
 · simp[lM,lP,fm]
 · simp[fm]
 · simp[lP]
theorem vJ {l:List Nd}(hk:k=2\/k=3) (h:qC l=true):qB (b9 k l)=true:=by
 unfold b9;split
 · rfl
 · simp only[qC,Bool.and_eq_true] at h;exact h.1
 · simp only[qB,h,Bool.and_true];rcases hk with rfl|rfl<;>rfl
theorem oX:∀(s:By) (n:Nd),qB n=true->lP (dL n s).1+2*(dL n s).2.length<=lP n+2*s.length/\qB (dL n s).1=true
 | [],n,hw=>by simp[dL,hw]
 |c::r,n,hw=>by
  rw[dL];split
  · simp[hw]
  · rename_i hs;have hw':qB (.mk (cP c) 0 [n])=true:=by simp[qB,qC,hw]
    have h:=oX r (.mk (cP c) 0 [n]) hw';refine⟨?_,h.2⟩;have h1:=h.1;simp only[lP,fm,List.length_cons] at h1 ⊢;omega
theorem yX {rows:By->Option (Nd×By)}(hr:∀s,Small s (rows s)){s:By}{x:Nd}{r:By}(h:eS rows s=some (x,r)):lP x+2*r.length+1<=2*s.length/\qB x=true:=by
 have leaf:∀k st,(k=0\/k=1)->qB (.mk k st [])=true:=fun k st hk=>by rcases hk with rfl|rfl<;>rfl
 have key:∀y t,ei rows s=some (y,t)->lP y+2*t.length+1<=2*s.length/\qB y=true:=by
  intro y t ha;have hlen:∀(k st:Nat),y= .mk k st []->t.length<s.length->lP y+2*t.length+1<=2*s.length:=fun k st hy ht=>by subst hy;simp only[lP,fm];omega
  unfold ei at ha;split at ha
  · cases ha
  · rename_i c u;split at ha
    · split at ha
      · cases ha
      · rename_i n t' ht;split at ha
        · rename_i t'' _;cases ha;have:=hr _ _ _ ht;simp only[List.length_cons] at this ⊢;exact⟨by omega,this.2⟩
        · cases ha
    · split at ha
      · have hb:=nQ ha
        have hy:∃st,y= .mk 1 st []:=by
         unfold gm at ha;split at ha<;>(simp only[Option.map_eq_some_iff] at ha;obtain⟨⟨m,r'⟩,_,h2⟩:=ha;cases h2;exact⟨_,rfl⟩)
        obtain⟨st,rfl⟩:=hy;exact⟨hlen _ _ rfl (by simp only[List.length_cons];omega),leaf _ _ (.inr rfl)⟩
      · split at ha
        · cases ha;exact⟨hlen _ _ rfl (by simp),leaf _ _ (.inr rfl)⟩
        · split at ha
          · simp only[Option.map_eq_some_iff] at ha;obtain⟨⟨b,r'⟩,h1,h2⟩:=ha;have:=sQ h1;cases h2;exact⟨hlen _ _ rfl (by simp only[List.length_cons];omega),leaf _ _ (.inr rfl)⟩
          · split at ha
            · cases ha
            · cases ha;exact⟨hlen _ _ rfl (by simp),leaf _ _ (.inr rfl)⟩
 unfold eS at h;simp only[Option.map_eq_some_iff] at h;obtain⟨⟨n,t⟩,h1,h2⟩:=h;have h3:=key n t h1;have h4:=oX t n h3.2;rw[h2] at h4;simp only at h4;exact⟨by omega,h4.2⟩
theorem kO {rows:By->Option (Nd×By)}(hr:∀s,Small s (rows s)):∀(n:Nat) (all row:List Nd) (s:By) (x:Nd) (r:By),qC all=true->qC row=true->gE rows n all row s=some (x,r) ->
 lP x+2*r.length<=2*s.length+1+fm all+fm row+(if all=[] then 0 else 1)/\qB x=true
 | 0,_,_,_,_,_,_,_,h=>by cases h
 |n+1,all,row,s,x,r,hwa,hwr,h=>by
  rw[gE] at h;split at h
  · split at h
    · rename_i hbar;have hs:s.tail.length+1=s.length:=by cases s with|nil=>cases hbar|cons a b=>simp
      have hw':qC (all++[b9 2 row])=true:=by rw[jw,hwa];simp[qC,vJ (.inl rfl) hwr]
      have ih:=kO hr n _ _ _ _ _ hw' (by rfl) h;have hj:=vV 2 row;have ha:fm (all++[b9 2 row])=fm all+lP (b9 2 row):=by rw[fG];simp[fm]
      rw[ha] at ih;refine⟨?_,ih.2⟩;have h1:=ih.1;rw[if_neg (by simp)] at h1;simp only[fm] at h1;omega
    · cases h;have hj:=vV 2 row;have hj3:=vV 3 (all++[b9 2 row]);have ha:fm (all++[b9 2 row])=fm all+lP (b9 2 row):=by rw[fG];simp[fm]
      refine⟨?_,vJ (.inr rfl) (by rw[jw,hwa];simp[qC,vJ (.inl rfl) hwr])⟩;split
      · rename_i he;subst he;have:b9 3 ([]++[b9 2 row])=b9 2 row:=rfl;rw[this];simp only[fm] at *;omega
      · rw[ha] at hj3;omega
  · split at h
    · cases h
    · rename_i y t ht;have h1:=yX hr ht;have ih:=kO hr n all (row++[y]) t x r hwa (by rw[jw,hwr];simp[qC,h1.2]) h;have ha:fm (row++[y])=fm row+lP y:=by rw[fG];simp[fm]
      rw[ha] at ih;exact⟨by have:=ih.1;omega,ih.2⟩
theorem oZ:∀(d:Nat) (s:By),Small s (dc d s)
 | 0,s=>fun x r h=>by cases h
 |d+1,s=>fun x r h=>by
  have:=kO (fun s=>oZ d s) _ _ _ _ _ _ rfl rfl h;simpa [fm] using this
theorem wD {s:By}{x:Nd}(h:iS s=some x):lP x<=2*s.length+1/\qB x=true:=by
 unfold iS at h;split at h
 · rename_i n hn;cases h;have:=oZ _ _ _ _ hn;simpa using this
 · cases h
theorem zP {l:List Nd}{x:Nd}(hx:l[i]? =some x) (ss:List bM) (to:Nat):bJ (l.drop i) ss to=lay x (bJ (l.drop (i+1)) ss to).1 (bJ (l.drop (i+1)) ss to).2:=by
 obtain⟨hi,rfl⟩:=List.getElem?_eq_some_iff.1 hx;rw[List.drop_eq_getElem_cons hi,bJ]
theorem kV:∀(l:List Nd) (ss:List bM) (to:Nat),(bq l ss to).2.length=l.length
 | [],ss,to=>by simp[bq]
 |x::r,ss,to=>by rw[bq];simp[kV r]
end
mutual
theorem jF:∀(x:Nd) (ss:List bM) (to i:Nat),i<ss.length->(lay x ss to).1[i]? =ss[i]?
 |.mk k s kids,ss,to,i,hi=>by
  rw[lay];split
  · simp[List.getElem?_append_left hi]
  · split
    · exact si kids ss to i hi
    · split
      · have:=dX kids ss to;simp only;rw[List.getElem?_append_left (by omega)];exact mG kids ss to i hi
      · split
        · have:=eU kids ss to;simp only;rw[List.getElem?_append_left (by omega)];exact mF kids ss to i hi
        · split
          · simp only;rw[List.getElem?_set_ne (by omega),mF kids (ss++[(⟨0,0,[],0⟩:bM)]) ss.length i (by simp;omega),List.getElem?_append_left hi]
          · rfl
theorem si:∀(l:List Nd) (ss:List bM) (to i:Nat),i<ss.length->(bJ l ss to).1[i]? =ss[i]?
 | [],ss,to,i,hi=>by simp[bJ]
 |x::r,ss,to,i,hi=>by
  rw[bJ];have h1:=ig r ss to;rw[jF x _ _ i (by omega),si r ss to i hi]
theorem mG:∀(l:List Nd) (ss:List bM) (to i:Nat),i<ss.length->(bq l ss to).1[i]? =ss[i]?
 | [],ss,to,i,hi=>by simp[bq]
 |x::r,ss,to,i,hi=>by
  rw[bq];have h1:=eG x ss to;simp only;rw[mG r _ _ i (by omega),jF x ss to i hi]
theorem mF:∀(l:List Nd) (ss:List bM) (to i:Nat),i<ss.length->(b8 l ss to).1[i]? =ss[i]?
 | [],ss,to,i,hi=>by simp[b8]
 |x::r,ss,to,i,hi=>by
  rw[b8];exact jF x ss to i hi
end
section
variable {k i n to st:Nat}{fin:Nat->Prop}{todo:List Nat}
theorem Fe {l:List Nd}{x:Nd}(hx:l[i]? =some x):fm (l.take i)+lP x<=fm l:=by
 obtain⟨hi,rfl⟩:=List.getElem?_eq_some_iff.1 hx;have h:fm (l.take i++l.drop i)=fm l:=by rw[List.take_append_drop]
 rw[fG,List.drop_eq_getElem_cons hi,fm] at h;omega
theorem Ff {l:List Nd}{x:Nd}(hx:l[i]? =some x):fm (l.drop (i+1))+lP x<=fm l:=by
 obtain⟨hi,rfl⟩:=List.getElem?_eq_some_iff.1 hx;have h:fm (l.take i++l.drop i)=fm l:=by rw[List.take_append_drop]
 rw[fG,List.drop_eq_getElem_cons hi,fm] at h;omega
theorem CK:∀l:List Nd,l.length<=fm l
 | []=>by simp[fm]
 |x::l=>by have:=CK l;have:=CJ x;simp only[List.length_cons,fm];omega
def o7:List bM->List Bool->Nat
 |x::r,b::s=>(if b then 0 else x.to.length+1)+o7 r s
 |_,_=>0
def gH (ss:List bM):Nat->List Nat->List Bool->List Bool
 | 0,_,seen=>seen
 |n+1,todo,seen =>
  match todo.getLast? with
  |none=>seen
  |some i =>
   if seen[i]? =some true then gH ss n todo.dropLast seen
   else gH ss n (match ss[i]? with|some x=>if x.kind=0 then todo.dropLast++x.to else todo.dropLast|none=>todo.dropLast) (seen.set i true)
def closed (ss:List bM) (todo:List Nat):List Nat :=
 if todo.length=0 then []
 else ((List.range ss.length).filter fun i=>(gH ss (todo.length+o7 ss (List.replicate ss.length false)) todo (List.replicate ss.length false))[i]? ==some true && (ss[i]?.map (·.kind)) !=some 0)
theorem wC:∀(ss:List bM) (seen:List Bool) (i:Nat) (x:bM),ss[i]? =some x->seen[i]? =some false->o7 ss (seen.set i true)+(x.to.length+1)=o7 ss seen
 | [],_,_,_,h,_=>by simp at h
 |_::_,[],_,_,_,h=>by simp at h
 |y::r,b::s,0,x,h1,h2=>by
  simp at h1 h2;subst h1 h2;simp[o7];omega
 |y::r,b::s,i+1,x,h1,h2=>by
  have:=wC r s i x (by simpa using h1) (by simpa using h2);simp only[List.set_cons_succ,o7];omega
def Good (ss:List bM):Prop:=∀x∈ss,∀j∈x.to,j<ss.length
def cg (ss:List bM) (st:Nat):List Nat:=if ss.length=0 then [] else closed ss [st]
def nS (x:bM) (b:Int):Bool:=decide (x.kind=2/\(b<0\/(x.rule:Int)<b))
def mQ (ss:List bM):List Nat->Int->Int
 | [],b=>b
 |j::r,b=>mQ ss r (match ss[j]? with|some x=>if nS x b then x.rule else b|none=>b)
def bz (ss:List bM) (now:List Nat):Int:=if ss.length=0 then -1 else mQ ss now (-1)
def gY (x:bM) (c:UInt8):Bool:=decide (x.kind=1) && x.set.testBit c.toNat
def stepG (ss:List bM) (c:UInt8):List Nat->List Nat->List Nat
 | [],a=>a
 |j::r,a=>stepG ss c r (match ss[j]? with|some x=>if gY x c then a++x.to else a|none=>a)
def cz (ss:List bM) (c:UInt8) (now:List Nat):List Nat:=if ss.length=0 then [] else closed ss (stepG ss c now [])
theorem n8 (ss:List bM) (c:UInt8):∀(l a:List Nat),a.length<=(stepG ss c l a).length
 | [],a=>Nat.le_refl _
 |j::r,a=>by
  rw[stepG];refine Nat.le_trans ?_ (n8 ss c r _);split
  · split<;>simp
  · exact Nat.le_refl _
def ic (ss:List bM):List UInt8->List Nat->Nat->Int×Int->Int×Int
 |l,now,k,b =>
  if now.length=0 then b
  else match l with
   | []=>if 0<=bz ss now then ((k:Int),bz ss now) else b
   |c::r=>ic ss r (cz ss c now) (k+1) (if 0<=bz ss now then ((k:Int),bz ss now) else b)
def cQ (ss:List bM) (st:Nat) (l:List UInt8):Int×Int:=if ss.length=0 then (0,-1) else ic ss l (cg ss st) 0 (0,-1)
theorem rT {ss:List bM}{l:List UInt8}{now:List Nat}{b:Int×Int}(h:now.length=0):ic ss l now k b=b:=by cases l<;>(rw[ic];exact if_pos h)
theorem Bj (ss:List bM) (st:Nat):(cg ss st).Sublist (List.range ss.length):=by
 unfold cg closed;split
 · exact List.nil_sublist _
 · split
   · exact List.nil_sublist _
   · exact List.filter_sublist
theorem DD (ss:List bM) (c:UInt8) (now:List Nat):(cz ss c now).Sublist (List.range ss.length):=by
 unfold cz closed;split
 · exact List.nil_sublist _
 · split
   · exact List.nil_sublist _
   · exact List.filter_sublist
def jm:Nat->List By->List bM->List Nat->Int ⊕ (List bM×List Nat)
 |_,[],ss,t=>.inr (ss,t)
 |i,s::r,ss,t=>if (bR s).2≠0 then .inl (bR s).2 else jm (i+1) r (lay (bR s).1 (ss++[⟨2,0,[],i⟩]) ss.length).1 (t++[(lay (bR s).1 (ss++[⟨2,0,[],i⟩]) ss.length).2])
def tY (l:List By):Nat:=(l.map List.length).sum
def dV (rules:List By):Int ⊕ (List bM×Nat) :=
 if rules.length=0\/64<rules.length then .inl 2
 else match jm 0 rules [] [] with
  |.inl e=>.inl e
  |.inr (ss,t)=>if 2000<tY rules then .inl 70 else .inr (ss++[⟨0,0,t,0⟩],ss.length)
theorem ny {s:By}(h0:(bR s).2=0):lP (bR s).1<=401/\qB (bR s).1=true/\s.length<=200:=by
 unfold bR at *;split at h0
 · cases h0
 · rename_i hl;rw[if_neg hl];split at h0
   · rename_i x hx;have:=wD hx;exact⟨by show lP x<=401;omega,this.2,by omega⟩
   · cases h0
theorem uH {l:List By}{s:By}(hx:l[i]? =some s):tY (l.take (i+1))=tY (l.take i)+s.length:=by
 rw[List.take_add_one,hx,Option.toList_some];simp[tY]
inductive vF (A:By->Prop):By->Prop where
 |nil:vF A []
 |cons {u v:By}:A u->vF A v->vF A (u++v)
end
mutual
def Hx:Nd->By->Prop
 |.mk k s kids=>fun w =>
  if k=1 then ∃c:UInt8,w=[c]/\s.testBit c.toNat=true
  else if k=2 then tS kids w
  else if k=3 then oM kids w
  else if k=6 then w=[]\/mR kids w
  else if k=4 then vF (mR kids) w
  else if k=5 then ∃u v,w=u++v/\mR kids u/\vF (mR kids) v
  else w=[]
def tS:List Nd->By->Prop
 | []=>fun w=>w=[]
 |x::r=>fun w=>∃u v,w=u++v/\Hx x u/\tS r v
def oM:List Nd->By->Prop
 | []=>fun _=>False
 |x::r=>fun w=>Hx x w\/oM r w
def mR:List Nd->By->Prop
 | []=>fun w=>w=[]
 |x::_=>fun w=>Hx x w
end
section
variable {k i n to st:Nat}{fin:Nat->Prop}{todo:List Nat}
inductive Acc (F:List bM) (fin:Nat->Prop):Nat->Nat->By->Prop where
 |done {q:Nat}:fin q->Acc F fin 0 q []
 |eps {n q q':Nat}{x:bM}{w:By}:F[q]? =some x->x.kind=0->q'∈x.to->Acc F fin n q' w->Acc F fin (n+1) q w
 |eat {n q q':Nat}{x:bM}{c:UInt8}{w:By}:F[q]? =some x->x.kind=1->x.set.testBit c.toNat=true->q'∈x.to->Acc F fin n q' w->Acc F fin (n+1) q (c::w)
def jt (F:List bM) (fin:Nat->Prop):Prop:=∀q,fin q->∃x,F[q]? =some x/\x.kind=2
theorem Acc.fork {F:List bM}(hf:jt F fin){q:Nat}{x:bM}{w:By}(hx:F[q]? =some x) (hk:x.kind=0) (h:Acc F fin n q w):∃m q',m<n/\q'∈x.to/\Acc F fin m q' w:=by
 cases h with
 |done hq=>obtain⟨y,hy,hk2⟩:=hf _ hq;rw[hx] at hy;cases hy;omega
 |eps hy _ hq h=>rw[hx] at hy;cases hy;exact⟨_,_,Nat.lt_succ_self _,hq,h⟩
 |eat hy hk1 _ _ _=>rw[hx] at hy;cases hy;omega
theorem Acc.OL {F:List bM}(hf:jt F fin){q:Nat}{x:bM}{w:By}(hx:F[q]? =some x) (hk:x.kind=1) (h:Acc F fin n q w):∃m q' c w',m<n/\w=c::w'/\x.set.testBit c.toNat=true/\q'∈x.to/\Acc F fin m q' w':=by
 cases h with
 |done hq=>obtain⟨y,hy,hk2⟩:=hf _ hq;rw[hx] at hy;cases hy;omega
 |eps hy hk1 _ _=>rw[hx] at hy;cases hy;omega
 |eat hy _ hc hq h=>rw[hx] at hy;cases hy;exact⟨_,_,_,_,Nat.lt_succ_self _,rfl,hc,hq,h⟩
def Splits (F:List bM) (fin:Nat->Prop) (b to:Nat) (A:By->Prop):Prop :=
 (∀n w,Acc F fin n b w->∃u v m,w=u++v/\A u/\m<=n/\Acc F fin m to v)/\(∀u v m,A u->Acc F fin m to v->∃n,Acc F fin n b (u++v))
def EG (F ss':List bM) (lo:Nat):Prop:=∀i,lo<=i->i<ss'.length->F[i]? =ss'[i]?
theorem mu {F:List bM}:Splits F fin to to (fun w=>w=[]) :=
 ⟨fun n w h=>⟨[],w,n,rfl,rfl,Nat.le_refl _,h⟩,fun u v m hu h=>⟨m,by subst hu;exact h⟩⟩
theorem yF {F:List bM}(hf:jt F fin){first again:Nat}{A:By->Prop}{x:bM}(hx:F[again]? =some x) (hk:x.kind=0) (ht:x.to=[first,to]) (h:Splits F fin first again A):Splits F fin again to (vF A):=by
 constructor
 · intro n
   induction n using Nat.strongRecOn with
   |_ n ih =>
    intro w hw;obtain⟨m,q',hm,hq,hw'⟩:=hw.fork hf hx hk;rw[ht] at hq
    rcases List.mem_cons.1 hq with rfl|hq
    · obtain⟨u1,v1,m1,rfl,hu1,hm1,hv1⟩:=h.1 _ _ hw';obtain⟨u2,v2,m2,rfl,hu2,hm2,hv2⟩:=ih m1 (by omega) _ hv1;exact⟨u1++u2,v2,m2,by simp,.cons hu1 hu2,by omega,hv2⟩
    · have:q'=to:=by simpa using hq
      subst this;exact⟨[],w,m,rfl,.nil,by omega,hw'⟩
 · intro u v m hu hv
   induction hu with
   |nil=>exact⟨m+1,.eps hx hk (by rw[ht];simp) hv⟩
   |cons hA _ ih =>
    obtain⟨n,hn⟩:=ih;obtain⟨n',hn'⟩:=h.2 _ _ _ hA hn;exact⟨n'+1,.eps (q':=first) hx hk (by rw[ht];simp) (by rw[List.append_assoc];exact hn')⟩
theorem qV {F:List bM}{b c:Nat}{A B:By->Prop}(h1:Splits F fin b c A) (h2:Splits F fin c to B):Splits F fin b to (fun w=>∃u v,w=u++v/\A u/\B v):=by
 constructor
 · intro n w hw;obtain⟨u1,v1,m1,rfl,hu1,hm1,hv1⟩:=h1.1 _ _ hw;obtain⟨u2,v2,m2,rfl,hu2,hm2,hv2⟩:=h2.1 _ _ hv1;exact⟨u1++u2,v2,m2,by simp,⟨_,_,rfl,hu1,hu2⟩,by omega,hv2⟩
 · rintro u v m ⟨u1,u2,rfl,hA,hB⟩ hv;obtain⟨n,hn⟩:=h2.2 _ _ _ hB hv;obtain⟨n',hn'⟩:=h1.2 _ _ _ hA hn;exact⟨n',by rw[List.append_assoc];exact hn'⟩
end
mutual
theorem jE {F:List bM}{fin:Nat->Prop}(hf:jt F fin):∀(x:Nd) (ss:List bM) (to:Nat),EG F (lay x ss to).1 ss.length->Splits F fin (lay x ss to).2 to (Hx x)
 |.mk k s kids,ss,to,hs=>by
  rw[lay] at hs ⊢;unfold Hx
  by_cases h1:k=1
  · simp only[if_pos h1] at hs ⊢;have hx:F[ss.length]? =some ⟨1,s,[to],0⟩:=by rw[hs _ (Nat.le_refl _) (by simp)];simp
    constructor
    · intro n w hw;obtain⟨m,q',c,w',hm,rfl,hc,hq,hw'⟩:=hw.OL hf hx rfl;have:q'=to:=by simpa using hq
      subst this;exact⟨[c],w',m,rfl,⟨c,rfl,hc⟩,by omega,hw'⟩
    · rintro u v m ⟨c,rfl,hc⟩ hv;exact⟨m+1,.eat hx rfl hc (by simp) hv⟩
  · simp only[if_neg h1] at hs ⊢
    by_cases h2:k=2
    · simp only[if_pos h2] at hs ⊢;exact mc hf kids ss to hs
    · simp only[if_neg h2] at hs ⊢
      by_cases h3:k=3
      · simp only[if_pos h3] at hs ⊢;have hl:=dX kids ss to;have hx:F[(bq kids ss to).1.length]? =some ⟨0,0,(bq kids ss to).2,0⟩:=by rw[hs _ (by omega) (by simp)];simp
        have ih:=me hf kids ss to (fun i h1 h2=>by rw[hs i h1 (by simp;omega),List.getElem?_append_left h2]);constructor
        · intro n w hw;obtain⟨m,q',hm,hq,hw'⟩:=hw.fork hf hx rfl;obtain⟨u,v,m',hu⟩:=ih.1 _ _ _ hq hw';exact⟨u,v,m',hu.1,hu.2.1,by omega,hu.2.2.2⟩
        · intro u v m hu hv;obtain⟨n,q',hq,hn⟩:=ih.2 _ _ _ hu hv;exact⟨n+1,.eps hx rfl hq hn⟩
      · simp only[if_neg h3] at hs ⊢
        by_cases h6:k=6
        · simp only[if_pos h6] at hs ⊢;have hl:=eU kids ss to;have hx:F[(b8 kids ss to).1.length]? =some ⟨0,0,[(b8 kids ss to).2,to],0⟩:=by rw[hs _ (by omega) (by simp)];simp
          have ih:=l9 hf kids ss to (fun i h1 h2=>by rw[hs i h1 (by simp;omega),List.getElem?_append_left h2]);constructor
          · intro n w hw;obtain⟨m,q',hm,hq,hw'⟩:=hw.fork hf hx rfl
            rcases List.mem_cons.1 hq with rfl|hq
            · obtain⟨u,v,m',h1,h2,h3,h4⟩:=ih.1 _ _ hw';exact⟨u,v,m',h1,.inr h2,by omega,h4⟩
            · have:q'=to:=by simpa using hq
              subst this;exact⟨[],w,m,rfl,.inl rfl,by omega,hw'⟩
          · rintro u v m (rfl|hu) hv
            · exact⟨m+1,.eps hx rfl (by simp) hv⟩
            · obtain⟨n,hn⟩:=ih.2 _ _ _ hu hv;exact⟨n+1,.eps hx rfl (by simp) hn⟩
        · simp only[if_neg h6] at hs ⊢
          by_cases h45:k=4\/k=5
          · simp only[if_pos h45] at hs ⊢;have hl:=eU kids (ss++[⟨0,0,[],0⟩]) ss.length;simp only[List.length_append,List.length_singleton] at hl
            have hx:F[ss.length]? =some ⟨0,0,[(b8 kids (ss++[⟨0,0,[],0⟩]) ss.length).2,to],0⟩:=by
             rw[hs _ (Nat.le_refl _) (by simp;omega)];simp[List.getElem?_set];omega
            have ih:=l9 hf kids (ss++[⟨0,0,[],0⟩]) ss.length (fun i h1 h2=>by
             simp only[List.length_append,List.length_singleton] at h1;rw[hs i (by omega) (by simp;omega),List.getElem?_set_ne (by omega)])
            have hst:=yF hf hx rfl rfl ih
            by_cases h4:k=4
            · have h5:¬k=5:=by omega
              simp only[if_pos h4,if_neg h5];exact hst
            · have h5:k=5:=by omega
              simp only[if_neg h4,if_pos h5];exact qV ih hst
          · simp only[if_neg h45] at hs ⊢;have h4:¬k=4:=fun e=>h45 (.inl e)
            have h5:¬k=5:=fun e=>h45 (.inr e)
            simp only[if_neg h4,if_neg h5];exact mu
theorem mc {F:List bM}{fin:Nat->Prop}(hf:jt F fin):∀(l:List Nd) (ss:List bM) (to:Nat),EG F (bJ l ss to).1 ss.length->Splits F fin (bJ l ss to).2 to (tS l)
 | [],ss,to,hs=>by
  rw[bJ];unfold tS;exact mu
 |x::r,ss,to,hs=>by
  rw[bJ] at hs ⊢;unfold tS;have hl:=ig r ss to;have hl2:=eG x (bJ r ss to).1 (bJ r ss to).2;have h2:=mc hf r ss to (fun i h1 h2=>by rw[hs i h1 (by omega),jF x _ _ i h2]);have h1:=jE hf x (bJ r ss to).1 (bJ r ss to).2 (fun i h1 h2=>hs i (by omega) h2);exact qV h1 h2
theorem me {F:List bM}{fin:Nat->Prop}(hf:jt F fin):∀(l:List Nd) (ss:List bM) (to:Nat),EG F (bq l ss to).1 ss.length ->
 (∀n q w,q∈(bq l ss to).2->Acc F fin n q w->∃u v m,w=u++v/\oM l u/\m<=n/\Acc F fin m to v)/\(∀u v m,oM l u->Acc F fin m to v->∃n q,q∈(bq l ss to).2/\Acc F fin n q (u++v))
 | [],ss,to,hs=>by
  rw[bq];unfold oM;exact⟨fun n q w h=>absurd h List.not_mem_nil,fun u v m h=>False.elim h⟩
 |x::r,ss,to,hs=>by
  rw[bq] at hs ⊢;unfold oM;have hl:=eG x ss to;have hl2:=dX r (lay x ss to).1 to;have h1:=jE hf x ss to (fun i h1 h2=>by rw[hs i h1 (by simp only;omega)];exact mG r _ _ i h2);have h2:=me hf r (lay x ss to).1 to (fun i h1 h2=>hs i (by omega) h2);constructor
  · intro n q w hq hw
    rcases List.mem_cons.1 hq with rfl|hq
    · obtain⟨u,v,m,a,b,c,d⟩:=h1.1 _ _ hw;exact⟨u,v,m,a,.inl b,c,d⟩
    · obtain⟨u,v,m,a,b,c,d⟩:=h2.1 _ _ _ hq hw;exact⟨u,v,m,a,.inr b,c,d⟩
  · rintro u v m (hu|hu) hv
    · obtain⟨n,hn⟩:=h1.2 _ _ _ hu hv;exact⟨n,_,List.mem_cons_self,hn⟩
    · obtain⟨n,q,hq,hn⟩:=h2.2 _ _ _ hu hv;exact⟨n,q,List.mem_cons_of_mem _ hq,hn⟩
theorem l9 {F:List bM}{fin:Nat->Prop}(hf:jt F fin):∀(l:List Nd) (ss:List bM) (to:Nat),EG F (b8 l ss to).1 ss.length->Splits F fin (b8 l ss to).2 to (mR l)
 | [],ss,to,hs=>by
  rw[b8];unfold mR;exact mu
 |x::r,ss,to,hs=>by
  rw[b8] at hs ⊢;unfold mR;exact jE hf x ss to hs
end
section
variable {k i n to st:Nat}{fin:Nat->Prop}{todo:List Nat}
inductive Ho (ss:List bM):Nat->Nat->Prop where
 |refl (i:Nat):Ho ss i i
 |step {i j k:Nat}{x:bM}:ss[i]? =some x->x.kind=0->j∈x.to->Ho ss j k->Ho ss i k
theorem Ho.snoc {ss:List bM}{j:Nat}{x:bM}(h:Ho ss i j) (hx:ss[j]? =some x) (hk:x.kind=0) (ht:k∈x.to):Ho ss i k:=by
 induction h with
 |refl=>exact .step hx hk ht (.refl _)
 |step a b c _ ih=>exact .step a b c (ih hx)
structure Hq (ss:List bM) (T todo:List Nat) (seen:List Bool):Prop where
 len:seen.length=ss.length
 inn:∀j∈todo,j<ss.length
 sound:∀i,(seen[i]? =some true\/i∈todo)->∃t∈T,Ho ss t i
 cl:∀(i:Nat) (x:bM),seen[i]? =some true->ss[i]? =some x->x.kind=0->∀j∈x.to,seen[j]? =some true\/j∈todo
 all:∀t∈T,seen[t]? =some true\/t∈todo
theorem BQ {l:List Nat}(h:l.getLast? =some i):l=l.dropLast++[i]:=by
 obtain⟨h0,rfl⟩:=List.getLast?_eq_some_iff.1 h;simp
theorem oB {ss:List bM}{T:List Nat}(hg:Good ss):∀(n:Nat) (todo:List Nat) (seen:List Bool),todo.length+o7 ss seen<=n->Hq ss T todo seen->Hq ss T [] (gH ss n todo seen)
 | 0,todo,seen,hn,k=>by
  have:todo=[]:=List.length_eq_zero_iff.1 (by omega);subst this;exact k
 |n+1,todo,seen,hn,k=>by
  unfold gH;split
  · rename_i h;have:todo=[]:=List.getLast?_eq_none_iff.1 h;subst this;exact k
  · rename_i i h;have hsp:=BQ h;have hlen:todo.length=todo.dropLast.length+1:=by rw[hsp];simp
    have hi:i∈todo:=by rw[hsp];simp
    have hmem:∀j,j∈todo->j∈todo.dropLast\/j=i:=fun j hj=>by rw[hsp] at hj;simpa using hj
    have hsub:∀j,j∈todo.dropLast->j∈todo:=fun j hj=>by rw[hsp];simp[hj]
    split
    · rename_i hs;refine oB hg n _ _ (by omega) ⟨k.len,fun j hj=>k.inn j (hsub j hj),fun j hj=>k.sound j (hj.imp id (hsub j)),fun j x a b c d e=>?_,fun t ht=>?_⟩
      · rcases k.cl j x a b c d e with h1|h1
        · exact .inl h1
        · rcases hmem d h1 with h2|rfl
          · exact .inr h2
          · exact .inl hs
      · rcases k.all t ht with h1|h1
        · exact .inl h1
        · rcases hmem t h1 with h2|rfl
          · exact .inr h2
          · exact .inl hs
    · rename_i hs;have hil:=k.inn i hi;obtain⟨x,hx⟩:∃x,ss[i]? =some x:=⟨_,List.getElem?_eq_getElem hil⟩
      have hf:seen[i]? =some false:=by
       obtain⟨b,hb⟩:∃b,seen[i]? =some b:=⟨_,List.getElem?_eq_getElem (by rw[k.len];exact hil)⟩
       cases b
       · exact hb
       · exact absurd hb hs
      have hp:=wC ss seen i x hx hf;have hself:(seen.set i true)[i]? =some true:=by rw[List.getElem?_set_self (by rw[k.len];exact hil)]
      have hset:∀j,seen[j]? =some true->(seen.set i true)[j]? =some true:=fun j hj=>by
       by_cases e:i=j
       · subst e;exact hself
       · rw[List.getElem?_set_ne e];exact hj
      have hget:∀j,(seen.set i true)[j]? =some true->j=i\/seen[j]? =some true:=fun j hj=>by
       by_cases e:i=j
       · exact .inl e.symm
       · rw[List.getElem?_set_ne e] at hj;exact .inr hj
      rw[hx];simp only;obtain⟨t0,Ld,he0⟩:=k.sound i (.inr hi);have hxm:x∈ss:=List.mem_of_getElem? hx;generalize hnew:(if x.kind=0 then todo.dropLast++x.to else todo.dropLast)=new
      have hin:∀j,j∈new->j∈todo.dropLast\/(x.kind=0/\j∈x.to):=fun j hj=>by
       subst hnew;split at hj
       · rename_i hk
         rcases List.mem_append.1 hj with h1|h1
         · exact .inl h1
         · exact .inr ⟨hk,h1⟩
       · exact .inl hj
      have hold:∀j,j∈todo.dropLast->j∈new:=fun j hj=>by
       subst hnew;split
       · exact List.mem_append_left _ hj
       · exact hj
      have hbig:new.length<=todo.dropLast.length+x.to.length:=by
       subst hnew;split<;>simp
      refine oB hg n _ _ (by omega) ⟨by rw[List.length_set];exact k.len,fun j hj=>?_,fun j hj=>?_,fun j y a b c d e=>?_,fun t ht=>?_⟩
      · rcases hin j hj with h1|⟨_,h1⟩
        · exact k.inn j (hsub j h1)
        · exact hg x hxm j h1
      · rcases hj with h1|h1
        · rcases hget j h1 with rfl|h2
          · exact⟨t0,Ld,he0⟩
          · exact k.sound j (.inl h2)
        · rcases hin j h1 with h2|⟨hk,h2⟩
          · exact k.sound j (.inr (hsub j h2))
          · exact⟨t0,Ld,he0.snoc hx hk h2⟩
      · rcases hget j a with rfl|a
        · rw[hx] at b;cases b;refine .inr ?_;rw[if_pos c] at hnew;subst hnew;exact List.mem_append_right _ e
        · rcases k.cl j y a b c d e with h1|h1
          · exact .inl (hset d h1)
          · rcases hmem d h1 with h2|rfl
            · exact .inr (hold d h2)
            · exact .inl hself
      · rcases k.all t ht with h1|h1
        · exact .inl (hset t h1)
        · rcases hmem t h1 with h2|rfl
          · exact .inr (hold t h2)
          · exact .inl hself
theorem mO {ss:List bM}(hg:Good ss) (ht:∀j∈todo,j<ss.length) (j:Nat):j∈closed ss todo↔∃x,ss[j]? =some x/\x.kind≠0/\∃t∈todo,Ho ss t j:=by
 unfold closed;split
 · rename_i h;have:todo=[]:=List.length_eq_zero_iff.1 h;subst this;simp
 · have h0:∀i:Nat,(List.replicate ss.length false)[i]? ≠some true:=fun i hi=>by rw[List.getElem?_replicate] at hi;split at hi<;>cases hi
   have hi0:Hq ss todo todo (List.replicate ss.length false):=⟨by simp,ht,fun i hi=>hi.elim (fun hi=>absurd hi (h0 i)) fun hi=>⟨i,hi,.refl i⟩,fun i x hi=>absurd hi (h0 i),fun t h=>.inr h⟩
   have hi:=oB hg (todo.length+o7 ss (List.replicate ss.length false)) todo _ (Nat.le_refl _) hi0;generalize gH ss (todo.length+o7 ss (List.replicate ss.length false)) todo (List.replicate ss.length false)=out at hi;simp only[List.mem_filter,List.mem_range,Bool.and_eq_true,bne_iff_ne,ne_eq];constructor
   · rintro⟨hj,h1,h2⟩;obtain⟨x,hx⟩:∃x,ss[j]? =some x:=⟨_,List.getElem?_eq_getElem hj⟩
     rw[hx] at h2;have h1:out[j]? =some true:=by simpa using h1
     exact⟨x,hx,by simpa using h2,hi.sound j (.inl h1)⟩
   · rintro⟨x,hx,hk,t,ht',he⟩
     have key:∀a b,Ho ss a b->out[a]? =some true->out[b]? =some true:=by
      intro a b he
      induction he with
      |refl=>exact id
      |step hy hk hm _ ih =>
       intro ha;refine ih ?_
       rcases hi.cl _ _ ha hy hk _ hm with h1|h1
       · exact h1
       · cases h1
     have h1:=key _ _ he (by
      rcases hi.all t ht' with h1|h1
      · exact h1
      · cases h1)
     refine⟨(List.getElem?_eq_some_iff.1 hx).1,by rw[h1];rfl,by rw[hx];simpa using hk⟩
theorem Acc.through {ss:List bM}{j:Nat}(h:Ho ss i j){w:By}(k:Acc ss fin n j w):∃m,Acc ss fin m i w:=by
 induction h with
 |refl=>exact⟨n,k⟩
 |step a b c _ ih=>obtain⟨m,hm⟩:=ih k;exact⟨m+1,.eps a b c hm⟩
theorem Acc.stop {ss:List bM}(hf:jt ss fin){w:By}(k:Acc ss fin n i w):∃j x,Ho ss i j/\ss[j]? =some x/\x.kind≠0/\∃m,Acc ss fin m j w:=by
 induction k with
 |done hq=>obtain⟨x,hx,hk⟩:=hf _ hq;exact⟨_,x,.refl _,hx,by omega,_,.done hq⟩
 |eps a b c _ ih=>obtain⟨j,x,he,hr⟩:=ih;exact⟨j,x,.step a b c he,hr⟩
 |eat a b c d e _=>exact⟨_,_,.refl _,a,by omega,_,.eat a b c d e⟩
def uB (ss:List bM) (fin:Nat->Prop) (T:List Nat) (w:By):Prop:=∃j∈T,∃n,Acc ss fin n j w
theorem sY {ss:List bM}(hf:jt ss fin) (hg:Good ss) (ht:∀j∈todo,j<ss.length) (w:By):uB ss fin (closed ss todo) w↔uB ss fin todo w:=by
 constructor
 · rintro⟨j,hj,n,h⟩;obtain⟨x,hx,hk,t,ht',he⟩:=(mO hg ht j).1 hj;exact⟨t,ht',h.through he⟩
 · rintro⟨t,ht',n,h⟩;obtain⟨j,x,he,hx,hk,hm⟩:=h.stop hf;exact⟨j,(mO hg ht j).2 ⟨x,hx,hk,t,ht',he⟩,hm⟩
theorem lH (ss:List bM) (c:UInt8) (k:Nat):∀(l a:List Nat),k∈stepG ss c l a↔k∈a\/∃j∈l,∃x,ss[j]? =some x/\gY x c=true/\k∈x.to
 | [],a=>by simp[stepG]
 |j::r,a=>by
  rw[stepG,lH ss c k r];cases hx:ss[j]? with
  |none=>simp[hx]
  |some x =>
   simp only;cases ho:gY x c with
   |true=>simp[hx,ho,or_assoc]
   |false=>simp[hx,ho]
def Flat (ss:List bM) (T:List Nat):Prop:=∀j∈T,∃x,ss[j]? =some x/\x.kind≠0
theorem lg {ss:List bM}(hg:Good ss) (ht:∀j∈todo,j<ss.length):Flat ss (closed ss todo):=fun j hj=>by
 obtain⟨x,hx,hk,_⟩:=(mO hg ht j).1 hj;exact⟨x,hx,hk⟩
theorem yC {ss:List bM}(hg:Good ss) (c:UInt8) (T:List Nat):∀j∈stepG ss c T [],j<ss.length:=fun j hj=>by
 rcases (lH ss c j T []).1 hj with h|⟨i,_,x,hx,_,hm⟩
 · cases h
 · exact hg x (List.mem_of_getElem? hx) j hm
theorem qT {ss:List bM}(hg:Good ss) (c:UInt8) (T:List Nat):Flat ss (cz ss c T):=by
 unfold cz;split
 · intro j hj;cases hj
 · exact lg hg (yC hg c T)
theorem DF {ss:List bM}(hf:jt ss fin) (hg:Good ss){T:List Nat}(hT:Flat ss T) (c:UInt8) (w:By):uB ss fin (cz ss c T) w↔uB ss fin T (c::w):=by
 unfold cz;split
 · rename_i h0;constructor
   · rintro⟨j,hj,_⟩;cases hj
   · rintro⟨j,hj,_⟩;obtain⟨x,hx,_⟩:=hT j hj;have:=(List.getElem?_eq_some_iff.1 hx).1;omega
 · rw[sY hf hg (yC hg c T)];constructor
   · rintro⟨k,hk,n,h⟩
     rcases (lH ss c k T []).1 hk with h1|⟨j,hj,x,hx,ho,hm⟩
     · cases h1
     · simp only[gY,Bool.and_eq_true,decide_eq_true_eq] at ho;exact⟨j,hj,n+1,.eat hx ho.1 ho.2 hm h⟩
   · rintro⟨j,hj,n,h⟩;obtain⟨x,hx,hk⟩:=hT j hj;cases h with
     |eps hy hk0 _ _=>rw[hx] at hy;cases hy;exact absurd hk0 hk
     |eat hy hk1 hc hm h=>exact⟨_,(lH ss c _ T []).2 (.inr ⟨j,hj,_,hy,by simp[gY,hk1,hc],hm⟩),_,h⟩
def kD (ss:List bM) (r:Nat) (q:Nat):Prop:=∃x,ss[q]? =some x/\x.kind=2/\x.rule=r
theorem qt (ss:List bM) (r:Nat):jt ss (kD ss r):=fun _ ⟨x,hx,hk,_⟩=>⟨x,hx,hk⟩
theorem G8 {ss:List bM}{r:Nat}{T:List Nat}(hT:Flat ss T):uB ss (kD ss r) T []↔∃j∈T,kD ss r j:=by
 constructor
 · rintro⟨j,hj,n,h⟩;obtain⟨x,hx,hk⟩:=hT j hj;cases h with
   |done hq=>exact⟨j,hj,hq⟩
   |eps hy hk0 _ _=>rw[hx] at hy;cases hy;exact absurd hk0 hk
 · rintro⟨j,hj,hq⟩;exact⟨j,hj,0,.done hq⟩
def lG (p:Nat->Prop) (r:Int):Prop:=(r= -1/\∀i,¬p i)\/∃n:Nat,r=n/\p n/\∀i,p i->n<=i
theorem tJ (ss:List bM):∀(l:List Nat) (b:Int) (p:Nat->Prop),lG p b->lG (fun r=>p r\/∃j∈l,kD ss r j) (mQ ss l b)
 | [],b,p,h=>by
  rw[mQ]
  rcases h with ⟨rfl,h1⟩|⟨n,rfl,h1,h2⟩
  · exact .inl ⟨rfl,fun i h=>by rcases h with h|⟨_,h,_⟩;exact h1 i h;cases h⟩
  · exact .inr ⟨n,rfl,.inl h1,fun i h=>by rcases h with h|⟨_,h,_⟩;exact h2 i h;cases h⟩
 |j::l,b,p,h=>by
  rw[mQ]
  have key:∀b',lG (fun r=>p r\/kD ss r j) b'->lG (fun r=>p r\/∃k∈j::l,kD ss r k) (mQ ss l b'):=fun b' hb'=>by
   have:=tJ ss l b' _ hb'
   have e:(fun r=>(p r\/kD ss r j)\/∃k∈l,kD ss r k)=(fun r=>p r\/∃k∈j::l,kD ss r k):=by
    funext r;simp[or_assoc]
   rwa [e] at this
  have no:(∀r,¬kD ss r j)->lG (fun r=>p r\/kD ss r j) b:=fun hno=>by
   have e:(fun r=>p r\/kD ss r j)=p:=by funext r;simp[hno r]
   rw[e];exact h
  cases hx:ss[j]? with
  |none=>exact key b (no fun r ⟨x,hx',_⟩=>by rw[hx] at hx';cases hx')
  |some x =>
   simp only
   by_cases hk:x.kind=2
   · have hfin:∀r,kD ss r j↔x.rule=r:=fun r=>⟨fun⟨y,hy,_,hr⟩=>by rw[hx] at hy;cases hy;exact hr,fun hr=>⟨x,hx,hk,hr⟩⟩
     by_cases hb:nS x b=true
     · rw[if_pos hb];refine key _ (.inr ⟨x.rule,rfl,.inr ((hfin _).2 rfl),fun i hi=>?_⟩);simp only[nS,decide_eq_true_eq] at hb
       rcases hi with hi|hi
       · rcases h with ⟨rfl,h1⟩|⟨n,rfl,h1,h2⟩
         · exact absurd hi (h1 i)
         · have:=h2 i hi;omega
       · rw[(hfin i).1 hi];exact Nat.le_refl _
     · rw[if_neg hb];refine key _ ?_;simp only[nS,decide_eq_true_eq] at hb
       rcases h with ⟨rfl,h1⟩|⟨n,rfl,h1,h2⟩
       · exact absurd ⟨hk,.inl (by decide)⟩ hb
       · refine .inr ⟨n,rfl,.inl h1,fun i hi=>?_⟩
         rcases hi with hi|hi
         · exact h2 i hi
         · have:=(hfin i).1 hi;omega
   · rw[if_neg (by simp[nS,hk])];exact key b (no fun r ⟨y,hy,hk2,_⟩=>by rw[hx] at hy;cases hy;exact hk hk2)
def iP (ss:List bM) (st:Nat) (w:By):List Nat:=w.foldl (fun T c=>cz ss c T) (cg ss st)
theorem DK {ss:List bM}(hg:Good ss) (hst:st<ss.length) (w:By):Flat ss (iP ss st w):=by
 have h0:Flat ss (cg ss st):=by
  unfold cg;split
  · intro j hj;cases hj
  · exact lg hg (fun j hj=>by simp at hj;omega)
 unfold iP;generalize cg ss st=T at h0
 induction w generalizing T with
 |nil=>exact h0
 |cons c w ih=>exact ih _ (qT hg c T)
theorem Fq {ss:List bM}(hf:jt ss fin) (hg:Good ss) (hst:st<ss.length) (w v:By):uB ss fin (iP ss st w) v↔∃n,Acc ss fin n st (w++v):=by
 have h0:Flat ss (cg ss st)/\∀v,uB ss fin (cg ss st) v↔∃n,Acc ss fin n st v:=by
  unfold cg;rw[if_neg (by omega)];have ht:∀j∈[st],j<ss.length:=fun j hj=>by simp at hj;omega
  refine⟨lg hg ht,fun v=>?_⟩;rw[sY hf hg ht];simp[uB]
 unfold iP
 have key:∀(w:By) (T:List Nat),Flat ss T->(uB ss fin (w.foldl (fun T c=>cz ss c T) T) v↔uB ss fin T (w++v)):=by
  intro w
  induction w with
  |nil=>intro T _;rfl
  |cons c w ih =>
   intro T hT;rw[List.foldl_cons,ih _ (qT hg c T),DF hf hg hT];rfl
 rw[key w _ h0.1,h0.2]
theorem uz {ss:List bM}(hg:Good ss) (hst:st<ss.length) (w:By):lG (fun r=>∃n,Acc ss (kD ss r) n st w) (bz ss (iP ss st w)):=by
 unfold bz;rw[if_neg (by omega)];have h:=tJ ss (iP ss st w) (-1) (fun _=>False) (.inl ⟨rfl,fun _ h=>h⟩)
 have e:(fun r=>False\/∃j∈iP ss st w,kD ss r j)=(fun r=>∃n,Acc ss (kD ss r) n st w):=by
  funext r
  have:=Fq (qt ss r) hg hst w [];rw[G8 (DK hg hst w),List.append_nil] at this;simpa using this
 rw[e] at h;exact h
def dQ (ss:List bM):Nat:=(ss.map fun x=>x.to.length+1).sum
theorem fe (a b:List bM):dQ (a++b)=dQ a+dQ b:=by simp[dQ]
theorem yu:∀(ss:List bM) (i:Nat) (y x:bM),ss[i]? =some y->dQ (ss.set i x)+y.to.length=dQ ss+x.to.length
 | [],i,y,x,h=>by simp at h
 |z::r,0,y,x,h=>by simp at h;subst h;simp[dQ];omega
 |z::r,i+1,y,x,h=>by have:=yu r i y x (by simpa using h);simp[dQ] at *;omega
theorem Fy:∀(ss:List bM) (seen:List Bool),o7 ss seen<=dQ ss
 | [],_=>by simp[o7]
 |x::r,[]=>by simp[o7]
 |x::r,b::s=>by
  have:=Fy r s;simp only[o7,dQ,List.map_cons,List.sum_cons] at *;split<;>omega
end
mutual
theorem qs:∀(x:Nd) (ss:List bM) (to:Nat),dQ (lay x ss to).1+1<=dQ ss+4*lP x
 |.mk k s kids,ss,to=>by
  rw[lay];simp only[lP];split
  · rw[fe];simp[dQ];omega
  · split
    · have:=se kids ss to;omega
    · split
      · have:=sj kids ss to;have hl:=kV kids ss to;simp only[fe];simp[dQ] at *;omega
      · split
        · have:=sd kids ss to;simp only[fe];simp[dQ] at *;omega
        · split
          · have:=sd kids (ss++[⟨0,0,[],0⟩]) ss.length;have h2:=yu (b8 kids (ss++[⟨0,0,[],0⟩]) ss.length).1 ss.length ⟨0,0,[],0⟩ ⟨0,0,[(b8 kids (ss++[⟨0,0,[],0⟩]) ss.length).2,to],0⟩ (by rw[mF kids _ _ _ (by simp)];simp);rw[fe] at this;simp[dQ] at *;omega
          · simp;omega
theorem se:∀(l:List Nd) (ss:List bM) (to:Nat),dQ (bJ l ss to).1<=dQ ss+4*fm l
 | [],ss,to=>by simp[bJ]
 |x::r,ss,to=>by
  rw[bJ];have h1:=se r ss to;have h2:=qs x (bJ r ss to).1 (bJ r ss to).2;simp only[fm];omega
theorem sj:∀(l:List Nd) (ss:List bM) (to:Nat),dQ (bq l ss to).1+l.length<=dQ ss+4*fm l
 | [],ss,to=>by simp[bq]
 |x::r,ss,to=>by
  rw[bq];have h1:=qs x ss to;have h2:=sj r (lay x ss to).1 to;simp only[fm,List.length_cons];omega
theorem sd:∀(l:List Nd) (ss:List bM) (to:Nat),dQ (b8 l ss to).1<=dQ ss+4*fm l
 | [],ss,to=>by simp[b8]
 |x::r,ss,to=>by
  rw[b8];have h1:=qs x ss to;simp only[fm];omega
end
section
variable {k i n to st:Nat}{fin:Nat->Prop}{todo:List Nat}
theorem Good.append {a b:List bM}(ha:Good a) (hb:∀x∈b,∀j∈x.to,j<(a++b).length):Good (a++b):=fun x hx j hj=>by
 rcases List.mem_append.1 hx with h|h
 · have:=ha x h j hj;simp;omega
 · exact hb x h j hj
theorem Good.set {a:List bM}(ha:Good a){i:Nat}{y:bM}(hy:∀j∈y.to,j<a.length):Good (a.set i y):=fun x hx j hj=>by
 rw[List.length_set]
 rcases List.mem_or_eq_of_mem_set hx with h|rfl
 · exact ha x h j hj
 · exact hy j hj
end
mutual
theorem nE:∀(x:Nd) (ss:List bM) (to:Nat),Good ss->to<ss.length->Good (lay x ss to).1/\(lay x ss to).2<(lay x ss to).1.length
 |.mk k s kids,ss,to,hg,ht=>by
  rw[lay];split
  · exact⟨hg.append (by intro x hx j hj;simp at hx;subst hx;simp at hj;subst hj;simp;omega),by simp⟩
  · split
    · exact pE kids ss to hg ht
    · split
      · have h:=pH kids ss to hg ht;exact⟨h.1.append (by intro x hx j hj;simp at hx;subst hx;have:=h.2 j hj;simp;omega),by simp⟩
      · split
        · have h:=pz kids ss to hg ht;have hl:=eU kids ss to;exact⟨h.1.append (by intro x hx j hj;simp at hx;subst hx;simp at hj;simp;rcases hj with rfl|rfl<;>omega),by simp⟩
        · split
          · have h:=pz kids (ss++[⟨0,0,[],0⟩]) ss.length (hg.append (by intro x hx j hj;simp at hx;subst hx;cases hj)) (by simp);have hl:=eU kids (ss++[⟨0,0,[],0⟩]) ss.length;simp only[List.length_append,List.length_singleton] at hl;refine⟨h.1.set (by intro j hj;simp at hj;rcases hj with rfl|rfl;exact h.2;omega),?_⟩;simp only[List.length_set];split
            · exact h.2
            · omega
          · exact⟨hg,ht⟩
theorem pE:∀(l:List Nd) (ss:List bM) (to:Nat),Good ss->to<ss.length->Good (bJ l ss to).1/\(bJ l ss to).2<(bJ l ss to).1.length
 | [],ss,to,hg,ht=>by rw[bJ];exact⟨hg,ht⟩
 |x::r,ss,to,hg,ht=>by
  rw[bJ];have h1:=pE r ss to hg ht;exact nE x _ _ h1.1 h1.2
theorem pH:∀(l:List Nd) (ss:List bM) (to:Nat),Good ss->to<ss.length->Good (bq l ss to).1/\∀j∈(bq l ss to).2,j<(bq l ss to).1.length
 | [],ss,to,hg,ht=>by rw[bq];exact⟨hg,fun j hj=>by cases hj⟩
 |x::r,ss,to,hg,ht=>by
  rw[bq];have h1:=nE x ss to hg ht;have hl:=eG x ss to;have h2:=pH r (lay x ss to).1 to h1.1 (by omega);have hl2:=dX r (lay x ss to).1 to;refine⟨h2.1,fun j hj=>?_⟩
  rcases List.mem_cons.1 hj with rfl|hj
  · simp only;omega
  · exact h2.2 j hj
theorem pz:∀(l:List Nd) (ss:List bM) (to:Nat),Good ss->to<ss.length->Good (b8 l ss to).1/\(b8 l ss to).2<(b8 l ss to).1.length
 | [],ss,to,hg,ht=>by rw[b8];exact⟨hg,ht⟩
 |x::r,ss,to,hg,ht=>by rw[b8];exact nE x ss to hg ht
end
section
variable {k i n to st:Nat}{fin:Nat->Prop}{todo:List Nat}
structure Ns (i:Nat) (rules:List By) (ss:List bM) (t:List Nat) (ss':List bM) (t':List Nat):Prop where
 pre:∀j,j<ss.length->ss'[j]? =ss[j]?
 len:ss.length<=ss'.length/\ss'.length<=ss.length+402*rules.length
 tot:dQ ss'<=dQ ss+1605*rules.length
 good:Good ss->(∀j∈t,j<ss.length)->Good ss'/\∀j∈t',j<ss'.length
 starts:∃t2,t'=t++t2/\t2.length=rules.length/\∀k s,rules[k]? =some s->(bR s).2=0/\∃a b,t2[k]? =some b/\ss.length<=a/\ss'[a]? =some ⟨2,0,[],i+k⟩/\∀F fin,EG F ss' ss.length->jt F fin->Splits F fin b a (Hx (bR s).1)
theorem rU:∀(rules:List By) (i:Nat) (ss:List bM) (t:List Nat) (ss':List bM) (t':List Nat),jm i rules ss t= .inr (ss',t')->Ns i rules ss t ss' t'
 | [],i,ss,t,ss',t',h=>by
  rw[jm] at h;cases h;exact⟨fun _ _=>rfl,by simp,by simp,fun a b=>⟨a,b⟩,[],by simp,rfl,fun k s h=>by simp at h⟩
 |s::r,i,ss,t,ss',t',h=>by
  rw[jm] at h;split at h
  · cases h
  · rename_i he;have he:(bR s).2=0:=by simpa using he
    have hsm:=ny he;have ih:=rU r _ _ _ _ _ h;have hpre:=jF (bR s).1 (ss++[⟨2,0,[],i⟩]) ss.length;have hlen:=eG (bR s).1 (ss++[⟨2,0,[],i⟩]) ss.length;have htot:=qs (bR s).1 (ss++[⟨2,0,[],i⟩]) ss.length;simp only[List.length_append,List.length_singleton,fe] at hpre hlen htot;have hL:dQ [(⟨2,0,[],i⟩:bM)]=1:=by simp[dQ]
    generalize hly:lay (bR s).1 (ss++[⟨2,0,[],i⟩]) ss.length=ly at *;obtain⟨t2,Hs,htl,hst⟩:=ih.starts;refine⟨fun j hj=>?_,⟨?_,?_⟩,?_,fun hg ht=>?_,ly.2::t2,by simp[Hs],by simp[htl],fun k s' hk=>?_⟩
    · rw[ih.pre j (by omega),hpre j (by omega),List.getElem?_append_left hj]
    · have:=ih.len.1;omega
    · have:=ih.len.2;simp only[List.length_cons];omega
    · have:=ih.tot;simp only[List.length_cons];omega
    · have hgl:=nE (bR s).1 (ss++[⟨2,0,[],i⟩]) ss.length (hg.append (by intro x hx j hj;simp at hx;subst hx;cases hj)) (by simp);rw[hly] at hgl
      exact ih.good hgl.1 (fun j hj=>by
       rcases List.mem_append.1 hj with h1|h1
       · have:=ht j h1;omega
       · have:j=ly.2:=by simpa using h1
         rw[this];exact hgl.2)
    · cases k with
      |zero =>
       simp at hk;subst hk;refine⟨he,ss.length,ly.2,rfl,Nat.le_refl _,?_,fun F fin hS hF=>?_⟩
       · rw[ih.pre _ (by omega),hpre _ (by omega)];simp
       · have:=jE hF (bR s).1 (ss++[⟨2,0,[],i⟩]) ss.length (fun j h1 h2=>by
          rw[hly] at h2 ⊢;simp only[List.length_append,List.length_singleton] at h1;rw[hS j (by omega) (by have:=ih.len.1;omega)];exact ih.pre j h2)
         rwa [hly] at this
      |succ k =>
       obtain⟨h0,a,b,hb,hla,ha,hsp⟩:=hst k s' (by simpa using hk);exact⟨h0,a,b,by simpa using hb,by omega,by rw[ha];simp;omega,fun F fin hS hF=>hsp F fin (fun j h1 h2=>hS j (by omega) h2) hF⟩
structure Made (rules:List By) (ss:List bM) (st:Nat):Prop where
 good:Good ss
 stl:st<ss.length
 len:ss.length<=30000
 tot:dQ ss<=110000
 num:rules.length<=64
 lng:∀r w,(∃n,Acc ss (kD ss r) n st w)↔∃s,rules[r]? =some s/\Hx (bR s).1 w
theorem ie {rules:List By}{ss:List bM}(h:dV rules= .inr (ss,st)):Made rules ss st:=by
 unfold dV at h;split at h
 · cases h
 · rename_i hn;split at h
   · cases h
   · rename_i ss0 t hm;split at h
     · cases h
     · cases h;have k:=rU _ _ _ _ _ _ hm;obtain⟨t2,Hs,htl,hst⟩:=k.starts;have ht:t=t2:=by simpa using Hs
       subst ht;have hl:=k.len.2;have htot:=k.tot;have hgd:=k.good (by intro x hx;cases hx) (by intro j hj;cases hj);simp only[List.length_nil] at hl;have h0:dQ ([]:List bM)=0:=rfl;have hF:(ss0++[⟨0,0,t,0⟩])[ss0.length]? =some ⟨0,0,t,0⟩:=by simp
       have hS:EG (ss0++[⟨0,0,t,0⟩]) ss0 ([]:List bM).length:=fun i _ h2=>List.getElem?_append_left h2
       refine⟨hgd.1.append (by intro x hx j hj;simp at hx;subst hx;have:=hgd.2 j hj;simp;omega),by simp,by simp;omega,?_,by omega,fun r w=>?_⟩
       · have hq:dQ [(⟨0,0,t,0⟩:bM)]=t.length+1:=by simp[dQ]
         rw[fe,hq];omega
       · constructor
         · rintro⟨n,hw⟩;obtain⟨m,q',_,hq,hw'⟩:=hw.fork (qt _ r) hF rfl;obtain⟨k',hk'⟩:=List.getElem?_of_mem hq;have hkl:k'<t.length:=(List.getElem?_eq_some_iff.1 hk').1;obtain⟨s,hs⟩:∃s,rules[k']? =some s:=⟨_,List.getElem?_eq_getElem (by omega)⟩
           obtain⟨_,a,b,hb,_,ha,hsp⟩:=hst k' s hs;rw[hk'] at hb;cases hb;obtain⟨u,v,m',rfl,hu,_,hv⟩:=(hsp _ _ hS (qt _ r)).1 _ _ hw';have ha':(ss0++[(⟨0,0,t,0⟩:bM)])[a]? =some ⟨2,0,[],0+k'⟩:=by rw[hS a (Nat.zero_le _) (List.getElem?_eq_some_iff.1 ha).1,ha]
           cases hv with
           |done hfin =>
            obtain⟨x,hx,_,hr⟩:=hfin;rw[ha'] at hx;cases hx;simp only[Nat.zero_add] at hr;subst hr;exact⟨s,hs,by rw[List.append_nil];exact hu⟩
           |eps hx hk _ _=>rw[ha'] at hx;cases hx;cases hk
           |eat hx hk _ _ _=>rw[ha'] at hx;cases hx;cases hk
         · rintro⟨s,hs,hw⟩;obtain⟨_,a,b,hb,_,ha,hsp⟩:=hst r s hs;have ha':(ss0++[(⟨0,0,t,0⟩:bM)])[a]? =some ⟨2,0,[],0+r⟩:=by rw[hS a (Nat.zero_le _) (List.getElem?_eq_some_iff.1 ha).1,ha]
           obtain⟨n,hn⟩:=(hsp _ _ hS (qt _ r)).2 w [] 0 hw (.done ⟨_,ha',rfl,by simp⟩);rw[List.append_nil] at hn;exact⟨n+1,.eps (q':=b) hF rfl (show b∈t from List.mem_of_getElem? hb) hn⟩
theorem vW {f:Nat->Nat}:∀{a b:List Nat},a.Sublist b->(a.map f).sum<=(b.map f).sum
 |_,_,.slnil=>by simp
 |_,_,.cons _ h=>by have:=vW (f:=f) h;simp;omega
 |_,_,.cons_cons _ h=>by have:=vW (f:=f) h;simp;omega
theorem C1:∀ss:List bM,(ss.map fun x=>x.to.length).sum<=dQ ss
 | []=>by simp[dQ]
 |x::r=>by have:=C1 r;simp[dQ] at *;omega
theorem DQ (ss:List bM):((List.range ss.length).map fun i=>match ss[i]? with|some x=>x.to.length|none=>0).sum<=dQ ss:=by
 have:((List.range ss.length).map fun i=>match ss[i]? with|some x=>x.to.length|none=>0)=ss.map fun x=>x.to.length:=by
  apply List.ext_getElem
  · simp
  · intro i h1 h2;simp at h2;simp[h2]
 rw[this];exact C1 ss
theorem uM (ss:List bM) (c:UInt8):∀(l a:List Nat),(stepG ss c l a).length<=a.length+(l.map fun i=>match ss[i]? with|some x=>x.to.length|none=>0).sum
 | [],a=>by simp[stepG]
 |j::r,a=>by
  rw[stepG];refine Nat.le_trans (uM ss c r _) ?_;simp only[List.map_cons,List.sum_cons];cases ss[j]? with
  |none=>simp
  |some x=>simp only;split<;>simp<;>omega
theorem DG {ss:List bM}(c:UInt8){now:List Nat}(h:now.Sublist (List.range ss.length)):(stepG ss c now []).length<=dQ ss:=by
 have h1:=uM ss c now [];have h2:=vW (f:=fun i=>match ss[i]? with|some x=>x.to.length|none=>0) h;have h3:=DQ ss;simp only[List.length_nil] at h1;omega
def IsMatch (P:Nat->Nat->Prop) (n:Nat) (o:Int×Int):Prop :=
 (o=(0,-1)/\∀k r,k<=n->¬P k r)\/∃k r:Nat,o=((k:Int),(r:Int))/\k<=n/\P k r/\(∀k' r',k'<=n->P k' r'->k'<=k)/\∀r',P k r'->r<=r'
def lz (ac:Nat->Int):Nat->Nat->Int×Int->Int×Int
 | 0,k,b=>if 0<=ac k then ((k:Int),ac k) else b
 |n+1,k,b=>lz ac n (k+1) (if 0<=ac k then ((k:Int),ac k) else b)
def mS (P:Nat->Nat->Prop) (m:Nat) (o:Int×Int):Prop :=
 (o=(0,-1)/\∀k r,k<m->¬P k r)\/∃k r:Nat,o=((k:Int),(r:Int))/\k<m/\P k r/\(∀k' r',k'<m->P k' r'->k'<=k)/\∀r',P k r'->r<=r'
theorem mS.next {P:Nat->Nat->Prop}{m:Nat}{o:Int×Int}{a:Int}(h:mS P m o) (ha:lG (P m) a):mS P (m+1) (if 0<=a then ((m:Int),a) else o):=by
 rcases ha with ⟨rfl,h1⟩|⟨r,rfl,h1,h2⟩
 · rw[if_neg (by decide)]
   rcases h with ⟨rfl,h3⟩|⟨k,r,rfl,hk,hp,h3,h4⟩
   · exact .inl ⟨rfl,fun k r hk hp=>by
      by_cases e:k=m
      · subst e;exact h1 _ hp
      · exact h3 k r (by omega) hp⟩
   · exact .inr ⟨k,r,rfl,by omega,hp,fun k' r' hk' hp'=>by
      by_cases e:k'=m
      · subst e;exact absurd hp' (h1 _)
      · exact h3 k' r' (by omega) hp',h4⟩
 · rw[if_pos (by omega)];exact .inr ⟨m,r,rfl,by omega,h1,fun k' r' hk' _=>by omega,h2⟩
theorem tw {P:Nat->Nat->Prop}{ac:Nat->Int}:∀(n k:Nat) (b:Int×Int),mS P k b->(∀j,k<=j->j<=k+n->lG (P j) (ac j))->mS P (k+n+1) (lz ac n k b)
 | 0,k,b,h,ha=>by rw[lz];exact h.next (ha k (Nat.le_refl _) (by omega))
 |n+1,k,b,h,ha=>by
  rw[lz];have:=tw n (k+1) _ (h.next (ha k (Nat.le_refl _) (by omega))) (fun j h1 h2=>ha j (by omega) (by omega))
  rwa [show k+(n+1)+1=k+1+n+1 by omega]
theorem mS.match {P:Nat->Nat->Prop}{o:Int×Int}(h:mS P (n+1) o):IsMatch P n o:=by
 rcases h with ⟨rfl,h1⟩|⟨k,r,rfl,hk,hp,h1,h2⟩
 · exact .inl ⟨rfl,fun k r hk=>h1 k r (by omega)⟩
 · exact .inr ⟨k,r,rfl,by omega,hp,fun k' r' hk'=>h1 k' r' (by omega),h2⟩
theorem uL (ss:List bM) (c:UInt8):cz ss c []=[]:=by simp[cz,stepG,closed]
theorem oY (ss:List bM) (st:Nat) (a b:By):iP ss st (a++b)=b.foldl (fun T c=>cz ss c T) (iP ss st a):=by simp[iP,List.foldl_append]
theorem CS (ss:List bM):∀w:By,w.foldl (fun T c=>cz ss c T) ([]:List Nat)=[]
 | []=>rfl
 |c::w=>by rw[List.foldl_cons,uL,CS ss w]
theorem tu {ac:Nat->Int}:∀(n k:Nat) (b:Int×Int),(∀j,k<=j->j<=k+n->ac j<0)->lz ac n k b=b
 | 0,k,b,h=>by rw[lz,if_neg (by have:=h k (Nat.le_refl _) (by omega);omega)]
 |n+1,k,b,h=>by
  rw[lz,if_neg (by have:=h k (Nat.le_refl _) (by omega);omega)];exact tu n (k+1) b (fun j h1 h2=>h j (by omega) (by omega))
theorem zq {ss:List bM}:∀(l a:By) (b:Int×Int),ic ss l (iP ss st a) a.length b=lz (fun k=>bz ss (iP ss st ((a++l).take k))) l.length a.length b:=by
 have none_:∀(l a:By) (b:Int×Int),iP ss st a=[]->ic ss l (iP ss st a) a.length b=lz (fun k=>bz ss (iP ss st ((a++l).take k))) l.length a.length b:=by
  intro l a b h;rw[rT (by rw[h];rfl),tu];intro j h1 h2;have:(a++l).take j=a++l.take (j-a.length):=by rw[List.take_append,List.take_of_length_le h1]
  rw[this,oY,h,CS];unfold bz;split
  · decide
  · simp[mQ]
 intro l
 induction l with
 |nil =>
  intro a b
  by_cases h:iP ss st a=[]
  · exact none_ [] a b h
  · rw[ic,if_neg (by simpa using h),List.length_nil,lz];simp
 |cons c r ih =>
  intro a b
  by_cases h:iP ss st a=[]
  · exact none_ (c::r) a b h
  · rw[ic,if_neg (by simpa using h)];simp only[List.length_cons,lz];have h1:=ih (a++[c]) (if 0<=bz ss (iP ss st a) then ((a.length:Int),bz ss (iP ss st a)) else b);rw[oY] at h1;simp only[List.foldl_cons,List.foldl_nil,List.length_append,List.length_singleton,List.append_assoc,List.singleton_append] at h1;rw[h1];have e:(a++c::r).take a.length=a:=by simp
    rw[e]
theorem kU {rules:List By}{ss:List bM}(k:Made rules ss st) (l:By):IsMatch (fun n r=>∃s,rules[r]? =some s/\Hx (bR s).1 (l.take n)) l.length (cQ ss st l):=by
 have hst:=k.stl;unfold cQ;rw[if_neg (by omega)];have h:=zq (ss:=ss) (st:=st) l [] (0,-1);have e:iP ss st []=cg ss st:=rfl;rw[e] at h;simp only[List.length_nil,List.nil_append] at h;rw[h]
 have:=tw (P:=fun n r=>∃s,rules[r]? =some s/\Hx (bR s).1 (l.take n)) (ac:=fun k=>bz ss (iP ss st (l.take k))) l.length 0 (0,-1) (.inl ⟨rfl,fun k r hk=>by omega⟩) (fun j _ _=>by
  have h1:=uz k.good k.stl (l.take j)
  have e:(fun r=>∃n,Acc ss (kD ss r) n st (l.take j))=(fun r=>∃s,rules[r]? =some s/\Hx (bR s).1 (l.take j)):=by
   funext r;exact propext (k.lng r _)
  rw[e] at h1;exact h1)
 rw[Nat.zero_add] at this;exact this.match
end
end Go.Proofs.YtdihgdeciopfpaaGreatDoor
