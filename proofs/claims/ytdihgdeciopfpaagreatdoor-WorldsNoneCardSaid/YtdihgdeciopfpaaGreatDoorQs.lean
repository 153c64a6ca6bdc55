/- What the proof of the statement leans on (part 19). -/
import Derived.LoopNIn
import Derived.OrdersIn
import Derived.Test.YtdihgdeciopfpaaGreatDoorQr

namespace Go.Lw
open Go.RowKit
section
variable {ops:Array Oper}{listed:Array Bool}{fuel n d:Nat}{N:Env->aj->Prop}{o:Oper}{Φ:Value->aj->Prop}{P:Program}{r:Loop}{args:Array Value}{h:aj}{ρ:Env}{ca cb:Code}
structure BI (P:Program) (ro:Option Nat) (n:Nat) (c:Code) (ρ:Env) (h:aj) (Q:Exit->Env->aj->Prop):Prop where
 go:∀m B a w,Fits n ρ a->At B h w->c.wpIn (FW ro) m P (fun e a' w'=>∃ρ' h',Fits n ρ' a'/\At B h' w'/\Q e ρ' h') a w
@[reducible] def Ny (N:Env->aj->Prop) (Q:Exit->Env->aj->Prop):Exit->Env->aj->Prop
 |.normal,ρ,h=>N ρ h
 |e,ρ,h=>Q e ρ h
@[reducible] def Sw (id:Nat) (Q:Exit->Env->aj->Prop):Exit->Env->aj->Prop
 |.exit i,ρ,h=>match Nat.beq i id with|true=>Q .normal ρ h|false=>Q (.exit i) ρ h
 |e,ρ,h=>Q e ρ h
section
variable {P:Program}{ro:Option Nat}{n:Nat}{ρ:Env}{h:aj}{Q:Exit->Env->aj->Prop}
theorem BI.skip (k:Q .normal ρ h):BI P ro n .skip ρ h Q:=⟨fun _ _ _ _ hf ha=>wpIn_skip ⟨ρ,h,hf,ha,k⟩⟩
theorem BI.exit {id:Nat}(k:Q (.exit id) ρ h):BI P ro n (.exit id) ρ h Q:=⟨fun _ _ _ _ hf ha=>wpIn_exit ⟨ρ,h,hf,ha,k⟩⟩
theorem BI.cA {id:Nat}(k:bS P ro n ops 0 ρ h (fun ρ' h'=>Q .normal ρ' h') (fun _ _=>False)):BI P ro n (.region id ops false) ρ h Q:=by
 refine⟨fun m B a w hf ha=>wpIn_region ?_⟩;have:=k m B a w hf ha (fun e a' w'=>∃ρ' h',Fits n ρ' a'/\At B h' w'/\Q e ρ' h') (fun ρ' h' a' w' f' a'' hn=>⟨ρ',h',f',a'',hn⟩) (fun _ _ _ _ _ _ q=>q.elim)
 rwa [List.drop_zero] at this
theorem BI.seq {x y:Code}(k:BI P ro n x ρ h (Ny (fun ρ' h'=>BI P ro n y ρ' h' Q) Q)):BI P ro n (.seq x y) ρ h Q:=by
 refine⟨fun m B a w hf ha=>wpIn_seq (wpIn_mono (k.go m B a w hf ha) ?_)⟩;rintro e a' w' ⟨ρ',h',f',a'',hq⟩;cases e with
 |normal=>exact hq.go m B a' w' f' a''
 |_=>exact⟨ρ',h',f',a'',hq⟩
theorem BI.cond {x y:Code}{c:Operand}{t:Bool}(hc:aU ρ c=some (.bool t)) (h1:t=true->BI P ro n x ρ h Q) (h2:t=false->BI P ro n y ρ h Q):BI P ro n (.cond c x y) ρ h Q :=
 ⟨fun m B a w hf ha=>wpIn_cond_split (hf.eval hc) (fun q=>(h1 q).go m B a w hf ha) (fun q=>(h2 q).go m B a w hf ha)⟩
theorem BI.block {id:Nat}{c:Code}(k:BI P ro n c ρ h (Sw id Q)):BI P ro n (.block id c) ρ h Q:=by
 refine⟨fun m B a w hf ha=>wpIn_block (wpIn_mono (k.go m B a w hf ha) ?_)⟩;rintro e a' w' ⟨ρ',h',f',a'',hq⟩;cases e with
 |exit i =>
  show (if i=id then _ else _:Prop)
  have hq:(match Nat.beq i id with|true=>Q .normal ρ' h'|false=>Q (.exit i) ρ' h'):=hq
  by_cases e:i=id
  · subst e;rw[if_pos rfl];rw[Nat.beq_refl] at hq;exact⟨ρ',h',f',a'',hq⟩
  · rw[if_neg e]
    have hb:Nat.beq i id=false:=by
     cases q:Nat.beq i id with
     |true=>exact absurd (Nat.eq_of_beq_eq_true q) e
     |false=>rfl
    rw[hb] at hq;exact⟨ρ',h',f',a'',hq⟩
 |_=>exact⟨ρ',h',f',a'',hq⟩
theorem BI.loop {σ:Type}{c:Code}(env:σ->Env) (inv:σ->aj->Prop) (meas:σ->Nat) (s0:σ) (hs:Sub (env s0) ρ) (hi:inv s0 h)
 (step:∀s g,inv s g->BI P ro n c (env s) g (Ny (fun ρ' g'=>∃s',Sub (env s') ρ'/\inv s' g'/\meas s'<meas s) Q)):BI P ro n (.loop c) ρ h Q:=by
 refine⟨fun m B a w hf ha=>?_⟩
 have key:∀k s g a w,meas s<k->Fits n (env s) a->At B g w->inv s g->Code.roundsIn (FW ro) m P c (fun e a' w'=>∃ρ' h',Fits n ρ' a'/\At B h' w'/\Q e ρ' h') k a w:=by
  intro k
  induction k with
  |zero=>intro s g a w hk;omega
  |succ k ih =>
   intro s g a w hk hf ha hv;refine wpIn_mono ((step s g hv).go m B a w hf ha) ?_;rintro e a' w' ⟨ρ',h',f',a'',hq⟩;cases e with
   |normal =>
    obtain⟨s',h1,h2,h3⟩:=hq;exact ih s' h' a' w' (by omega) (f'.sub h1) a'' h2
   |_=>exact⟨ρ',h',f',a'',hq⟩
 exact wpIn_loop_rounds (meas s0+1) (key _ s0 h a w (Nat.lt_succ_self _) (hf.sub hs) ha hi)
theorem BI.sub {c:Code}{ρ':Env}(hs:Sub ρ' ρ) (k:BI P ro n c ρ' h Q):BI P ro n c ρ h Q:=⟨fun m B a w hf ha=>k.go m B a w (hf.sub hs) ha⟩
def tF (P:Program) (ro:Option Nat) (n:Nat) (ops:Array Oper) (fuel:Nat) (listed:Array Bool) (ρ:Env) (h:aj) (N:Env->aj->Prop):Prop :=
 ∀m B a w,Fits n ρ a->At B h w->wpAnyIn (FW ro) m P .any ops (fun e a' w'=>e= .normal/\∃ρ' h',Fits n ρ' a'/\At B h' w'/\N ρ' h') fuel listed a w
theorem LD {id sz:Nat}(hm:P.follows .mixedOrders=true) (hsz:ops.size=sz) (hl:Array.replicate sz false=listed) (k:tF P ro n ops sz listed ρ h (fun ρ' h'=>Q .normal ρ' h')):BI P ro n (.region id ops true) ρ h Q:=by
 subst hl;subst hsz;refine⟨fun m B a w hf ha=>?_⟩;refine wpIn_mono (wpIn_region_any hm (k m B a { w with drawn:=w.drawn+1 } hf ha.drew)) ?_;rintro e a' w' ⟨rfl,ρ',h',f',a'',hq⟩;exact⟨ρ',h',f',a'',hq⟩
theorem tF.done (hr:Region.ready .any ops listed=[]) (k:N ρ h):tF P ro n ops fuel listed ρ h N:=by
 intro m B a w hf ha;cases fuel with
 |zero=>exact⟨hr,rfl,ρ,h,hf,ha,k⟩
 |succ f=>exact⟨fun _=>⟨rfl,ρ,h,hf,ha,k⟩,fun i hi=>by rw[hr] at hi;cases hi⟩
def jS (P:Program) (ro:Option Nat) (n:Nat) (ops:Array Oper) (fuel:Nat) (listed:Array Bool) (ρ:Env) (h:aj) (N:Env->aj->Prop) (i:Nat):Prop :=
 ∃(o:Oper) (Φ:Value->aj->Prop) (listed':Array Bool),nth ops.toList i=some o/\o.guard=none/\gW o=true/\gJ n o.dst=true/\aB P o ρ h Φ (fun _ _=>False)/\listed.setIfInBounds i true=listed' /\
  ∀v h',Φ v h'->tF P ro n ops fuel listed' (ρ.put o.dst v) h' N
theorem jS.mk {listed':Array Bool}{i:Nat}{od:Option Nat}(ho:nth ops.toList i=some o) (hg:o.guard=none) (hnd:gW o=true) (hod:o.dst=od) (hd:gJ n od=true) (hl:listed.setIfInBounds i true=listed') (k:aB P o ρ h Φ (fun _ _=>False))
 (next:∀v h',Φ v h'->tF P ro n ops fuel listed' (ρ.put od v) h' N):jS P ro n ops fuel listed ρ h N i:=by
 subst hod;exact⟨o,Φ,listed',ho,hg,hnd,hd,k,hl,next⟩
theorem jS.go {i:Nat}(k:jS P ro n ops fuel listed ρ h N i){m:Nat}{B:World}{a:Act}{w:World}(hf:Fits n ρ a) (ha:At B h w) :
 wpOpIn (FW ro) m P ops (fun e a' w'=>e= .normal/\∃ρ' h',Fits n ρ' a'/\At B h' w'/\N ρ' h') i (wpAnyIn (FW ro) m P .any ops (fun e a' w'=>e= .normal/\∃ρ' h',Fits n ρ' a'/\At B h' w'/\N ρ' h') fuel (listed.setIfInBounds i true)) a w:=by
 obtain⟨o,Φ,listed',ho',hg,hnd,hd,k,hl,next⟩:=k;subst hl;have ho:=dU ho';unfold wpOpIn;simp only[ho];have hw:Region.wanted o (yielded ops a.tmps)=true:=by unfold Region.wanted;rw[hg]
 rw[hw,if_pos rfl];exact k.R4 (lA hnd) hf ha (fun v h' w' ha' hv=>next v h' hv m B _ w' (hf.put hd v) ha') (fun _ _ _ _ q=>q.elim)
theorem tF.one (i:Nat) (hr:Region.ready .any ops listed=[i]) (k:jS P ro n ops fuel listed ρ h N i):tF P ro n ops (fuel+1) listed ρ h N :=
 fun _ _ _ _ hf ha=>⟨fun q=>(by rw[hr] at q;cases q),fun j hj=>by
  rw[hr] at hj;obtain rfl:j=i:=by simpa using hj
  exact k.go hf ha⟩
theorem FZ (i j:Nat) (hr:Region.ready .any ops listed=[i,j]) (k1:jS P ro n ops fuel listed ρ h N i) (k2:jS P ro n ops fuel listed ρ h N j):tF P ro n ops (fuel+1) listed ρ h N :=
 fun _ _ _ _ hf ha=>⟨fun q=>(by rw[hr] at q;cases q),fun l hl=>by
  rw[hr] at hl
  rcases (show l=i\/l=j by simpa using hl) with rfl|rfl
  · exact k1.go hf ha
  · exact k2.go hf ha⟩
end
section
variable {P:Program}{ro:Option Nat}{n:Nat}{c0:Code}{p:List Nat}{ρ:Env}{h:aj}{S:Exit->Env->aj->Prop}
theorem GI.sub {c:Code}{ρ':Env}(hs:Sub ρ' ρ) (k:BI P ro n c ρ' h S):BI P ro n c ρ h S:=BI.sub hs k
theorem GI.skip (hk:kind (Lw.sub c0 p)=0) (k:S .normal ρ h):BI P ro n (Lw.sub c0 p) ρ h S:=by
 cases hc:Lw.sub c0 p<;>simp[hc,kind] at hk
 · exact BI.skip k
 · rename_i d;cases d<;>simp at hk
theorem GI.exit {id:Nat}(hk:kind (Lw.sub c0 p)=8) (hid:FK (Lw.sub c0 p)=id) (k:S (.exit id) ρ h):BI P ro n (Lw.sub c0 p) ρ h S:=by
 subst hid;cases hc:Lw.sub c0 p<;>simp[hc,kind] at hk
 · rename_i d;cases d<;>simp at hk
 · rw[hc] at k;exact BI.exit k
theorem GI.seq (hk:kind (Lw.sub c0 p)=1) (k:BI P ro n (Lw.sub c0 (0::p)) ρ h (Ny (fun ρ' h'=>BI P ro n (Lw.sub c0 (1::p)) ρ' h' S) S)):BI P ro n (Lw.sub c0 p) ρ h S:=by
 simp only[Lw.sub] at k;cases hc:Lw.sub c0 p<;>simp[hc,kind] at hk
 · rename_i d;cases d<;>simp at hk
 · rw[hc] at k;exact BI.seq k
theorem GI.block {id:Nat}(hk:kind (Lw.sub c0 p)=2) (hid:FK (Lw.sub c0 p)=id) (k:BI P ro n (Lw.sub c0 (0::p)) ρ h (Sw id S)):BI P ro n (Lw.sub c0 p) ρ h S:=by
 subst hid;simp only[Lw.sub] at k;cases hc:Lw.sub c0 p<;>simp[hc,kind] at hk
 · rename_i d;cases d<;>simp at hk
 · rw[hc] at k;exact BI.block k
theorem GI.cond {t:Bool}(hk:kind (Lw.sub c0 p)=7) (hc:aU ρ (jM (Lw.sub c0 p))=some (.bool t)) (ht:t=true->BI P ro n (Lw.sub c0 (0::p)) ρ h S) (hn:t=false->BI P ro n (Lw.sub c0 (1::p)) ρ h S):BI P ro n (Lw.sub c0 p) ρ h S:=by
 simp only[Lw.sub] at ht hn;cases hcc:Lw.sub c0 p<;>simp[hcc,kind] at hk
 · rename_i d;cases d<;>simp at hk
 · rw[hcc] at hc ht hn;exact BI.cond hc ht hn
theorem Of {φ:Prop}[Decidable φ] (hk:kind (Lw.sub c0 p)=7) (hc:aU ρ (jM (Lw.sub c0 p))=some (.bool (decide φ))) (ht:φ->BI P ro n (Lw.sub c0 (0::p)) ρ h S) (hn:¬φ->BI P ro n (Lw.sub c0 (1::p)) ρ h S):BI P ro n (Lw.sub c0 p) ρ h S :=
 GI.cond hk hc (fun e=>ht (of_decide_eq_true e)) (fun e=>hn (of_decide_eq_false e))
theorem GI.cA {φ:Prop}(_:φ) (hk:kind (Lw.sub c0 p)=5) (k:bS P ro n (opsOf (Lw.sub c0 p)) 0 ρ h (fun ρ' h'=>S .normal ρ' h') (fun _ _=>False)):BI P ro n (Lw.sub c0 p) ρ h S:=by
 cases hc:Lw.sub c0 p<;>simp[hc,kind] at hk;rename_i id ops d;cases d<;>simp at hk;rw[hc] at k;exact BI.cA k
theorem Lz {sz:Nat}{listed:Array Bool}(hm:P.follows .mixedOrders=true) (hk:kind (Lw.sub c0 p)=6) (hsz:(opsOf (Lw.sub c0 p)).size=sz) (hl:Array.replicate sz false=listed) (k:tF P ro n (opsOf (Lw.sub c0 p)) sz listed ρ h (fun ρ' h'=>S .normal ρ' h')):BI P ro n (Lw.sub c0 p) ρ h S:=by
 cases hc:Lw.sub c0 p<;>simp[hc,kind] at hk;rename_i id ops d;cases d with
 |false=>simp at hk
 |true=>rw[hc] at k hsz;exact LD hm hsz hl k
theorem GI.loop {σ:Type}(E:σ->Env) (I:σ->aj->Prop) (μ:σ->Nat) (s0:σ) (hk:kind (Lw.sub c0 p)=3) (hs:Sub (E s0) ρ) (h0:I s0 h)
 (round:∀s h,I s h->∀K:Env->aj->Prop,(∀s' h' ρ',Sub (E s') ρ'->I s' h'->μ s' < μ s->K ρ' h')->BI P ro n (Lw.sub c0 (0::p)) (E s) h (Ny K S)):BI P ro n (Lw.sub c0 p) ρ h S:=by
 simp only[Lw.sub] at round;cases hc:Lw.sub c0 p<;>simp[hc,kind] at hk
 · rename_i d;cases d<;>simp at hk
 · rw[hc] at round;exact BI.loop E I μ s0 hs h0 fun s g hv=>round s g hv _ fun s' h' ρ' q1 q2 q3=>⟨s',q1,q2,q3⟩
end
theorem eC.RA {l:Nat}(hl:cD h l r) (hst:r.state= .ready) (hsz:args.size=r.params.size)
 (ht:Fits n ρ { tmps:=(r.params.zip args).foldl (fun tmps (t,a)=>tmps.setIfInBounds t a) r.tmps,defers:=[] }) (ha:r.assign=ca) (hb:r.body=cb)
 (walk:BI P (some l) n (Lw.sub ca []) ρ h (Ny (fun ρ1 h1=>cD h1 l r/\BI P (some l) n (Lw.sub cb []) ρ1 (cu h1 l (.loop { r with state:=.busy }))
  (fun e ρ2 h2=>∃r2,cD h2 l r2/\match e with|.normal=>Φ (.bool true) (cu h2 l (.loop { r2 with state:=.ready,pending:=none }))|.ret=>Φ (.bool false) (cu h2 l (.loop { r2 with state:=.done,pending:=some .ret }))|_=>False)) (fun _ _ _=>False))) :
 eC P l args h (bf Φ):=by
 subst ha;subst hb;intro m B w ha;have hlw:w.heap[l]? =some (.loop r):=by rw[ha.heap];exact hl
 refine⟨_,_,_,_,run_yield hlw hsz,roundIn_of_wpIn trivial ?_⟩;refine wpIn_mono (walk.go m B _ w ht ha) ?_;rintro e a1 w1 ⟨ρ1,h1,hf1,hw1,hq⟩;cases e with
 |normal =>
  obtain⟨hl1,walk2⟩:=hq;have hlw1:w1.heap[l]? =some (.loop r):=by rw[hw1.heap];exact hl1
  refine⟨_,run_beginRound hlw1 hst,?_⟩;refine wpIn_mono (walk2.go m B a1 _ hf1 (hw1.cu l _)) ?_;rintro e a2 w2 ⟨ρ2,h2,hf2,hw2,r2,hl2,hq⟩;have hlw2:w2.heap[l]? =some (.loop r2):=by rw[hw2.heap];exact hl2
  cases e with
  |normal=>exact⟨_,_,run_endRound none hlw2,_,hw2.cu l _,_,rfl,hq⟩
  |ret=>exact⟨_,_,run_endRound (some .ret) hlw2,_,hw2.cu l _,_,rfl,hq⟩
  |_=>exact hq.elim
 |_=>exact hq.elim
theorem BI.mono {ro:Option Nat}{c:Code}{Q Q':Exit->Env->aj->Prop}(k:BI P ro n c ρ h Q) (hq:∀e ρ' h',Q e ρ' h'->Q' e ρ' h'):BI P ro n c ρ h Q' :=
 ⟨fun m B a w hf ha=>wpIn_mono (k.go m B a w hf ha) fun _ _ _ ⟨ρ',h',f',a'',q⟩=>⟨ρ',h',f',a'',hq _ _ _ q⟩⟩
structure FX (L:Nat) (r:Loop) (J:aj->Prop) (g:aj):Prop where
 lp:cD g (L+1) r
 df:g[L]? =some (.deferred (some []))
 j:J g
abbrev Ik (r:Loop):Loop:= { r with state:=.done,pending:=some .ret }
theorem FX.yield {L:Nat}{g:aj}{J J' S:aj->Prop}(k:FX L r J g) (hst:r.state= .ready) (hpn:r.pending=none) (hsz:args.size=r.params.size)
 (ht:Fits n ρ { tmps:=(r.params.zip args).foldl (fun tmps (t,a)=>tmps.setIfInBounds t a) r.tmps,defers:=[] }) (ha:r.assign=ca) (hb:r.body=cb)
 (hJ:∀g1 g2,J' g1->Ext (fun b=>b=L+1) g1 g2->J' g2) (hS:∀g1 g2,S g1->Ext (fun b=>b=L+1) g1 g2->S g2)
 (walk:BI P (some (L+1)) n (Lw.sub ca []) ρ g (Ny (fun ρ1 g1=>aq g g1/\∀g3,Ext (fun b=>b=L+1) g1 g3->BI P (some (L+1)) n (Lw.sub cb []) ρ1 g3 (fun e _ g4=>(g4[L]? =g3[L]? /\g4[L+1]? =g3[L+1]?)/\(e= .normal/\J' g4\/e= .ret/\S g4))) (fun _ _ _=>False))) :
 eC P (L+1) args g (bf fun v h'=>∃go,v= .bool go/\(go=true->FX L r J' h')/\(go=false->FX L (Ik r) S h')):=by
 refine eC.RA k.lp hst hsz ht ha hb (walk.mono ?_);rintro e ρ1 g1 hq;cases e with
 |normal =>
  obtain⟨e1,w2⟩:=hq;have hlt:=k.lp.lt;have hz:=e1.size;have hx:Ext (fun b=>b=L+1) g1 (cu g1 (L+1) (.loop { r with state:=.busy })):=Ext.cu _ _ _ rfl;refine⟨k.lp.ext e1 (fun q=>q),(w2 _ hx).mono ?_⟩;rintro e ρ2 g4 ⟨⟨h4,h5⟩,hq⟩;have hl4:cD g4 (L+1) { r with state:=.busy }:=by rw[cD,h5];exact gQ (by omega)
  have hd4:g4[L]? =some (.deferred (some [])):=by
   rw[h4,hx.block L (by omega) (by omega),e1.block L (by omega) (fun q=>q)];exact k.df
  refine⟨_,hl4,?_⟩;have hl4':=hl4.lt
  rcases hq with ⟨rfl,hj⟩|⟨rfl,hs⟩
  · have hr2:({ ({ r with state:=.busy }:Loop) with state:=.ready,pending:=none }:Loop)=r:=by cases r;simp at hst hpn;simp[hst,hpn]
    rw[hr2];have hy:Ext (fun b=>b=L+1) g4 (cu g4 (L+1) (.loop r)):=Ext.cu _ _ _ rfl;exact⟨true,rfl,fun _=>⟨gQ hl4',(hy.block L (by omega) (by omega)).trans hd4,hJ _ _ hj hy⟩,fun q=>by cases q⟩
  · have hy:Ext (fun b=>b=L+1) g4 (cu g4 (L+1) (.loop { ({ r with state:=.busy }:Loop) with state:=.done,pending:=some .ret })):=Ext.cu _ _ _ rfl;exact⟨false,rfl,(fun q=>by cases q),fun _=>⟨gQ hl4',(hy.block L (by omega) (by omega)).trans hd4,hS _ _ hs hy⟩⟩
 |_=>exact hq.elim
section
variable {P:Program}{f:FuncId}{fn:Func}{k:List It}{ρ:Env}{h:aj}{R:Ending->aj->Prop}{p:List Nat}
theorem G.D1 {g:Operand}{ps:Array Tmp}{assign body:Code}{f':FuncId}{fn':Func}{caps:Array Value}(J:aj->Prop) (hk:Lw.sub (ay fn) p= .rangeFunc g ps assign body) (hg:aU ρ g=some (.func (.func f') #[] caps))
 (hfn':P.funcs[f']? =some fn') (hb':fn'.body.isSome=true) (hnm':(fn'.name == "runtime.NumGoroutine")=false)
 (hcall:∀fid tmps hL,Fits fn.ntmps ρ { tmps:=tmps,defers:=[] }->aq h hL->FX h.size (eP fid tmps ps assign body h.size) (fun _=>True) hL->af P f' (#[.func (.yield (h.size+1)) #[] #[]]++caps) hL (bf fun _ h'=>FX h.size (eP fid tmps ps assign body h.size) J h'))
 (hend:∀g g1,J g->g[h.size]? =some (.deferred (some []))->h.size+1<g.size->Ext (fun b=>b=h.size+1) g g1->GD P (lB h.size) f fn k ρ g1 R):G P f fn (.code p::k) ρ h R:=by
 refine G.rangeFunc hk hg hfn' hb' hnm' fun fid tmps hf=>?_
 have e1:aq h ((h.push (.deferred (some []))).push (.loop (eP fid tmps ps assign body h.size))):=(Ext.push _ _ _).trans (Ext.push _ _ _);have hz:(h.push (.deferred (some []))).size=h.size+1:=by simp
 refine(hcall fid tmps _ hf e1 ⟨by rw[cD,<-hz];exact Array.getElem?_push_size,?_,trivial⟩).ret ?_
 · rw[(Ext.push (fun _=>False) (h.push (.deferred (some []))) _).block h.size (by simp) (fun k=>k)];exact Array.getElem?_push_size
 · rintro _ h' ⟨hl,hd,hj⟩;exact⟨_,hl,by simp[eP],rfl,hend h' _ hj hd hl.lt (Ext.cu _ _ _ rfl)⟩
end
theorem eC.ret {l:Nat}{Φ':Value->aj->Prop}(k:eC P l args h (bf Φ)) (hq:∀v h',Φ v h'->Φ' v h'):eC P l args h (bf Φ'):=by
 intro m B w ha;obtain⟨fn,tmps,assign,body,hy,hR⟩:=k m B w ha;exact⟨fn,tmps,assign,body,hy,hR.mono fun e w' ⟨h',ha',v,he,hp⟩=>⟨h',ha',v,he,hq _ _ hp⟩⟩
theorem FX.Du {L:Nat}{g:aj}{J J':aj->Prop}(k:FX L r J g) (hst:r.state= .ready) (hpn:r.pending=none) (hsz:args.size=r.params.size)
 (ht:Fits n ρ { tmps:=(r.params.zip args).foldl (fun tmps (t,a)=>tmps.setIfInBounds t a) r.tmps,defers:=[] }) (ha:r.assign=ca) (hb:r.body=cb) (hJ:∀g1 g2,J' g1->Ext (fun b=>b=L+1) g1 g2->J' g2)
 (walk:BI P (some (L+1)) n (Lw.sub ca []) ρ g (Ny (fun ρ1 g1=>aq g g1/\∀g3,Ext (fun b=>b=L+1) g1 g3->BI P (some (L+1)) n (Lw.sub cb []) ρ1 g3 (fun e _ g4=>e= .normal/\(g4[L]? =g3[L]? /\g4[L+1]? =g3[L+1]?)/\J' g4)) (fun _ _ _=>False))) :
 eC P (L+1) args g (bf fun v h'=>v= .bool true/\FX L r J' h'):=by
 refine(k.yield (S:=fun _=>False) hst hpn hsz ht ha hb hJ (fun _ _ q _=>q) (walk.mono fun e ρ1 g1 q=>?_)).ret fun v h' ⟨go,hv,h1,h2⟩=>?_
 · cases e with
   |normal=>exact⟨q.1,fun g3 x=>(q.2 g3 x).mono fun e ρ2 g4 q=>⟨q.2.1,.inl ⟨q.1,q.2.2⟩⟩⟩
   |_=>exact q.elim
 · cases go with
   |true=>exact⟨hv,h1 rfl⟩
   |false=>exact(h2 rfl).j.elim
theorem we {tmps:Array Value}{p1:Nat}{v1:Value}(hf:Fits n ρ { tmps:=tmps,defers:=[] }) (h1:Nat.blt p1 n=true) :
 Fits n ((p1,v1)::ρ) { tmps:=((#[p1]:Array Nat).zip #[v1]).foldl (fun tmps (t,a)=>tmps.setIfInBounds t a) tmps,defers:=[] }:=by
 have:=hf.put (dst:=some p1) h1 v1;simpa [Act.put,Env.put] using this
section
variable {P:Program}{ro:Option Nat}{n:Nat}{ops:Array Oper}{i:Nat}{ρ:Env}{h:aj}{N:Env->aj->Prop}{X:List PanicEntry->aj->Prop}
theorem bS.SW (ho':nth ops.toList i=some o) (hw:aM ops ρ o=some true) (hnd:gW o=true) (hod:o.dst=some d) (hd:Nat.blt d n=true) (k:aB P o ρ h Φ X)
 (next:∀v h',Φ v h'->bS P ro n ops (i+1) ((d,v)::ρ) h' N X):bS P ro n ops i ρ h N X:=by
 have ho:=dU ho';intro m B a w hf ha Q hN hX;rw[gP (iU ho)];simp only[wpOpsIn,ho];rw[cH hf hw,if_pos rfl];refine k.R4 (lA hnd) hf ha (fun v h' w' ha' hv=>?_) (fun ch h' w' ha' hx=>hX ch h' a w' hf.nd ha' hx);rw[hod];exact next v h' hv m B _ w' (hf.put (dst:=some d) hd v) ha' Q hN hX
theorem bS.L7 {v:Value}(ho:nth ops.toList i=some o) (hw:aM ops ρ o=some true) (hnd:gW o=true) (hod:o.dst=some d) (hd:Nat.blt d n=true) (k:ai P o ρ h v)
 (next:bS P ro n ops (i+1) ((d,v)::ρ) h N X):bS P ro n ops i ρ h N X:=bS.SW ho hw hnd hod hd k.bD (fun _ _ ⟨hv,hh⟩=>by subst hv;subst hh;exact next)
theorem bS.bH {b b':Bool}(hb:ρ.at d=some (.bool b)) (e:b=b') (next:bS P ro n ops i ((d,.bool b')::ρ) h N X):bS P ro n ops i ρ h N X:=by
 subst e;refine fun m B a w hf ha=>next m B a w ⟨hf.size,fun j v hv=>?_,hf.nd⟩ ha
 rw[Env.eT] at hv;split at hv
 · rename_i e;subst e;cases hv;exact hf.ok d _ hb
 · exact hf.ok j v hv
end
end
end Go.Lw
namespace Go.Lw
section
variable {o oi:Oper}{v:Value}
section
variable {P:Program}{ops:Array Oper}{M:Nat->Prop}{keeps:Nat->Bool}{Q:Exit->Act->World->Prop}
def fL (P:Program) (ops:Array Oper) (o:Oper) (v:Value) (a:Act):Prop :=
 (Region.wanted o (yielded ops a.tmps)=true/\∀w',(execOp a.eval o).run P w'= .ok (.value v) w') \/
 (Region.wanted o (yielded ops a.tmps)=false/\v=undef)
theorem fL.wpOp {i:Nat}{o:Oper}{v:Value}{a:Act}{w:World}(hi:ops[i]? =some o) (hy:fL P ops o v a)
 {K:Act->World->Prop}(h:K (a.put o.dst v) w):wpOp P ops Q i K a w:=by
 unfold Go.wpOp;simp only[hi]
 rcases hy with ⟨hw,hv⟩|⟨hw,rfl⟩
 · simp only[hw,if_true,Oper.wp,hv w,Oper.upon];exact .inl h
 · simp only[hw,Bool.false_eq_true,if_false];exact h
theorem fL.of_same {a a':Act}(hy:fL P ops o v a) (he:execOp a'.eval o=execOp a.eval o)
 (hw:Region.wanted o (yielded ops a'.tmps)=Region.wanted o (yielded ops a.tmps)):fL P ops o v a':=by
 unfold fL at *;rw[he,hw]
 rcases hy with ⟨h1,h2⟩|h
 · exact .inl ⟨h1,h2⟩
 · exact .inr h
theorem Ga {j:Nat}{oj:Oper}(hj:ops[j]? =some oj) (hap:oi.apart ops oj=true)
 (hsi:∀cs b,oi.op≠ .select cs b) (hsj:∀cs b,oj.op≠ .select cs b)
 (hQ:∀c a w,Q (.panic c) (a.put oi.dst v) w->Q (.panic c) a w){K:Act->World->Prop}{a:Act}{w:World}
 (hy:fL P ops oi v a) (h:Go.wpOp P ops Q j K (a.put oi.dst v) w) :
 Go.wpOp P ops Q j (fun a' w'=>fL P ops oi v a'/\K (a'.put oi.dst v) w') a w:=by
 obtain⟨h1,h2,h3⟩:=Oper.apart_spec hap
 have keep:∀(a:Act),fL P ops oi v a->∀u,fL P ops oi v (a.put oj.dst u):=fun a hy u =>
  hy.of_same (execOp_put oi hsi a oj.dst u h3) (wanted_put oi a oj.dst u h3)
 have keepD:∀d,fL P ops oi v { a with defers:=d::a.defers }:=fun d=>hy.of_same rfl rfl
 unfold Go.wpOp at *;simp only[hj] at *;rw[wanted_put oj a oi.dst v h1] at h;split
 · rename_i hw;simp only[hw,if_true] at h
   rcases h with h|⟨hasks,hlets⟩
   case inr=>exact .inr ⟨by unfold Oper.asks at *;rw[execOp_put oj hsj a oi.dst v h1] at hasks;exact hasks,hlets⟩
   refine .inl ?_;unfold Oper.wp at *;rw[execOp_put oj hsj a oi.dst v h1] at h;generalize (execOp a.eval oj).run P w=r at *;cases r with
   |ok n w' =>
    cases n<;>simp only[Oper.upon] at h ⊢
    case value u=>exact⟨keep _ hy u,by rw[<-Act.put_comm a v u h2];exact h⟩
    case skip=>exact⟨keep _ hy undef,by rw[<-Act.put_comm a v undef h2];exact h⟩
    case defer d =>
     refine⟨?_,?_⟩
     · exact(keepD d).of_same (execOp_put oi hsi _ oj.dst undef h3) (wanted_put oi _ oj.dst undef h3)
     · have hk:=h;rw[Act.put_defers] at hk;rw[<-Act.put_comm _ v undef h2];exact hk
    case enter f args =>
     refine h.mono fun e w'' hr=>?_
     cases e with
     |returned u=>exact⟨keep _ hy u,by rw[<-Act.put_comm a v u h2];exact hr⟩
     |panicked c=>exact hQ c a w'' hr
     |outgrown=>exact hr
    case row row args =>
     exact h.mono fun u w'' hr=>⟨keep _ hy u,by rw[<-Act.put_comm a v u h2];exact hr⟩
   |halt x w' =>
    cases x<;>simp only[Oper.upon] at h ⊢
    case panic u=>exact hQ _ a w' h
 · rename_i hw;simp only[hw] at h;exact⟨keep _ hy _,by rw[<-Act.put_comm a v undef h2];exact h⟩
theorem Dc {i:Nat}(hi:ops[i]? =some oi) (hsel:∀(j:Nat) (o:Oper) cs b,ops[j]? =some o->o.op≠ .select cs b)
 (hQ:∀c a w,Q (.panic c) (a.put oi.dst v) w->Q (.panic c) a w) :
 ∀(fuel:Nat) (listed:Array Bool) (a:Act) (w:World),
  (∀j oj,ops[j]? =some oj->j≠i->listed.getD j true=false->(∃m,eJ ops listed i m j=true)\/oi.apart ops oj=true) ->
  i∈Region.ready .any ops listed->fL P ops oi v a ->
  yH P ops M keeps Q fuel (listed.setIfInBounds i true) (a.put oi.dst v) w->yH P ops M keeps Q (fuel+1) listed a w:=by
 intro fuel
 induction fuel with
 |zero =>
  intro listed a w _ hr hy H;refine⟨fun h=>(by rw[h] at hr;cases hr),fun j hj=>?_⟩
  by_cases hji:j=i
  · subst hji;exact hy.wpOp hi ⟨fun _=>Ext.refl _ _,H⟩
  · have:=ready_mono hj hji;rw[H.1] at this;cases this
 |succ fuel ih =>
  intro listed a w hfree hr hy H;refine⟨fun h=>(by rw[h] at hr;cases hr),fun j hj=>?_⟩
  by_cases hji:j=i
  · subst hji;exact hy.wpOp hi ⟨fun _=>Ext.refl _ _,H⟩
  · have h1:=H.2 j (ready_mono hj hji);obtain⟨hjun,oj,hoj,hall⟩:=mem_ready.1 hj;have hapj:=(hfree j oj hoj hji hjun).resolve_left fun⟨m,hm⟩=>oF hr hm hj
    have h2:=Ga hoj hapj (fun cs b=>hsel i oi cs b hi) (fun cs b=>hsel j oj cs b hoj) hQ hy h1
    have hfree':∀k ok,ops[k]? =some ok->k≠i->(listed.setIfInBounds j true).getD k true=false ->
     (∃m,eJ ops (listed.setIfInBounds j true) i m k=true)\/oi.apart ops ok=true:=fun k ok hk hki hun=>by
     refine(hfree k ok hk hki ?_).imp (fun⟨m,hm⟩=>⟨m,mz hr hj m k hm⟩) id
     by_cases hjk:j=k
     · subst hjk;exact hjun
     · rw[getD_set_ne true hjk] at hun;exact hun
    refine wpOp_mono (fun a' w' h3=>⟨h3.2.1,ih (listed.setIfInBounds j true) a' w' hfree' (ready_mono hr (Ne.symm hji)) h3.1 ?_⟩) h2;rw[Array.setIfInBounds_comm _ _ hji];exact h3.2.2
def FA (ops:Array Oper) (listed:Array Bool) (i:Nat):Bool :=
 match ops[i]? with
 |none=>false
 |some oi=>(List.range ops.size).all fun j=>j ==i ||listed.getD j true ||match ops[j]? with
  |some oj=>oj.after.any (fun e=>Region.binds .any e && e.on ==i) ||(oi.apart ops oj ||eJ ops listed i 6 j)
  |none=>true
theorem Ep {i:Nat}{listed:Array Bool}(hi:ops[i]? =some oi) (h:FA ops listed i=true) (j:Nat) (oj:Oper)
 (hj:ops[j]? =some oj) (hne:j≠i) (hun:listed.getD j true=false):(∃m,eJ ops listed i m j=true)\/oi.apart ops oj=true:=by
 simp only[FA,hi,List.all_eq_true,List.mem_range] at h;have h1:=h j (Array.getElem?_eq_some_iff.1 hj).1;simp only[hj,Bool.or_eq_true,beq_iff_eq,hne,false_or,hun,Bool.false_eq_true] at h1
 rcases h1 with h1|h1|h1
 · obtain⟨e,he,hb⟩:=Array.any_eq_true'.1 h1;simp only[Bool.and_eq_true,beq_iff_eq] at hb;exact .inl ⟨1,rf hj he hb.1 (.inl hb.2)⟩
 · exact .inr h1
 · exact .inl ⟨6,h1⟩
end
section
variable {P:Program}{n:Nat}{ops:Array Oper}{M:Nat->Prop}{keeps:Nat->Bool}{fuel:Nat}{listed:Array Bool}{ρ:Env}{h:aj}{N:Env->aj->Prop}{X:List PanicEntry->aj->Prop}
theorem RD.Nf (i:Nat){listed':Array Bool}(ho':nth ops.toList i=some o) (hs:Region.noSelect ops=true) (hf:FA ops listed i=true) (hr:(Region.ready .any ops listed).contains i=true)
 (hw:aM ops ρ o=some true){od:Option Nat}(hod:o.dst=od) (hd:gJ n od=true) (k:∀h',ai P o ρ h' v) (hl:listed.setIfInBounds i true=listed')
 (next:RD P n ops M keeps fuel listed' (ρ.put od v) h N X):RD P n ops M keeps (fuel+1) listed ρ h N X:=by
 subst hl;subst hod;have ho:=dU ho';intro B a w hf' ha;exact Dc ho (Region.noSelect_spec hs) (fun c a w hq=>⟨by cases hdd:o.dst<;>simpa [Act.put,hdd] using hq.1,hq.2⟩) fuel listed a w (Ep ho hf) (by simpa using hr) (.inl ⟨cH hf' hw,fun w'=>k w'.heap n w' a w' hf' (At.refl w')⟩) (next B _ w (hf'.put hd v) ha)
theorem RD.gx (i:Nat){d:Nat}{listed':Array Bool}(ho:nth ops.toList i=some o) (hs:Region.noSelect ops=true) (hf:FA ops listed i=true) (hr:(Region.ready .any ops listed).contains i=true)
 (hw:aM ops ρ o=some true) (hod:o.dst=some d) (hd:Nat.blt d n=true) (k:∀h',ai P o ρ h' v) (hl:listed.setIfInBounds i true=listed')
 (next:RD P n ops M keeps fuel listed' ((d,v)::ρ) h N X):RD P n ops M keeps (fuel+1) listed ρ h N X:=RD.Nf i ho hs hf hr hw hod hd k hl next
end
end
end Go.Lw
