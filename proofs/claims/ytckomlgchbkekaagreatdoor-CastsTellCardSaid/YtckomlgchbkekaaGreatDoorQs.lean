/- What the proof of the statement leans on (part 19). -/
import Derived.LoopNIn
import Derived.OrdersIn
import Derived.Lib.MakeNoZero
import Derived.Laws.CopyOwn
import Derived.Laws.CopyRow
import Derived.Test.YtckomlgchbkekaaGreatDoorQr

namespace Go.Lw
open Go.RowKit
section
variable {ops:Array Oper}{listed:Array Bool}{fuel n d:Nat}{N:Env->ai->Prop}{o:Oper}{Φ:Value->ai->Prop}{P:Program}{r:Loop}{args:Array Value}{h:ai}{ρ:Env}{ca cb:Code}
structure BI (P:Program) (ro:Option Nat) (n:Nat) (c:Code) (ρ:Env) (h:ai) (Q:Exit->Env->ai->Prop):Prop where
 go:∀m B a w,Fits n ρ a->At B h w->c.wpIn (FW ro) m P (fun e a' w'=>∃ρ' h',Fits n ρ' a'/\At B h' w'/\Q e ρ' h') a w
@[reducible] def KT (N:Env->ai->Prop) (Q:Exit->Env->ai->Prop):Exit->Env->ai->Prop
 |.normal,ρ,h=>N ρ h
 |e,ρ,h=>Q e ρ h
@[reducible] def PS (id:Nat) (Q:Exit->Env->ai->Prop):Exit->Env->ai->Prop
 |.exit i,ρ,h=>match Nat.beq i id with|true=>Q .normal ρ h|false=>Q (.exit i) ρ h
 |e,ρ,h=>Q e ρ h
section
variable {P:Program}{ro:Option Nat}{n:Nat}{ρ:Env}{h:ai}{Q:Exit->Env->ai->Prop}
theorem BI.skip (k:Q .normal ρ h):BI P ro n .skip ρ h Q:=⟨fun _ _ _ _ hf ha=>wpIn_skip ⟨ρ,h,hf,ha,k⟩⟩
theorem BI.exit {id:Nat}(k:Q (.exit id) ρ h):BI P ro n (.exit id) ρ h Q:=⟨fun _ _ _ _ hf ha=>wpIn_exit ⟨ρ,h,hf,ha,k⟩⟩
theorem BI.ret (k:Q .ret ρ h):BI P ro n .ret ρ h Q:=⟨fun _ _ _ _ hf ha=>wpIn_ret ⟨ρ,h,hf,ha,k⟩⟩
theorem BI.eE {id:Nat}(k:aV P ro n ops 0 ρ h (fun ρ' h'=>Q .normal ρ' h') (fun _ _=>False)):BI P ro n (.region id ops false) ρ h Q:=by
 refine⟨fun m B a w hf ha=>wpIn_region ?_⟩;have:=k m B a w hf ha (fun e a' w'=>∃ρ' h',Fits n ρ' a'/\At B h' w'/\Q e ρ' h') (fun ρ' h' a' w' f' a'' hn=>⟨ρ',h',f',a'',hn⟩) (fun _ _ _ _ _ _ q=>q.elim)
 rwa [List.drop_zero] at this
theorem BI.seq {x y:Code}(k:BI P ro n x ρ h (KT (fun ρ' h'=>BI P ro n y ρ' h' Q) Q)):BI P ro n (.seq x y) ρ h Q:=by
 refine⟨fun m B a w hf ha=>wpIn_seq (wpIn_mono (k.go m B a w hf ha) ?_)⟩;rintro e a' w' ⟨ρ',h',f',a'',hq⟩;cases e with
 |normal=>exact hq.go m B a' w' f' a''
 |_=>exact⟨ρ',h',f',a'',hq⟩
theorem BI.cond {x y:Code}{c:Operand}{t:Bool}(hc:aT ρ c=some (.bool t)) (h1:t=true->BI P ro n x ρ h Q) (h2:t=false->BI P ro n y ρ h Q):BI P ro n (.cond c x y) ρ h Q :=
 ⟨fun m B a w hf ha=>wpIn_cond_split (hf.eval hc) (fun q=>(h1 q).go m B a w hf ha) (fun q=>(h2 q).go m B a w hf ha)⟩
theorem BI.block {id:Nat}{c:Code}(k:BI P ro n c ρ h (PS id Q)):BI P ro n (.block id c) ρ h Q:=by
 refine⟨fun m B a w hf ha=>wpIn_block (wpIn_mono (k.go m B a w hf ha) ?_)⟩;rintro e a' w' ⟨ρ',h',f',a'',hq⟩;cases e with
 |exit i =>
  show (if i=id then _ else _:Prop)
  have hq:(match Nat.beq i id with|true=>Q .normal ρ' h'|false=>Q (.exit i) ρ' h'):=hq
  by_cases e:i=id
  · subst e;rw[if_pos rfl];rw[Nat.beq_refl] at hq;exact⟨ρ',h',f',a'',hq⟩
  · rw[if_neg e]
    have hb:Nat.beq i id=false:=by
     cases q:Nat.beq i id with
     |true=>exact absurd (Nat.eq_of_beq_eq_true q) e
     |false=>rfl
    rw[hb] at hq;exact⟨ρ',h',f',a'',hq⟩
 |_=>exact⟨ρ',h',f',a'',hq⟩
theorem BI.loop {σ:Type}{c:Code}(env:σ->Env) (inv:σ->ai->Prop) (meas:σ->Nat) (s0:σ) (hs:Sub (env s0) ρ) (hi:inv s0 h)
 (step:∀s g,inv s g->BI P ro n c (env s) g (KT (fun ρ' g'=>∃s',Sub (env s') ρ'/\inv s' g'/\meas s'<meas s) Q)):BI P ro n (.loop c) ρ h Q:=by
 refine⟨fun m B a w hf ha=>?_⟩
 have key:∀k s g a w,meas s<k->Fits n (env s) a->At B g w->inv s g->Code.roundsIn (FW ro) m P c (fun e a' w'=>∃ρ' h',Fits n ρ' a'/\At B h' w'/\Q e ρ' h') k a w:=by
  intro k
  induction k with
  |zero=>intro s g a w hk;omega
  |succ k ih =>
   intro s g a w hk hf ha hv;refine wpIn_mono ((step s g hv).go m B a w hf ha) ?_;rintro e a' w' ⟨ρ',h',f',a'',hq⟩;cases e with
   |normal =>
    obtain⟨s',h1,h2,h3⟩:=hq;exact ih s' h' a' w' (by omega) (f'.sub h1) a'' h2
   |_=>exact⟨ρ',h',f',a'',hq⟩
 exact wpIn_loop_rounds (meas s0+1) (key _ s0 h a w (Nat.lt_succ_self _) (hf.sub hs) ha hi)
theorem BI.sub {c:Code}{ρ':Env}(hs:Sub ρ' ρ) (k:BI P ro n c ρ' h Q):BI P ro n c ρ h Q:=⟨fun m B a w hf ha=>k.go m B a w (hf.sub hs) ha⟩
def qJ (P:Program) (ro:Option Nat) (n:Nat) (ops:Array Oper) (fuel:Nat) (listed:Array Bool) (ρ:Env) (h:ai) (N:Env->ai->Prop):Prop :=
 ∀m B a w,Fits n ρ a->At B h w->wpAnyIn (FW ro) m P .any ops (fun e a' w'=>e= .normal/\∃ρ' h',Fits n ρ' a'/\At B h' w'/\N ρ' h') fuel listed a w
theorem JE {id sz:Nat}(hm:P.follows .mixedOrders=true) (hsz:ops.size=sz) (hl:Array.replicate sz false=listed) (k:qJ P ro n ops sz listed ρ h (fun ρ' h'=>Q .normal ρ' h')):BI P ro n (.region id ops true) ρ h Q:=by
 subst hl;subst hsz;refine⟨fun m B a w hf ha=>?_⟩;refine wpIn_mono (wpIn_region_any hm (k m B a { w with drawn:=w.drawn+1 } hf ha.drew)) ?_;rintro e a' w' ⟨rfl,ρ',h',f',a'',hq⟩;exact⟨ρ',h',f',a'',hq⟩
theorem qJ.done (hr:Region.ready .any ops listed=[]) (k:N ρ h):qJ P ro n ops fuel listed ρ h N:=by
 intro m B a w hf ha;cases fuel with
 |zero=>exact⟨hr,rfl,ρ,h,hf,ha,k⟩
 |succ f=>exact⟨fun _=>⟨rfl,ρ,h,hf,ha,k⟩,fun i hi=>by rw[hr] at hi;cases hi⟩
def jj (P:Program) (ro:Option Nat) (n:Nat) (ops:Array Oper) (fuel:Nat) (listed:Array Bool) (ρ:Env) (h:ai) (N:Env->ai->Prop) (i:Nat):Prop :=
 ∃(o:Oper) (Φ:Value->ai->Prop) (listed':Array Bool),nth ops.toList i=some o/\o.guard=none/\gH o=true/\iG n o.dst=true/\aH P o ρ h Φ (fun _ _=>False)/\listed.setIfInBounds i true=listed' /\
  ∀v h',Φ v h'->qJ P ro n ops fuel listed' (ρ.put o.dst v) h' N
theorem jj.mk {listed':Array Bool}{i:Nat}{od:Option Nat}(ho:nth ops.toList i=some o) (hg:o.guard=none) (hnd:gH o=true) (hod:o.dst=od) (hd:iG n od=true) (hl:listed.setIfInBounds i true=listed') (k:aH P o ρ h Φ (fun _ _=>False))
 (next:∀v h',Φ v h'->qJ P ro n ops fuel listed' (ρ.put od v) h' N):jj P ro n ops fuel listed ρ h N i:=by
 subst hod;exact⟨o,Φ,listed',ho,hg,hnd,hd,k,hl,next⟩
theorem jj.go {i:Nat}(k:jj P ro n ops fuel listed ρ h N i){m:Nat}{B:World}{a:Act}{w:World}(hf:Fits n ρ a) (ha:At B h w) :
 wpOpIn (FW ro) m P ops (fun e a' w'=>e= .normal/\∃ρ' h',Fits n ρ' a'/\At B h' w'/\N ρ' h') i (wpAnyIn (FW ro) m P .any ops (fun e a' w'=>e= .normal/\∃ρ' h',Fits n ρ' a'/\At B h' w'/\N ρ' h') fuel (listed.setIfInBounds i true)) a w:=by
 obtain⟨o,Φ,listed',ho',hg,hnd,hd,k,hl,next⟩:=k;subst hl;have ho:=dV ho';unfold wpOpIn;simp only[ho];have hw:Region.wanted o (yielded ops a.tmps)=true:=by unfold Region.wanted;rw[hg]
 rw[hw,if_pos rfl];exact k.O9 (jU hnd) hf ha (fun v h' w' ha' hv=>next v h' hv m B _ w' (hf.put hd v) ha') (fun _ _ _ _ q=>q.elim)
theorem qJ.one (i:Nat) (hr:Region.ready .any ops listed=[i]) (k:jj P ro n ops fuel listed ρ h N i):qJ P ro n ops (fuel+1) listed ρ h N :=
 fun _ _ _ _ hf ha=>⟨fun q=>(by rw[hr] at q;cases q),fun j hj=>by
  rw[hr] at hj;obtain rfl:j=i:=by simpa using hj
  exact k.go hf ha⟩
theorem Ed (i j:Nat) (hr:Region.ready .any ops listed=[i,j]) (k1:jj P ro n ops fuel listed ρ h N i) (k2:jj P ro n ops fuel listed ρ h N j):qJ P ro n ops (fuel+1) listed ρ h N :=
 fun _ _ _ _ hf ha=>⟨fun q=>(by rw[hr] at q;cases q),fun l hl=>by
  rw[hr] at hl
  rcases (show l=i\/l=j by simpa using hl) with rfl|rfl
  · exact k1.go hf ha
  · exact k2.go hf ha⟩
end
section
variable {P:Program}{ro:Option Nat}{n:Nat}{c0:Code}{p:List Nat}{ρ:Env}{h:ai}{S:Exit->Env->ai->Prop}
theorem GI.sub {c:Code}{ρ':Env}(hs:Sub ρ' ρ) (k:BI P ro n c ρ' h S):BI P ro n c ρ h S:=BI.sub hs k
theorem GI.skip (hk:kind (Lw.sub c0 p)=0) (k:S .normal ρ h):BI P ro n (Lw.sub c0 p) ρ h S:=by
 cases hc:Lw.sub c0 p<;>simp[hc,kind] at hk
 · exact BI.skip k
 · rename_i d;cases d<;>simp at hk
theorem GI.ret (hk:kind (Lw.sub c0 p)=4) (k:S .ret ρ h):BI P ro n (Lw.sub c0 p) ρ h S:=by
 cases hc:Lw.sub c0 p<;>simp[hc,kind] at hk
 · rename_i d;cases d<;>simp at hk
 · exact BI.ret k
theorem GI.exit {id:Nat}(hk:kind (Lw.sub c0 p)=8) (hid:D7 (Lw.sub c0 p)=id) (k:S (.exit id) ρ h):BI P ro n (Lw.sub c0 p) ρ h S:=by
 subst hid;cases hc:Lw.sub c0 p<;>simp[hc,kind] at hk
 · rename_i d;cases d<;>simp at hk
 · rw[hc] at k;exact BI.exit k
theorem GI.seq (hk:kind (Lw.sub c0 p)=1) (k:BI P ro n (Lw.sub c0 (0::p)) ρ h (KT (fun ρ' h'=>BI P ro n (Lw.sub c0 (1::p)) ρ' h' S) S)):BI P ro n (Lw.sub c0 p) ρ h S:=by
 simp only[Lw.sub] at k;cases hc:Lw.sub c0 p<;>simp[hc,kind] at hk
 · rename_i d;cases d<;>simp at hk
 · rw[hc] at k;exact BI.seq k
theorem GI.block {id:Nat}(hk:kind (Lw.sub c0 p)=2) (hid:D7 (Lw.sub c0 p)=id) (k:BI P ro n (Lw.sub c0 (0::p)) ρ h (PS id S)):BI P ro n (Lw.sub c0 p) ρ h S:=by
 subst hid;simp only[Lw.sub] at k;cases hc:Lw.sub c0 p<;>simp[hc,kind] at hk
 · rename_i d;cases d<;>simp at hk
 · rw[hc] at k;exact BI.block k
theorem GI.cond {t:Bool}(hk:kind (Lw.sub c0 p)=7) (hc:aT ρ (j8 (Lw.sub c0 p))=some (.bool t)) (ht:t=true->BI P ro n (Lw.sub c0 (0::p)) ρ h S) (hn:t=false->BI P ro n (Lw.sub c0 (1::p)) ρ h S):BI P ro n (Lw.sub c0 p) ρ h S:=by
 simp only[Lw.sub] at ht hn;cases hcc:Lw.sub c0 p<;>simp[hcc,kind] at hk
 · rename_i d;cases d<;>simp at hk
 · rw[hcc] at hc ht hn;exact BI.cond hc ht hn
theorem GI.eE {φ:Prop}(_:φ) (hk:kind (Lw.sub c0 p)=5) (k:aV P ro n (opsOf (Lw.sub c0 p)) 0 ρ h (fun ρ' h'=>S .normal ρ' h') (fun _ _=>False)):BI P ro n (Lw.sub c0 p) ρ h S:=by
 cases hc:Lw.sub c0 p<;>simp[hc,kind] at hk;rename_i id ops d;cases d<;>simp at hk;rw[hc] at k;exact BI.eE k
theorem Jy {sz:Nat}{listed:Array Bool}(hm:P.follows .mixedOrders=true) (hk:kind (Lw.sub c0 p)=6) (hsz:(opsOf (Lw.sub c0 p)).size=sz) (hl:Array.replicate sz false=listed) (k:qJ P ro n (opsOf (Lw.sub c0 p)) sz listed ρ h (fun ρ' h'=>S .normal ρ' h')):BI P ro n (Lw.sub c0 p) ρ h S:=by
 cases hc:Lw.sub c0 p<;>simp[hc,kind] at hk;rename_i id ops d;cases d with
 |false=>simp at hk
 |true=>rw[hc] at k hsz;exact JE hm hsz hl k
theorem GI.loop {σ:Type}(E:σ->Env) (I:σ->ai->Prop) (μ:σ->Nat) (s0:σ) (hk:kind (Lw.sub c0 p)=3) (hs:Sub (E s0) ρ) (h0:I s0 h)
 (round:∀s h,I s h->∀K:Env->ai->Prop,(∀s' h' ρ',Sub (E s') ρ'->I s' h'->μ s' < μ s->K ρ' h')->BI P ro n (Lw.sub c0 (0::p)) (E s) h (KT K S)):BI P ro n (Lw.sub c0 p) ρ h S:=by
 simp only[Lw.sub] at round;cases hc:Lw.sub c0 p<;>simp[hc,kind] at hk
 · rename_i d;cases d<;>simp at hk
 · rw[hc] at round;exact BI.loop E I μ s0 hs h0 fun s g hv=>round s g hv _ fun s' h' ρ' q1 q2 q3=>⟨s',q1,q2,q3⟩
end
theorem cV.OY {l:Nat}(hl:bY h l r) (hst:r.state= .ready) (hsz:args.size=r.params.size)
 (ht:Fits n ρ { tmps:=(r.params.zip args).foldl (fun tmps (t,a)=>tmps.setIfInBounds t a) r.tmps,defers:=[] }) (ha:r.assign=ca) (hb:r.body=cb)
 (walk:BI P (some l) n (Lw.sub ca []) ρ h (KT (fun ρ1 h1=>bY h1 l r/\BI P (some l) n (Lw.sub cb []) ρ1 (bA h1 l (.loop { r with state:=.busy }))
  (fun e ρ2 h2=>∃r2,bY h2 l r2/\match e with|.normal=>Φ (.bool true) (bA h2 l (.loop { r2 with state:=.ready,pending:=none }))|.ret=>Φ (.bool false) (bA h2 l (.loop { r2 with state:=.done,pending:=some .ret }))|_=>False)) (fun _ _ _=>False))) :
 cV P l args h (aN Φ):=by
 subst ha;subst hb;intro m B w ha;have hlw:w.heap[l]? =some (.loop r):=by rw[ha.heap];exact hl
 refine⟨_,_,_,_,run_yield hlw hsz,roundIn_of_wpIn trivial ?_⟩;refine wpIn_mono (walk.go m B _ w ht ha) ?_;rintro e a1 w1 ⟨ρ1,h1,hf1,hw1,hq⟩;cases e with
 |normal =>
  obtain⟨hl1,walk2⟩:=hq;have hlw1:w1.heap[l]? =some (.loop r):=by rw[hw1.heap];exact hl1
  refine⟨_,run_beginRound hlw1 hst,?_⟩;refine wpIn_mono (walk2.go m B a1 _ hf1 (hw1.bA l _)) ?_;rintro e a2 w2 ⟨ρ2,h2,hf2,hw2,r2,hl2,hq⟩;have hlw2:w2.heap[l]? =some (.loop r2):=by rw[hw2.heap];exact hl2
  cases e with
  |normal=>exact⟨_,_,run_endRound none hlw2,_,hw2.bA l _,_,rfl,hq⟩
  |ret=>exact⟨_,_,run_endRound (some .ret) hlw2,_,hw2.bA l _,_,rfl,hq⟩
  |_=>exact hq.elim
 |_=>exact hq.elim
theorem BI.mono {ro:Option Nat}{c:Code}{Q Q':Exit->Env->ai->Prop}(k:BI P ro n c ρ h Q) (hq:∀e ρ' h',Q e ρ' h'->Q' e ρ' h'):BI P ro n c ρ h Q' :=
 ⟨fun m B a w hf ha=>wpIn_mono (k.go m B a w hf ha) fun _ _ _ ⟨ρ',h',f',a'',q⟩=>⟨ρ',h',f',a'',hq _ _ _ q⟩⟩
structure wE (L:Nat) (r:Loop) (J:ai->Prop) (g:ai):Prop where
 lp:bY g (L+1) r
 df:g[L]? =some (.deferred (some []))
 j:J g
abbrev nJ (r:Loop):Loop:= { r with state:=.done,pending:=some .ret }
theorem wE.yield {L:Nat}{g:ai}{J J' S:ai->Prop}(k:wE L r J g) (hst:r.state= .ready) (hpn:r.pending=none) (hsz:args.size=r.params.size)
 (ht:Fits n ρ { tmps:=(r.params.zip args).foldl (fun tmps (t,a)=>tmps.setIfInBounds t a) r.tmps,defers:=[] }) (ha:r.assign=ca) (hb:r.body=cb)
 (hJ:∀g1 g2,J' g1->Ext (fun b=>b=L+1) g1 g2->J' g2) (hS:∀g1 g2,S g1->Ext (fun b=>b=L+1) g1 g2->S g2)
 (walk:BI P (some (L+1)) n (Lw.sub ca []) ρ g (KT (fun ρ1 g1=>ah g g1/\∀g3,Ext (fun b=>b=L+1) g1 g3->BI P (some (L+1)) n (Lw.sub cb []) ρ1 g3 (fun e _ g4=>(g4[L]? =g3[L]? /\g4[L+1]? =g3[L+1]?)/\(e= .normal/\J' g4\/e= .ret/\S g4))) (fun _ _ _=>False))) :
 cV P (L+1) args g (aN fun v h'=>∃go,v= .bool go/\(go=true->wE L r J' h')/\(go=false->wE L (nJ r) S h')):=by
 refine cV.OY k.lp hst hsz ht ha hb (walk.mono ?_);rintro e ρ1 g1 hq;cases e with
 |normal =>
  obtain⟨e1,w2⟩:=hq;have hlt:=k.lp.lt;have hz:=e1.size;have hx:Ext (fun b=>b=L+1) g1 (bA g1 (L+1) (.loop { r with state:=.busy })):=Ext.bA _ _ _ rfl;refine⟨k.lp.ext e1 (fun q=>q),(w2 _ hx).mono ?_⟩;rintro e ρ2 g4 ⟨⟨h4,h5⟩,hq⟩;have hl4:bY g4 (L+1) { r with state:=.busy }:=by rw[bY,h5];exact gi (by omega)
  have hd4:g4[L]? =some (.deferred (some [])):=by
   rw[h4,hx.block L (by omega) (by omega),e1.block L (by omega) (fun q=>q)];exact k.df
  refine⟨_,hl4,?_⟩;have hl4':=hl4.lt
  rcases hq with ⟨rfl,hj⟩|⟨rfl,hs⟩
  · have hr2:({ ({ r with state:=.busy }:Loop) with state:=.ready,pending:=none }:Loop)=r:=by cases r;simp at hst hpn;simp[hst,hpn]
    rw[hr2];have hy:Ext (fun b=>b=L+1) g4 (bA g4 (L+1) (.loop r)):=Ext.bA _ _ _ rfl;exact⟨true,rfl,fun _=>⟨gi hl4',(hy.block L (by omega) (by omega)).trans hd4,hJ _ _ hj hy⟩,fun q=>by cases q⟩
  · have hy:Ext (fun b=>b=L+1) g4 (bA g4 (L+1) (.loop { ({ r with state:=.busy }:Loop) with state:=.done,pending:=some .ret })):=Ext.bA _ _ _ rfl;exact⟨false,rfl,(fun q=>by cases q),fun _=>⟨gi hl4',(hy.block L (by omega) (by omega)).trans hd4,hS _ _ hs hy⟩⟩
 |_=>exact hq.elim
section
variable {P:Program}{f:FuncId}{fn:Func}{k:List It}{ρ:Env}{h:ai}{R:Ending->ai->Prop}{p:List Nat}
theorem G.Gr {g:Operand}{ps:Array Tmp}{assign body:Code}{f':FuncId}{fn':Func}{caps:Array Value}(J:ai->Prop) (hk:Lw.sub (aq fn) p= .rangeFunc g ps assign body) (hg:aT ρ g=some (.func (.func f') #[] caps))
 (hfn':P.funcs[f']? =some fn') (hb':fn'.body.isSome=true) (hnm':(fn'.name == "runtime.NumGoroutine")=false)
 (hcall:∀fid tmps hL,Fits fn.ntmps ρ { tmps:=tmps,defers:=[] }->ah h hL->wE h.size (bK fid tmps ps assign body h.size) (fun _=>True) hL->aj P f' (#[.func (.yield (h.size+1)) #[] #[]]++caps) hL (aN fun _ h'=>wE h.size (bK fid tmps ps assign body h.size) J h'))
 (hend:∀g g1,J g->g[h.size]? =some (.deferred (some []))->h.size+1<g.size->Ext (fun b=>b=h.size+1) g g1->GD P (dF h.size) f fn k ρ g1 R):G P f fn (.code p::k) ρ h R:=by
 refine G.rangeFunc hk hg hfn' hb' hnm' fun fid tmps hf=>?_
 have e1:ah h ((h.push (.deferred (some []))).push (.loop (bK fid tmps ps assign body h.size))):=(Ext.push _ _ _).trans (Ext.push _ _ _);have hz:(h.push (.deferred (some []))).size=h.size+1:=by simp
 refine(hcall fid tmps _ hf e1 ⟨by rw[bY,<-hz];exact Array.getElem?_push_size,?_,trivial⟩).ret ?_
 · rw[(Ext.push (fun _=>False) (h.push (.deferred (some []))) _).block h.size (by simp) (fun k=>k)];exact Array.getElem?_push_size
 · rintro _ h' ⟨hl,hd,hj⟩;exact⟨_,hl,by simp[bK],rfl,hend h' _ hj hd hl.lt (Ext.bA _ _ _ rfl)⟩
end
theorem cV.ret {l:Nat}{Φ':Value->ai->Prop}(k:cV P l args h (aN Φ)) (hq:∀v h',Φ v h'->Φ' v h'):cV P l args h (aN Φ'):=by
 intro m B w ha;obtain⟨fn,tmps,assign,body,hy,hR⟩:=k m B w ha;exact⟨fn,tmps,assign,body,hy,hR.mono fun e w' ⟨h',ha',v,he,hp⟩=>⟨h',ha',v,he,hq _ _ hp⟩⟩
theorem wE.FN {L:Nat}{g:ai}{J J':ai->Prop}(k:wE L r J g) (hst:r.state= .ready) (hpn:r.pending=none) (hsz:args.size=r.params.size)
 (ht:Fits n ρ { tmps:=(r.params.zip args).foldl (fun tmps (t,a)=>tmps.setIfInBounds t a) r.tmps,defers:=[] }) (ha:r.assign=ca) (hb:r.body=cb) (hJ:∀g1 g2,J' g1->Ext (fun b=>b=L+1) g1 g2->J' g2)
 (walk:BI P (some (L+1)) n (Lw.sub ca []) ρ g (KT (fun ρ1 g1=>ah g g1/\∀g3,Ext (fun b=>b=L+1) g1 g3->BI P (some (L+1)) n (Lw.sub cb []) ρ1 g3 (fun e _ g4=>e= .normal/\(g4[L]? =g3[L]? /\g4[L+1]? =g3[L+1]?)/\J' g4)) (fun _ _ _=>False))) :
 cV P (L+1) args g (aN fun v h'=>v= .bool true/\wE L r J' h'):=by
 refine(k.yield (S:=fun _=>False) hst hpn hsz ht ha hb hJ (fun _ _ q _=>q) (walk.mono fun e ρ1 g1 q=>?_)).ret fun v h' ⟨go,hv,h1,h2⟩=>?_
 · cases e with
   |normal=>exact⟨q.1,fun g3 x=>(q.2 g3 x).mono fun e ρ2 g4 q=>⟨q.2.1,.inl ⟨q.1,q.2.2⟩⟩⟩
   |_=>exact q.elim
 · cases go with
   |true=>exact⟨hv,h1 rfl⟩
   |false=>exact(h2 rfl).j.elim
theorem om {tmps:Array Value}{p1:Nat}{v1:Value}(hf:Fits n ρ { tmps:=tmps,defers:=[] }) (h1:Nat.blt p1 n=true) :
 Fits n ((p1,v1)::ρ) { tmps:=((#[p1]:Array Nat).zip #[v1]).foldl (fun tmps (t,a)=>tmps.setIfInBounds t a) tmps,defers:=[] }:=by
 have:=hf.put (dst:=some p1) h1 v1;simpa [Act.put,Env.put] using this
section
variable {P:Program}{ro:Option Nat}{n:Nat}{ops:Array Oper}{i:Nat}{ρ:Env}{h:ai}{N:Env->ai->Prop}{X:List PanicEntry->ai->Prop}
theorem aV.P9 (ho':nth ops.toList i=some o) (hw:aK ops ρ o=some true) (hnd:gH o=true) (hod:o.dst=some d) (hd:Nat.blt d n=true) (k:aH P o ρ h Φ X)
 (next:∀v h',Φ v h'->aV P ro n ops (i+1) ((d,v)::ρ) h' N X):aV P ro n ops i ρ h N X:=by
 have ho:=dV ho';intro m B a w hf ha Q hN hX;rw[fh (gj ho)];simp only[wpOpsIn,ho];rw[cE hf hw,if_pos rfl];refine k.O9 (jU hnd) hf ha (fun v h' w' ha' hv=>?_) (fun ch h' w' ha' hx=>hX ch h' a w' hf.nd ha' hx);rw[hod];exact next v h' hv m B _ w' (hf.put (dst:=some d) hd v) ha' Q hN hX
theorem aV.rU {v:Value}(ho:nth ops.toList i=some o) (hw:aK ops ρ o=some true) (hnd:gH o=true) (hod:o.dst=some d) (hd:Nat.blt d n=true) (k:an P o ρ h v)
 (next:aV P ro n ops (i+1) ((d,v)::ρ) h N X):aV P ro n ops i ρ h N X:=aV.P9 ho hw hnd hod hd k.jF (fun _ _ ⟨hv,hh⟩=>by subst hv;subst hh;exact next)
theorem aV.mG (ho':nth ops.toList i=some o) (hw:aK ops ρ o=some false) (hod:o.dst=some d) (hd:Nat.blt d n=true)
 (next:aV P ro n ops (i+1) ((d,undef)::ρ) h N X):aV P ro n ops i ρ h N X:=by
 have ho:=dV ho';intro m B a w hf ha Q hN hX;rw[fh (gj ho)];simp only[wpOpsIn,ho];rw[cE hf hw,if_neg (by simp)];rw[hod];exact⟨fun _ _=>trivial,next m B _ w (hf.put (dst:=some d) hd _) ha Q hN hX⟩
theorem aV.aO {b b':Bool}(hb:ρ.at d=some (.bool b)) (e:b=b') (next:aV P ro n ops i ((d,.bool b')::ρ) h N X):aV P ro n ops i ρ h N X:=by
 subst e;refine fun m B a w hf ha=>next m B a w ⟨hf.size,fun j v hv=>?_,hf.nd⟩ ha
 rw[Env.dY] at hv;split at hv
 · rename_i e;subst e;cases hv;exact hf.ok d _ hb
 · exact hf.ok j v hv
end
end
end Go.Lw
namespace Go.Lw
section
variable {o oi:Oper}{v:Value}
section
variable {P:Program}{ops:Array Oper}{M:Nat->Prop}{keeps:Nat->Bool}{Q:Exit->Act->World->Prop}
def eW (P:Program) (ops:Array Oper) (o:Oper) (v:Value) (a:Act):Prop :=
 (Region.wanted o (yielded ops a.tmps)=true/\∀w',(execOp a.eval o).run P w'= .ok (.value v) w') \/
 (Region.wanted o (yielded ops a.tmps)=false/\v=undef)
theorem eW.wpOp {i:Nat}{o:Oper}{v:Value}{a:Act}{w:World}(hi:ops[i]? =some o) (hy:eW P ops o v a)
 {K:Act->World->Prop}(h:K (a.put o.dst v) w):wpOp P ops Q i K a w:=by
 unfold Go.wpOp;simp only[hi]
 rcases hy with ⟨hw,hv⟩|⟨hw,rfl⟩
 · simp only[hw,if_true,Oper.wp,hv w,Oper.upon];exact .inl h
 · simp only[hw,Bool.false_eq_true,if_false];exact h
theorem eW.of_same {a a':Act}(hy:eW P ops o v a) (he:execOp a'.eval o=execOp a.eval o)
 (hw:Region.wanted o (yielded ops a'.tmps)=Region.wanted o (yielded ops a.tmps)):eW P ops o v a':=by
 unfold eW at *;rw[he,hw]
 rcases hy with ⟨h1,h2⟩|h
 · exact .inl ⟨h1,h2⟩
 · exact .inr h
theorem El {j:Nat}{oj:Oper}(hj:ops[j]? =some oj) (hap:oi.apart ops oj=true)
 (hsi:∀cs b,oi.op≠ .select cs b) (hsj:∀cs b,oj.op≠ .select cs b)
 (hQ:∀c a w,Q (.panic c) (a.put oi.dst v) w->Q (.panic c) a w){K:Act->World->Prop}{a:Act}{w:World}
 (hy:eW P ops oi v a) (h:Go.wpOp P ops Q j K (a.put oi.dst v) w) :
 Go.wpOp P ops Q j (fun a' w'=>eW P ops oi v a'/\K (a'.put oi.dst v) w') a w:=by
 obtain⟨h1,h2,h3⟩:=Oper.apart_spec hap
 have keep:∀(a:Act),eW P ops oi v a->∀u,eW P ops oi v (a.put oj.dst u):=fun a hy u =>
  hy.of_same (execOp_put oi hsi a oj.dst u h3) (wanted_put oi a oj.dst u h3)
 have keepD:∀d,eW P ops oi v { a with defers:=d::a.defers }:=fun d=>hy.of_same rfl rfl
 unfold Go.wpOp at *;simp only[hj] at *;rw[wanted_put oj a oi.dst v h1] at h;split
 · rename_i hw;simp only[hw,if_true] at h
   rcases h with h|⟨hasks,hlets⟩
   case inr=>exact .inr ⟨by unfold Oper.asks at *;rw[execOp_put oj hsj a oi.dst v h1] at hasks;exact hasks,hlets⟩
   refine .inl ?_;unfold Oper.wp at *;rw[execOp_put oj hsj a oi.dst v h1] at h;generalize (execOp a.eval oj).run P w=r at *;cases r with
   |ok n w' =>
    cases n<;>simp only[Oper.upon] at h ⊢
    case value u=>exact⟨keep _ hy u,by rw[<-Act.put_comm a v u h2];exact h⟩
    case skip=>exact⟨keep _ hy undef,by rw[<-Act.put_comm a v undef h2];exact h⟩
    case defer d =>
     refine⟨?_,?_⟩
     · exact(keepD d).of_same (execOp_put oi hsi _ oj.dst undef h3) (wanted_put oi _ oj.dst undef h3)
     · have hk:=h;rw[Act.put_defers] at hk;rw[<-Act.put_comm _ v undef h2];exact hk
    case enter f args =>
     refine h.mono fun e w'' hr=>?_
     cases e with
     |returned u=>exact⟨keep _ hy u,by rw[<-Act.put_comm a v u h2];exact hr⟩
     |panicked c=>exact hQ c a w'' hr
     |outgrown=>exact hr
    case row row args =>
     exact h.mono fun u w'' hr=>⟨keep _ hy u,by rw[<-Act.put_comm a v u h2];exact hr⟩
   |halt x w' =>
    cases x<;>simp only[Oper.upon] at h ⊢
    case panic u=>exact hQ _ a w' h
 · rename_i hw;simp only[hw] at h;exact⟨keep _ hy _,by rw[<-Act.put_comm a v undef h2];exact h⟩
theorem BA {i:Nat}(hi:ops[i]? =some oi) (hsel:∀(j:Nat) (o:Oper) cs b,ops[j]? =some o->o.op≠ .select cs b)
 (hQ:∀c a w,Q (.panic c) (a.put oi.dst v) w->Q (.panic c) a w) :
 ∀(fuel:Nat) (listed:Array Bool) (a:Act) (w:World),
  (∀j oj,ops[j]? =some oj->j≠i->listed.getD j true=false->(∃m,dQ ops listed i m j=true)\/oi.apart ops oj=true) ->
  i∈Region.ready .any ops listed->eW P ops oi v a ->
  vu P ops M keeps Q fuel (listed.setIfInBounds i true) (a.put oi.dst v) w->vu P ops M keeps Q (fuel+1) listed a w:=by
 intro fuel
 induction fuel with
 |zero =>
  intro listed a w _ hr hy H;refine⟨fun h=>(by rw[h] at hr;cases hr),fun j hj=>?_⟩
  by_cases hji:j=i
  · subst hji;exact hy.wpOp hi ⟨fun _=>av _ _,H⟩
  · have:=ready_mono hj hji;rw[H.1] at this;cases this
 |succ fuel ih =>
  intro listed a w hfree hr hy H;refine⟨fun h=>(by rw[h] at hr;cases hr),fun j hj=>?_⟩
  by_cases hji:j=i
  · subst hji;exact hy.wpOp hi ⟨fun _=>av _ _,H⟩
  · have h1:=H.2 j (ready_mono hj hji);obtain⟨hjun,oj,hoj,hall⟩:=mem_ready.1 hj;have hapj:=(hfree j oj hoj hji hjun).resolve_left fun⟨m,hm⟩=>mV hr hm hj
    have h2:=El hoj hapj (fun cs b=>hsel i oi cs b hi) (fun cs b=>hsel j oj cs b hoj) hQ hy h1
    have hfree':∀k ok,ops[k]? =some ok->k≠i->(listed.setIfInBounds j true).getD k true=false ->
     (∃m,dQ ops (listed.setIfInBounds j true) i m k=true)\/oi.apart ops ok=true:=fun k ok hk hki hun=>by
     refine(hfree k ok hk hki ?_).imp (fun⟨m,hm⟩=>⟨m,lq hr hj m k hm⟩) id
     by_cases hjk:j=k
     · subst hjk;exact hjun
     · rw[getD_set_ne true hjk] at hun;exact hun
    refine wpOp_mono (fun a' w' h3=>⟨h3.2.1,ih (listed.setIfInBounds j true) a' w' hfree' (ready_mono hr (Ne.symm hji)) h3.1 ?_⟩) h2;rw[Array.setIfInBounds_comm _ _ hji];exact h3.2.2
def DU (ops:Array Oper) (listed:Array Bool) (i:Nat):Bool :=
 match ops[i]? with
 |none=>false
 |some oi=>(List.range ops.size).all fun j=>j ==i ||listed.getD j true ||match ops[j]? with
  |some oj=>oj.after.any (fun e=>Region.binds .any e && e.on ==i) ||(oi.apart ops oj ||dQ ops listed i 6 j)
  |none=>true
theorem CF {i:Nat}{listed:Array Bool}(hi:ops[i]? =some oi) (h:DU ops listed i=true) (j:Nat) (oj:Oper)
 (hj:ops[j]? =some oj) (hne:j≠i) (hun:listed.getD j true=false):(∃m,dQ ops listed i m j=true)\/oi.apart ops oj=true:=by
 simp only[DU,hi,List.all_eq_true,List.mem_range] at h;have h1:=h j (Array.getElem?_eq_some_iff.1 hj).1;simp only[hj,Bool.or_eq_true,beq_iff_eq,hne,false_or,hun,Bool.false_eq_true] at h1
 rcases h1 with h1|h1|h1
 · obtain⟨e,he,hb⟩:=Array.any_eq_true'.1 h1;simp only[Bool.and_eq_true,beq_iff_eq] at hb;exact .inl ⟨1,oM hj he hb.1 (.inl hb.2)⟩
 · exact .inr h1
 · exact .inl ⟨6,h1⟩
end
section
variable {P:Program}{n:Nat}{ops:Array Oper}{M:Nat->Prop}{keeps:Nat->Bool}{fuel:Nat}{listed:Array Bool}{ρ:Env}{h:ai}{N:Env->ai->Prop}{X:List PanicEntry->ai->Prop}
theorem RD.KE (i:Nat){listed':Array Bool}(ho':nth ops.toList i=some o) (hs:Region.noSelect ops=true) (hf:DU ops listed i=true) (hr:(Region.ready .any ops listed).contains i=true)
 (hw:aK ops ρ o=some true){od:Option Nat}(hod:o.dst=od) (hd:iG n od=true) (k:∀h',an P o ρ h' v) (hl:listed.setIfInBounds i true=listed')
 (next:RD P n ops M keeps fuel listed' (ρ.put od v) h N X):RD P n ops M keeps (fuel+1) listed ρ h N X:=by
 subst hl;subst hod;have ho:=dV ho';intro B a w hf' ha;exact BA ho (Region.noSelect_spec hs) (fun c a w hq=>⟨by cases hdd:o.dst<;>simpa [Act.put,hdd] using hq.1,hq.2⟩) fuel listed a w (CF ho hf) (by simpa using hr) (.inl ⟨cE hf' hw,fun w'=>k w'.heap n w' a w' hf' (rq w')⟩) (next B _ w (hf'.put hd v) ha)
theorem RD.bq (i:Nat){d:Nat}{listed':Array Bool}(ho:nth ops.toList i=some o) (hs:Region.noSelect ops=true) (hf:DU ops listed i=true) (hr:(Region.ready .any ops listed).contains i=true)
 (hw:aK ops ρ o=some true) (hod:o.dst=some d) (hd:Nat.blt d n=true) (k:∀h',an P o ρ h' v) (hl:listed.setIfInBounds i true=listed')
 (next:RD P n ops M keeps fuel listed' ((d,v)::ρ) h N X):RD P n ops M keeps (fuel+1) listed ρ h N X:=RD.KE i ho hs hf hr hw hod hd k hl next
end
end
end Go.Lw
namespace Go.Lw
open Go.RowKit
theorem uE {P:Program}(w:World) (dT sT ty elem:TypeId) (g o dLen dCap:Nat) (a:Addr) (sLen sCap:Nat) (cur:Array Value) (t:TypeId) (cs:List Value) (k sz:Nat)
 (hu:P.underlying dT=some (.slice elem)) (hs:(P.info? elem).map (·.size)=some sz)
 (hg:w.heap[g]? =some (.cells cur t (0,0))) (hm:Nat.min sLen dLen=k) (hn:cs.length=k*sz)
 (hsrc:∀j v,cs[j]? =some v->w.cell? (a.add j)=some v) (hfit:o+cs.length<=cur.size) (h1:∀v∈cs,v.oneCell'=true) :
 (Builtin.copy_ #[dT,sT] ty #[.slice (some ⟨g,o,none⟩) dLen dCap,.slice (some a) sLen sCap]).run P w =
  .ok (goInt k) (w.setRow g (cur.toList.take o++cs++cur.toList.drop (o+cs.length)).toArray):=by
 have hl:=run_loadCells_list (P:=P) w a cs hsrc;have hst:=run_storeCells_at P g o t cs 0 cur w hg (by simpa using hfit) h1;cases hq:P.info? elem with
 |none=>simp[hq] at hs
 |some i =>
  have hi:i.size=sz:=by simpa [hq] using hs
  simp[Builtin.copy_,run_underlying hu,Builtin.lenOf,Builtin.firstCells,sizeOf,typeInfo,hq,hi,hm,<-hn,hl,hst]
section
variable {P:Program}{ρ:Env}{h:ai}{dst:Option Nat}{ty:TypeId}{pos:String}{after:Array Edge}{guard:Option (Nat×Bool)}{X:List PanicEntry->ai->Prop}
theorem aH.Bj {t t' e:TypeId}{x y:Operand}{g o n c m d k sz bytes:Nat}{oa:Option Addr}{a:Addr}{cur cs:List Value}(hu:P.underlying t=some (.slice e)) (he:cD P e sz bytes)
 (hx:aT ρ x=some (.slice (some ⟨g,o,none⟩) n c)) (hy:aT ρ y=some (.slice oa m d)) (hoa:oa=some a) (hk:az h g e cur) (hsrc:∀j v,cs[j]? =some v->cellAt h (a.add j)=some v)
 (hm:Nat.min m n=k) (hn:cs.length=k*sz) (hfit:o+cs.length<=cur.length) (h1:∀v∈cs,v.oneCell'=true) :
 aH P ⟨dst,.call ⟨.builtin .copy,#[x,y],#[t,t']⟩,ty,pos,after,guard⟩ ρ h (fun u h'=>u= .int .i64 k/\az h' g e (over cur o cs)/\Ext (fun b=>b=g) h h'/\h'.size=h.size) X:=by
 subst hoa;obtain⟨⟨i,z',hi,hz',hsz,hby,hzs⟩,_⟩:=he;intro nn B a' w hf ha next Q hq _
 have hgw:w.heap[g]? =some (.cells cur.toArray e (0,0)):=by rw[ha.heap];exact hk
 have hrun0:=uE (P:=P) w t t' ty e g o n c a m d cur.toArray e cs k sz hu (by rw[hi];simp[hsz]) hgw hm hn (fun j v hv=>by rw[ha.cell];exact hsrc j v hv) (by simpa using hfit) h1
 have hrun:(execOp a'.eval ⟨dst,.call ⟨.builtin .copy,#[x,y],#[t,t']⟩,ty,pos,after,guard⟩).run P w= .ok (.value (.int .i64 k)) (w.setRow g (cur.toArray.toList.take o++cs++cur.toArray.toList.drop (o+cs.length)).toArray):=by
  simp[execOp,resolve,invoke,builtin,hf.eval hx,hf.eval hy,hrun0,goInt]
 unfold Oper.wp;rw[hrun];have e3:(cur.toArray.toList.take o++cs++cur.toArray.toList.drop (o+cs.length))=over cur o cs:=by simp[over]
 rw[e3];refine hq _ (setRow h g (over cur o cs).toArray) _ ⟨?_,ha.os,ha.tape,ha.output⟩ ⟨rfl,hk.whole _,Ext.setRow _ _ _ rfl,setRow_size _ _ _⟩;rw[<-ha.heap];rfl
end
section
variable {P:Program}{f:FuncId}{fn:Func}{k:List It}{ρ:Env}{h:ai}{R:Ending->ai->Prop}{p:List Nat}
theorem G.Gq {g:Operand}{ps:Array Tmp}{assign body:Code}{f':FuncId}{fn':Func}{caps:Array Value}(J S:ai->Prop) (hfn:P.funcs[f]? =some fn) (hk:Lw.sub (aq fn) p= .rangeFunc g ps assign body) (hg:aT ρ g=some (.func (.func f') #[] caps))
 (hfn':P.funcs[f']? =some fn') (hb':fn'.body.isSome=true) (hnm':(fn'.name == "runtime.NumGoroutine")=false)
 (hcall:∀fid tmps hL,Fits fn.ntmps ρ { tmps:=tmps,defers:=[] }->ah h hL->wE h.size (bK fid tmps ps assign body h.size) (fun _=>True) hL->aj P f' (#[.func (.yield (h.size+1)) #[] #[]]++caps) hL (aN fun _ h'=>wE h.size (bK fid tmps ps assign body h.size) J h'\/wE h.size (nJ (bK fid tmps ps assign body h.size)) S h'))
 (hend:∀g g1,J g->g[h.size]? =some (.deferred (some []))->h.size+1<g.size->Ext (fun b=>b=h.size+1) g g1->GD P (dF h.size) f fn k ρ g1 R)
 (hret:∀g g1,S g->h.size+1<g.size->Ext (fun b=>b=h.size\/b=h.size+1) g g1->∃vs,dS P ρ g1 fn.results.toList vs/\R (.returned (packed vs)) g1):G P f fn (.code p::k) ρ h R:=by
 refine G.EI hfn hk hg hfn' hb' hnm' fun fid tmps hf=>?_
 have e1:ah h ((h.push (.deferred (some []))).push (.loop (bK fid tmps ps assign body h.size))):=(Ext.push _ _ _).trans (Ext.push _ _ _);have hz:(h.push (.deferred (some []))).size=h.size+1:=by simp
 refine(hcall fid tmps _ hf e1 ⟨by rw[bY,<-hz];exact Array.getElem?_push_size,?_,trivial⟩).ret ?_
 · rw[(Ext.push (fun _=>False) (h.push (.deferred (some []))) _).block h.size (by simp) (fun k=>k)];exact Array.getElem?_push_size
 · rintro _ h' (⟨hl,hd,hj⟩|⟨hl,hd,hs⟩)
   · exact⟨_,hl,by simp[bK],.inl ⟨rfl,hend h' _ hj hd hl.lt (Ext.bA _ _ _ rfl)⟩⟩
   · exact⟨_,hl,by simp[bK],.inr ⟨rfl,hd,hret h' _ hs hl.lt ((Ext.bA _ _ _ (.inr rfl)).trans (Ext.bA _ _ _ (.inl rfl)))⟩⟩
end
theorem FC {P:Program}{ro:Option Nat}{n:Nat}{ops:Array Oper}{i:Nat}{ρ:Env}{h:ai}{N:Env->ai->Prop}{X:List PanicEntry->ai->Prop}{d:Nat}{b:Bool}(hb:ρ.at d=some (.bool b)) (ht:b=true->aV P ro n ops i ((d,.bool true)::ρ) h N X) (hn:b=false->aV P ro n ops i ((d,.bool false)::ρ) h N X):aV P ro n ops i ρ h N X:=by
 cases b with
 |true=>exact aV.aO hb rfl (ht rfl)
 |false=>exact aV.aO hb rfl (hn rfl)
end Go.Lw
namespace Go.Lw
open Go.ChangeShapes Go.WideShapes Go.ChangeAt Go.RowKit
variable {H:Type}{enc:TypeId×Value->H}{P:Program}
theorem zL {W:World}{base n:Nat}{t:TypeId}{fs:Array Field}{cs:List Value}{sp:Nat->Bool}{held:Bool}{y:DataW H×List MemPlace}(ht:P.underlying t=some (.struct fs)) (h:DataW.trod enc P W base sp held n t cs=some y) :
 ∃k,∀(i:Nat) (f:Field),fs[i]? =some f->∃z,DataW.trod enc P W base sp held k f.type ((cs.drop f.offset).take (P.cellsOf f.type))=some z:=by
 obtain⟨xs,k,_,_,_,hxl,hfl⟩:=DataW.trod_struct ht h;refine⟨k,fun i f hf=>?_⟩;have g:=hfl i f hf;have hi:i<fs.size:=(Array.getElem?_eq_some_iff.1 hf).1;rw[List.getElem?_eq_getElem (by omega)] at g;exact⟨_,g⟩
end Go.Lw
namespace Go.Lw
open Go.ChangeShapes Go.WideShapes Go.ChangeAt Go.RowKit
variable {H:Type}{enc:TypeId×Value->H}{P:Program}
theorem yo {a:Assume}{C:Checked}{os:Os}{f:FuncId}{fn:Func}{s:ChangeSpec}{conds:List PathCond}{apart fresh handsOn again:Bool}{X:World->Array Value->Prop}
 (hX:∀(w w':World) (args:Array Value),w.heap=w'.heap->X w args->X w' args)
 (own:ownKnob C.prog.godebug=none) (started:os.Started) (noInit:C.prog.inits.idxOf? f=none) (hfn:C.prog.funcs[f]? =some fn)
 (witness:∃(w:World) (tape:Tape) (i:Input),w.os=os/\(w.forCall tape i).Shaped C.prog/\i.vars=[]/\Input.okWide C.prog (w.forCall tape i) .any w.heap.size f i /\
  ((s.pre enc C.prog fn conds apart (w.forCall tape i).memory i.args/\X (w.forCall tape i).memory i.args)/\sizedMet enc C.prog fn (OpenSpec.ofChange s) apart (w.forCall tape i).memory i.args)/\a.holds C.prog (lone (Frame.enter C.prog f i.args .normal) [] (w.forCall tape i)))
 (contract:∀(W:World) (base:Nat) (args:Array Value) (ds gs:List (DataW H)) (before:List MemPlace),
  (∀(j:Nat) t v,fn.params[j]? =some t->args[j]? =some v->Value.okWide C.prog W .any base t v) ->
  DataW.Whole enc C.prog fn.params.toList s.vars apart W args.toList ds gs before->X W args->W.ShapedOpen C.prog ->
  (DataW.weightsEach C.prog (fn.params.toList++(OpenSpec.ofChange s).bare.plain.varTypes C.prog) (ds++gs)).all (· <=reachBytes)=true ->
  Calls C.prog f args W fun e W'=>∃v,e= .returned v/\s.post enc C.prog fn apart fresh handsOn again W args v W') :
 ReturnsInHanded a C os f .any (fun w args=>(s.pre enc C.prog fn conds apart w args/\X w args)/\sizedMet enc C.prog fn (OpenSpec.ofChange s) apart w args) (s.post enc C.prog fn apart fresh handsOn again):=by
 refine returnsInHanded_of_calls own started noInit witness ?_;intro w tape i _ hsh _ hok hpre _;obtain⟨_,_,_,fn',hfn',_,_,_,_,hval⟩:=hok;have e:fn'=fn:=Option.some.inj (hfn'.symm.trans hfn);subst e;obtain⟨⟨_,hx⟩,_,ds,gs,before,hw,hsz⟩:=hpre;have hw':=DataW.Whole.of_heap (w':=w.forCall tape i) (by rfl) hw;refine(contract (w.forCall tape i) w.heap.size i.args ds gs before hval hw' (hX _ _ _ (by rfl) hx) hsh hsz).mono fun e W' ⟨v,he,hp⟩=>?_
 subst he;exact ChangeSpec.post_blind hp
theorem IF {α:Type}{sz:Nat}{pos:0<sz}{en:α->List Value} {hl:∀x,(en x).length=sz} {h1:∀x,∀v∈en x,v.oneCell'=true}
 {W:World}{t e:TypeId}{fs:Array Field}{cs:List Value}{fuel:Nat}{x:DataW H×List MemPlace}(ht:P.underlying t=some (.slice e)) (he:P.underlying e=some (.struct fs)) (hC:P.cellsOf e=sz)
 (rd:∀(cs:List Value) (n:Nat),cs.length=sz->(∀(i:Nat) (f:Field),fs[i]? =some f->∃y,DataW.trod enc P W 0 (fun _=>true) true n f.type ((cs.drop f.offset).take (P.cellsOf f.type))=some y)->∃x:α,cs=en x)
 (hf:DataW.trod enc P W 0 (fun _=>true) true fuel t cs=some x):∃(v:Value) (l:List α),cs=[v]/\aR (.record sz pos en hl h1) W.heap (fun _=>False) v l/\∀B,(x.1.weights P t).all (· <=B)=true->l.length*P.bytesOf e<=B:=by
 rcases Deep.open_slice ht hf with ⟨hcs,hx⟩|⟨a,len',cap',m,n,D,Pl,hcs,_,hle,hm,hmm,hx,hel⟩
 · exact⟨_,[],hcs,aR.nil _ _ _,fun B _=>by simp⟩
 · simp only[if_true] at hmm;subst hmm
   have hspot0:0<len'->a.spot=none:=fun h0=>by
    obtain⟨cs',hc1,hc2⟩:=hel 0 (by omega);rw[hC] at hc1;obtain⟨_,hlen,hcell⟩:=World.cells?_some hc1;have h0:=hcell 0 (by omega);rw[List.getElem?_eq_getElem (by omega)] at h0;simpa [Addr.add] using World.cell?_spot h0
   obtain⟨l,hll,hlp⟩:=Bn (n:=len') (p:=fun i (x:α)=>∃b o,a=⟨b,o,none⟩/\rowAt W.heap b (o+i*sz) (en x)) (fun i hi=>by
    obtain⟨cs',hc1,hc2⟩:=hel i (by omega);rw[hC] at hc1;obtain⟨_,hlen,hcell⟩:=World.cells?_some hc1;obtain⟨k,hk⟩:=zL he hc2;obtain⟨x,hxe⟩:=rd cs' k hlen hk;refine⟨x,?_⟩;obtain⟨b,o,spot⟩:=a;have hspot:spot=none:=hspot0 (by omega);subst hspot;refine⟨b,o,rfl,fun j u hj=>?_⟩
    have hjl:j<sz:=by
     rcases Nat.lt_or_ge j sz with h2|h2
     · exact h2
     · rw[List.getElem?_eq_none (by rw[hl];exact h2)] at hj;cases hj
    have:=hcell j hjl;rw[Deep.add_add,Addr.add_mid,dm,hxe,hj] at this;rw[Nat.add_assoc];exact this)
   refine⟨_,l,hcs,⟨some a,len',_,rfl,hll,hle,hm,fun i x hx=>?_⟩,fun B hB=>?_⟩
   · obtain⟨b,o,ha,hr⟩:=hlp i x hx;exact⟨b,o,en x,by rw[ha],fun k=>k,hr,rfl⟩
   · rw[hx] at hB;unfold DataW.weights at hB;simp only[ht,List.all_cons,Bool.and_eq_true,decide_eq_true_eq,List.length_map,List.length_range] at hB;rw[hll];exact Nat.le_trans (Nat.mul_le_mul_right _ (by omega)) hB.1
theorem Ey {t0 t1:TypeId}{ts:List TypeId}{d0 d1:DataW H}{ds:List (DataW H)}{B:Nat}(h:(DataW.weightsEach P (t0::t1::ts) (d0::d1::ds)).all (· <=B)=true):(d0.weights P t0).all (· <=B)=true/\(d1.weights P t1).all (· <=B)=true:=by
 rw[DataW.weightsEach,DataW.weightsEach,List.all_append,List.all_append,Bool.and_eq_true,Bool.and_eq_true] at h;exact⟨h.1,h.2.1⟩
end Go.Lw
