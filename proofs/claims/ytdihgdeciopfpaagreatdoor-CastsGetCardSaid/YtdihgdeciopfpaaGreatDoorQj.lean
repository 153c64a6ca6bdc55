/- What the proof of the statement leans on (part 10). -/
import Derived.RangeFuncSeq
import Derived.RangeFuncRecord
import Derived.RangeFuncLeaves
import Derived.TacticsIn
import Derived.Test.YtdihgdeciopfpaaGreatDoorQi

namespace Go.Lw
open Go.RowKit
section
variable {h:au}{l n:Nat}{o:Oper}{r:Loop}{ro:Option Nat}{P:Program}{ρ:Env}{Φ:Value->au->Prop}
def bW (h:au) (l:Nat) (o:Obj):au:=h.setIfInBounds l o
theorem At.bW {B:World}{h:au}{w:World}(k:At B h w) (l:Nat) (o:Obj):At B (Lw.bW h l o) (w.putObj l o):=⟨by rw[<-k.heap];rfl,k.os,k.tape,k.output⟩
theorem DS (h:au) (l:Nat) (o:Obj):(bW h l o).size=h.size:=by simp[bW]
theorem fI {o:Obj}(hl:l<h.size):(bW h l o)[l]? =some o:=by simp[bW,hl]
theorem Ext.bW {M:Nat->Prop}(h:au) (l:Nat) (o:Obj) (hm:M l):Ext M h (Lw.bW h l o) :=
 ⟨by simp[DS],fun b _ hb=>by
  have hne:¬l=b:=fun e=>hb (e▸hm)
  simp[Lw.bW,Array.getElem?_setIfInBounds_ne hne]⟩
def cy (h:au) (l:Nat) (r:Loop):Prop:=h[l]? =some (.loop r)
theorem cy.lt (k:cy h l r):l<h.size:=(Array.getElem?_eq_some_iff.1 k).1
theorem cy.ext {M:Nat->Prop}{h':au}(k:cy h l r) (e:Ext M h h') (hm:¬M l):cy h' l r:=(e.block l k.lt hm).trans k
def FW (ro:Option Nat):Fence:= { Fence.wide with round:=ro }
theorem Eb (ro:Option Nat) (P:Program) (m:Machine):m.fenced P (FW ro):=fenced_wide P m
theorem sC {m m':Machine}(h:Steps P m m'):StepsIn (Machine.fenced P (FW ro)) P m m':=(StepsIn.of_steps h).mono fun m _=>Eb ro P m
theorem Gk {m m':Machine}{e:Ending}(h:Comes P m m' e):ComesIn (Machine.fenced P (FW ro)) P m m' e:=by
 cases e with
 |returned v=>exact sC h
 |panicked c=>exact sC h
 |outgrown=>exact h
theorem sD {f:FuncId}{args:Array Value}{w:World}{R:Ending->World->Prop}(h:Calls P f args w R):CallsIn (FW ro) n P f args w R :=
 ⟨trivial,fun cs _=>let ⟨e,w',fr,r,s,x⟩:=h cs;⟨e,w',fr,r,Gk s,x⟩⟩
theorem ax.OD {X:List PanicEntry->au->Prop}(k:ax P o ρ h Φ X) (hnd:∀c,o.op≠ .defer c){m:Nat}{B:World}{a:Act}{w:World}(hf:Fits n ρ a) (ha:At B h w)
 {next:Act->World->Prop}{Q:Exit->Act->World->Prop}(hn:∀v h' w',At B h' w'->Φ v h'->next (a.put o.dst v) w') (hx:∀ch h' w',At B h' w'->X ch h'->Q (.panic ch) a w'):o.wpIn (FW ro) m P a w next Q:=by
 have h0:=k n B a w hf ha next (fun e a' w'=>match e with|.panic ch=>Q (.panic ch) a' w'|_=>False) hn (fun ch h' w' ha' hv=>hx ch h' w' ha' hv)
 refine⟨fun _ _=>trivial,?_⟩;rw[Oper.semAt_eq _ _ _ hnd];unfold Oper.wp at h0;generalize (execOp a.eval o).run P w=r at *;have hdep:(FW ro).depth.isSome=true->1<=m:=fun h=>by simp[FW,Fence.wide] at h
 cases r with
 |ok x w' =>
  cases x<;>simp only[Oper.upon] at h0<;>simp only[Oper.uponIn]
  case value v=>exact h0
  case skip=>exact h0
  case defer d=>exact h0
  case enter g args =>
   refine⟨hdep,sD (h0.mono fun e w'' hr=>?_)⟩;cases e with
   |returned v=>exact hr
   |panicked c=>exact hr
   |outgrown=>obtain⟨a₁,w₁,h3⟩:=hr;exact h3.elim
  case row row args =>
   refine⟨hdep,fun c cs _=>?_⟩;obtain⟨v,w'',r,s⟩:=h0 c cs;exact⟨v,w'',r,sC s⟩
 |halt x w'=>cases x<;>simp only[Oper.upon] at h0<;>simp only[Oper.uponIn];exact h0
def bh (P:Program) (ro:Option Nat) (n:Nat) (ops:Array Oper) (i:Nat) (ρ:Env) (h:au) (N:Env->au->Prop) (X:List PanicEntry->au->Prop):Prop :=
 ∀m B a w,Fits n ρ a->At B h w->∀Q:Exit->Act->World->Prop,(∀ρ' h' a' w',Fits n ρ' a'->At B h' w'->N ρ' h'->Q .normal a' w') ->
  (∀ch h' a' w',a'.defers=[]->At B h' w'->X ch h'->Q (.panic ch) a' w')->wpOpsIn (FW ro) m P ops Q ((List.range ops.size).drop i) a w
def fU (o:Oper):Bool:=match o.op with|.defer _=>false|_=>true
theorem jC (h:fU o=true):∀c,o.op≠ .defer c:=fun c e=>by simp[fU,e] at h
def dn (P:Program) (l:Nat) (args:Array Value) (h:au) (R:Ending->au->Prop):Prop:=∀m B w,At B h w->YieldAt (FW none) m P l args w (lift B R)
section
variable {P:Program}{ro:Option Nat}{n:Nat}{ops:Array Oper}{i:Nat}{ρ:Env}{h:au}{N:Env->au->Prop}{X:List PanicEntry->au->Prop}
theorem bh.op (ho':nth ops.toList i=some o) (hg:o.guard=none) (hnd:fU o=true){od:Option Nat}(hod:o.dst=od) (hd:ir n od=true) (k:ax P o ρ h Φ X)
 (next:∀v h',Φ v h'->bh P ro n ops (i+1) (ρ.put od v) h' N X):bh P ro n ops i ρ h N X:=by
 subst hod;have ho:=dN ho';intro m B a w hf ha Q hN hX;rw[eP (fK ho)];simp only[wpOpsIn,ho];have hw:Region.wanted o (yielded ops a.tmps)=true:=by unfold Region.wanted;rw[hg]
 rw[hw,if_pos rfl];exact k.OD (jC hnd) hf ha (fun v h' w' ha' hv=>next v h' hv m B _ w' (hf.put hd v) ha' Q hN hX) (fun ch h' w' ha' hx=>hX ch h' a w' hf.nd ha' hx)
theorem bh.ou {d:Nat}(ho:nth ops.toList i=some o) (hg:o.guard=none) (hnd:fU o=true) (hod:o.dst=some d) (hd:Nat.blt d n=true) (k:ax P o ρ h Φ X)
 (next:∀v h',Φ v h'->bh P ro n ops (i+1) ((d,v)::ρ) h' N X):bh P ro n ops i ρ h N X:=bh.op ho hg hnd hod hd k next
theorem bh.bT (ho:nth ops.toList i=some o) (hg:o.guard=none) (hnd:fU o=true) (hod:o.dst=none) (k:ax P o ρ h Φ X)
 (next:∀v h',Φ v h'->bh P ro n ops (i+1) ρ h' N X):bh P ro n ops i ρ h N X:=bh.op ho hg hnd hod rfl k next
theorem bh.an {v:Value}{d:Nat}(ho:nth ops.toList i=some o) (hg:o.guard=none) (hnd:fU o=true) (hod:o.dst=some d) (hd:Nat.blt d n=true) (k:ai P o ρ h v)
 (next:bh P ro n ops (i+1) ((d,v)::ρ) h N X):bh P ro n ops i ρ h N X:=bh.ou ho hg hnd hod hd k.aX (fun _ _ ⟨hv,hh⟩=>by subst hv;subst hh;exact next)
theorem bh.done (hi:Nat.ble ops.size i=true) (next:N ρ h):bh P ro n ops i ρ h N X:=by
 intro m B a w hf ha Q hN _;have:ops.size<=i:=Nat.le_of_ble_eq_true hi;rw[List.drop_eq_nil_of_le (by simpa using this)];exact hN ρ h a w hf ha next
theorem bh.yield {o:Oper}{Φ:Value->au->Prop}{d l:Nat}{xf:Operand}{xs:Array Operand}{ts:Array TypeId}{vs:List Value}(ho':nth ops.toList i=some o) (hg:o.guard=none) (hop:o.op= .call ⟨.value xf,xs,ts⟩) (hod:o.dst=some d) (hd:Nat.blt d n=true)
 (hxf:bE ρ xf=some (.func (.yield l) #[] #[])) (hvs:xs.toList.map (bE ρ)=vs.map some) (k:dn P l vs.toArray h (bC Φ))
 (next:∀v h',Φ v h'->bh P none n ops (i+1) ((d,v)::ρ) h' N X):bh P none n ops i ρ h N X:=by
 have ho:=dN ho';intro m B a w hf ha Q hN hX;rw[eP (fK ho)];simp only[wpOpsIn,ho];have hw:Region.wanted o (yielded ops a.tmps)=true:=by unfold Region.wanted;rw[hg]
 rw[hw,if_pos rfl];refine⟨fun _ _=>trivial,?_⟩
 have hargs:xs.map a.eval=vs.toArray:=by
  apply Array.ext'
  simp only[Array.toList_map]
  have key:∀(l:List Operand) (us:List Value),l.map (bE ρ)=us.map some->l.map a.eval=us:=by
   intro l
   induction l with
   |nil=>intro us hu;cases us<;>simp_all
   |cons x r ih =>
    intro us hu;cases us with
    |nil=>simp at hu
    |cons u us =>
     simp only[List.map_cons,List.cons.injEq] at hu ⊢;exact⟨hf.eval hu.1,ih us hu.2⟩
  exact key _ _ hvs
 obtain⟨fn,tmps,assign,body,hy,hR⟩:=k (m-1) B w ha;rw[Oper.semAt_eq _ _ _ (fun c e=>by rw[hop] at e;cases e)]
 rw[show (execOp a.eval o).run P w= .ok (.round l fn tmps assign body) w by
  have h1:(invoke (.fn (.yield l) #[]) vs.toArray).run P w= .ok (.round l fn tmps assign body) w:=by rw[<-hy];rfl
  simp[execOp,hop,resolve,hf.eval hxf,Deferred.ofValue,hargs,h1]]
 simp only[Oper.uponIn];refine⟨fun h=>by simp[FW,Fence.wide] at h,hR.mono fun e w' ⟨h',ha',v,he,hp⟩=>?_⟩;subst he;exact next v h' hp m B _ w' (by rw[hod];exact hf.put (dst:=some d) hd v) ha' Q hN hX
end
theorem dn.of {args:Array Value}{id1 id2 idb:Nat}{ops1 ops2:Array Oper}(hl:cy h l r) (hst:r.state= .ready) (hsz:args.size=r.params.size)
 (ht:Fits n ρ { tmps:=(r.params.zip args).foldl (fun tmps (t,a)=>tmps.setIfInBounds t a) r.tmps,defers:=[] }) (ha1:r.assign= .region id1 ops1 false) (hb1:r.body= .block idb (.region id2 ops2 false))
 (walk:bh P (some l) n ops1 0 ρ h (fun ρ1 h1=>cy h1 l r/\bh P (some l) n ops2 0 ρ1 (bW h1 l (.loop { r with state:=.busy })) (fun _ h2=>∃r2,cy h2 l r2/\Φ (.bool true) (bW h2 l (.loop { r2 with state:=.ready,pending:=none }))) (fun _ _=>False)) (fun _ _=>False)) :
 dn P l args h (bC Φ):=by
 intro m B w ha;have hlw:w.heap[l]? =some (.loop r):=by rw[ha.heap];exact hl
 refine⟨_,_,_,_,run_yield hlw hsz,roundIn_of_wpIn trivial ?_⟩;rw[ha1,hb1];refine wpIn_region ?_;refine walk m B _ w ht ha _ ?_ (fun _ _ _ _ _ _ k=>k.elim);rintro ρ1 h1 a1 w1 hf1 hw1 ⟨hl1,walk2⟩;have hlw1:w1.heap[l]? =some (.loop r):=by rw[hw1.heap];exact hl1
 refine⟨_,run_beginRound hlw1 hst,?_⟩;refine wpIn_block (wpIn_region ?_);refine walk2 m B a1 _ hf1 (hw1.bW l _) _ ?_ (fun _ _ _ _ _ _ k=>k.elim);rintro ρ2 h2 a2 w2 hf2 hw2 ⟨r2,hl2,hΦ⟩;have hlw2:w2.heap[l]? =some (.loop r2):=by rw[hw2.heap];exact hl2
 exact⟨_,_,run_endRound none hlw2,_,hw2.bW l _,_,rfl,hΦ⟩
theorem zW {tmps:Array Value}{p1 p2:Nat}{v1 v2:Value}(hf:Fits n ρ { tmps:=tmps,defers:=[] }) (h1:Nat.blt p1 n=true) (h2:Nat.blt p2 n=true) :
 Fits n ((p2,v2)::(p1,v1)::ρ) { tmps:=((#[p1,p2]:Array Nat).zip #[v1,v2]).foldl (fun tmps (t,a)=>tmps.setIfInBounds t a) tmps,defers:=[] }:=by
 have:=(hf.put (dst:=some p1) h1 v1).put (dst:=some p2) h2 v2;simpa [Act.put,Env.put] using this
section
variable {P:Program}{f:FuncId}{fn:Func}{k:List It}{ρ:Env}{h:au}{R:Ending->au->Prop}{p:List Nat}
theorem G.DP (hfn:P.funcs[f]? =some fn) (hk:kind (Lw.sub (aG fn) p)=5)
 (next:bh P none fn.ntmps (opsOf (Lw.sub (aG fn) p)) 0 ρ h (fun ρ' h'=>G P f fn k ρ' h' R) (fun ch h'=>R (.panicked ch) h')):G P f fn (.code p::k) ρ h R:=by
 refine qz (fun B a w hf ha=>?_) hfn;cases hc:Lw.sub (aG fn) p<;>simp[hc,kind] at hk;rename_i id ops d;cases d<;>simp at hk;rw[hc] at next
 refine(wpIn_wide (n:=0)).1 (wpIn_region ?_)
 have:=next 0 B a w hf ha (fun e a' w'=>match e with
  |.normal=>∃ρ' h',Fits fn.ntmps ρ' a'/\At B h' w'/\G P f fn k ρ' h' R
  |.panic ch=>a'.defers=[]/\∃h',At B h' w'/\R (.panicked ch) h'
  |_=>False) (fun ρ' h' a' w' f' a'' hn=>⟨ρ',h',f',a'',hn⟩) (fun ch h' a' w' hd a'' hx=>⟨hd,h',a'',hx⟩)
 rw[List.drop_zero] at this;exact this
abbrev dD (b:Nat):List Deferred:=[{ target:=.collected b,args:= #[] }]
def ct (fid:FuncId) (tmps:Array Value) (ps:Array Tmp) (assign body:Code) (b:Nat):Loop:= { state:=.ready,pending:=none,fn:=fid,tmps:=tmps,params:=ps,assign:=assign,body:=body,defers:=b }
theorem G.rangeFunc {g:Operand}{ps:Array Tmp}{assign body:Code}{f':FuncId}{fn':Func}{caps:Array Value}(hk:Lw.sub (aG fn) p= .rangeFunc g ps assign body) (hg:bE ρ g=some (.func (.func f') #[] caps))
 (hfn':P.funcs[f']? =some fn') (hb':fn'.body.isSome=true) (hnm':(fn'.name == "runtime.NumGoroutine")=false)
 (hcall:∀fid tmps,Fits fn.ntmps ρ { tmps:=tmps,defers:=[] }->af P f' (#[.func (.yield (h.size+1)) #[] #[]]++caps) ((h.push (.deferred (some []))).push (.loop (ct fid tmps ps assign body h.size)))
  (bC fun _ h'=>∃r,cy h' (h.size+1) r/\r.state≠ .busy/\r.pending=none/\GD P (dD h.size) f fn k ρ (bW h' (h.size+1) (.loop { r with state:=.exhausted })) R)):G P f fn (.code p::k) ρ h R:=by
 intro B a w hf ha b hb hkk cs
 let Q:Exit->Act->World->Prop:=fun e a' w'=>match e with
  |.normal=>∃h',gS (dD h.size) fn.ntmps ρ a'/\At B h' w'/\GD P (dD h.size) f fn k ρ h' R
  |_=>False
 have hw:(Code.rangeFunc g ps assign body).wp P Q a w:=by
  refine(wpIn_wide (n:=0)).1 (wpIn_rangeFunc fun fid _=>?_);have hb2:fn'.body≠none:=by intro hbb;simp[hbb] at hb'
  have hnm2:¬fn'.name= "runtime.NumGoroutine" :=by simpa using hnm'
  have hf0:Fits fn.ntmps ρ { tmps:=a.tmps,defers:=[] }:=⟨hf.size,hf.ok,rfl⟩
  have ha2:At B ((h.push (.deferred (some []))).push (.loop (ct fid a.tmps ps assign body h.size))) ((w.alloc (.deferred (some []))).alloc (.loop (ct fid a.tmps ps assign body w.heap.size))):=by
   refine⟨?_,ha.os,ha.tape,ha.output⟩
   show ((w.heap.push _).push _)=_
   rw[ha.heap]
  let W1:World:=(w.alloc (.deferred (some []))).alloc (.loop (ct fid a.tmps ps assign body w.heap.size))
  refine⟨w.heap.size+1,dD w.heap.size,W1,{ target:=.fn (.func f') caps,args:= #[.func (.yield (w.heap.size+1)) #[] #[]] },W1,f',#[.func (.yield (w.heap.size+1)) #[] #[]]++caps,W1,run_enterLoop_outer fid a.tmps ps assign body,?_,fun _ _=>trivial,?_,fun h=>by simp[Fence.wide] at h,?_⟩
  · have hge:a.eval g= .func (.func f') #[] caps:=hf.eval hg;have hec:∀v,a.eval (.const v)=v:=fun _=>rfl
    simp[resolve,hge,Deferred.ofValue,hec]
  · simp[invoke,callFunc,hfn',hnm2,hb2]
  · refine sD (ro:=none) ((?_:Calls P f' (#[.func (.yield (w.heap.size+1)) #[] #[]]++caps) ((w.alloc (.deferred (some []))).alloc (.loop (ct fid a.tmps ps assign body w.heap.size))) _));have hc:=hcall fid a.tmps hf0 B _ ha2;rw[<-ha.heap] at hc;refine hc.mono fun e w3 he=>?_
    obtain⟨h3,ha3,v,rfl,r,hl,hnb,hpd,hgd⟩:=he;have hl3:w3.heap[w.heap.size+1]? =some (.loop r):=by rw[ha3.heap];exact hl
    refine⟨r.pending,_,run_endLoop hl3 hnb,?_⟩;split
    · refine⟨_,⟨hf.size,hf.ok,?_⟩,ha3.bW _ _,by rw[<-ha.heap];exact hgd⟩
      show dD w.heap.size++a.defers=dD h.size
      rw[hf.nd,ha.heap];rfl
    · rename_i hc;rw[hpd] at hc;cases hc
 obtain⟨e,a',w',hq,harr⟩:=hw b (k.map (aP (aG fn))) cs;have hit:(It.code p::k).map (aP (aG fn))=Item.code (Code.rangeFunc g ps assign body)::k.map (aP (aG fn)):=by simp[aP,hk]
 rw[hit];cases e with
 |normal =>
  obtain⟨h',f'',a'',hgd⟩:=hq;obtain⟨e,w'',fr,h'',h1,h2,h3,h4,h5⟩:=hgd B a' w' f'' a'' b hb hkk cs;exact⟨e,w'',fr,h'',h1,h2,.of_steps harr h3,h4,h5⟩
 |panic ch=>exact hq.elim
 |exit id=>exact hq.elim
 |goto l=>exact hq.elim
 |ret=>exact hq.elim
 |outgrown=>exact hq.elim
theorem GD.CW {b0:Nat}{vs:List Value}(hfn:P.funcs[f]? =some fn) (hk:kind (Lw.sub (aG fn) p)=4) (hm:h[b0]? =some (.deferred (some []))) (hr:fT ρ fn.results.toList=some vs) (hR:R (.returned (packed vs)) (bW h b0 (.deferred none))):GD P (dD b0) f fn (.code p::k) ρ h R:=by
 intro B a w hf ha b hb hkk cs
 have hstep:Go.step P (lone (b.at a ((It.code p::k).map (aP (aG fn)))) cs w)= .next (lone { b.at a ((It.code p::k).map (aP (aG fn))) with mode:=.returning } cs w):=by
  simp only[List.map_cons,aP];cases hc:Lw.sub (aG fn) p<;>simp[hc,kind] at hk
  · rename_i d;cases d<;>simp at hk
  · exact step_ret
 have htake:(Instr.takeDeferred b0).run P w= .ok [] (w.putObj b0 (.deferred none)):=run_takeDeferred (by rw[ha.heap];exact hm);have h2:=step_collected (P:=P) (fr:= { b.at a ((It.code p::k).map (aP (aG fn))) with mode:=.returning }) (cs:=cs) (by simp) (hf.nd:_=_) rfl htake;have hz:=hf.zero;exact⟨.returned (packed vs),_,_,_,ha.bW b0 _,hR,.head hstep (.one h2),hb,rfl,rfl,hkk,fn,(show P.funcs[b.fn]? =some fn by rw[hb];exact hfn),kQ hz _ hr⟩
end
theorem GD.aJ {D:List Deferred}{f:FuncId}{fn:Func}{k:List It}{R:Ending->au->Prop}{id:Nat}(next:GD P D f fn k ρ h R):GD P D f fn (.blk id::k) ρ h R :=
 xY (fun _ _ _ _=>step_inBlock) next
def HM:Code->Code|.rangeFunc _ _ a _=>a|c=>c
def HL:Code->Code|.rangeFunc _ _ _ b=>b|c=>c
theorem suff {p q:Prop}(h:p) (k:p->q):q:=k h
theorem ai.makeFunc {P:Program}{ρ:Env}{h:au}{dst:Option Nat}{ty:TypeId}{pos:String}{after:Array Edge}{guard:Option (Nat×Bool)}{g:Fn}{xs:Array Operand}{vs:List Value}(hvs:xs.toList.map (bE ρ)=vs.map some) :
 ai P ⟨dst,.makeFunc g #[] xs,ty,pos,after,guard⟩ ρ h (.func g #[] vs.toArray):=by
 intro _ B a w hf _
 have hargs:xs.map a.eval=vs.toArray:=by
  apply Array.ext'
  simp only[Array.toList_map]
  have key:∀(l:List Operand) (us:List Value),l.map (bE ρ)=us.map some->l.map a.eval=us:=by
   intro l
   induction l with
   |nil=>intro us hu;cases us<;>simp_all
   |cons x r ih =>
    intro us hu;cases us with
    |nil=>simp at hu
    |cons u us =>
     simp only[List.map_cons,List.cons.injEq] at hu ⊢;exact⟨hf.eval hu.1,ih us hu.2⟩
  exact key _ _ hvs
 simp[execOp,Instr.makeFunc,hargs]
end
end Go.Lw
namespace Go.Lw
theorem ax.nA {P:Program}{ρ:Env}{h:au}{dst:Option Nat}{ty:TypeId}{pos:String}{after:Array Edge}{guard:Option (Nat×Bool)}{X:List PanicEntry->au->Prop}{t e:TypeId}{bytes n:Nat}{x y:Operand}{kl kc:IntKind}{z:Value}
 (ht:P.underlying t=some (.slice e)) (he:de P e 1 bytes) (hz:(P.info? e).bind (·.zero)=some z) (hx:bE ρ x=some (.int kl (n:Nat))) (hy:bE ρ y=some (.int kc (n:Nat))) (hzc:z.cells= #[z]) (hn:n<=1000000000) (hb:bytes<=1000) :
 ax P ⟨dst,.makeSlice t x y,ty,pos,after,guard⟩ ρ h (fun u g=>u= .slice (some ⟨h.size,0,none⟩) n n/\aC g h.size e 1 u n (List.replicate n z)/\av h g) X:=by
 obtain⟨⟨i,z',hi,hz',hsz,hby,hzs⟩,_⟩:=he;have hzz:z'=z:=by rw[hi] at hz;simpa [hz'] using hz
 subst hzz;intro nn B a w hf ha next Q hnx _
 have hmul:i.bytes*n<=1000*1000000000:=Nat.mul_le_mul (by omega) hn;obtain⟨w',hr,h2,h3⟩:=run_make_full (P:=P) w h.size t e i z' 1 ht hi hz' hsz kl kc n (by omega) (by simp only[maxLen];omega) (by rw[ha.heap];exact Nat.le_refl _);unfold Oper.wp execOp;simp only[hf.eval hx,hf.eval hy,Sem.run_bind,Sem.run_pure,Result.andThen_ok,hr];refine hnx _ w'.heap w' (ha.grown h3) ⟨by rw[ha.heap],?_,?_⟩
 · have h4:=(At.own (ha.grown h3)).1 h2
   have:(madeCells z'.cells (n*1)).toList=List.replicate n z':=by
    rw[hzc,madeCells,Nat.mul_one]
    apply List.ext_getElem
    · simp
    · intro j h1 h2;simp[Nat.mod_one]
   rw[this] at h4;exact h4
 · have h5:=gO h3;rw[ha.heap] at h5;exact gP h5
end Go.Lw
